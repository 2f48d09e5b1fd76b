/- Slices of anything: where they lie, parts of them, elements that are structs; results of several values by number. No condition. -/
import Derived.Test.YtioonimpobcglaaDoorStB
import Derived.Test.YtioonimpobcglaaDoorRead
set_option linter.unusedSimpArgs false
set_option linter.unusedVariables false
namespace Go.Proofs.YtioonimpobcglaaDoor
open Go.RowKit

/-- Value i of a tuple. -/
def tupAt (v : Value) (i : Nat) : Value := match v with | .tuple vs => vs.getD i undef | _ => undef
theorem tupAt20 (x y : Value) : tupAt (.tuple #[x, y]) 0 = x := rfl
theorem tupAt21 (x y : Value) : tupAt (.tuple #[x, y]) 1 = y := rfl
theorem tupAt30 (x y z : Value) : tupAt (.tuple #[x, y, z]) 0 = x := rfl
theorem tupAt31 (x y z : Value) : tupAt (.tuple #[x, y, z]) 1 = y := rfl
theorem tupAt32 (x y z : Value) : tupAt (.tuple #[x, y, z]) 2 = z := rfl

/-- Cell i of an array or struct. -/
def aggAt (v : Value) (i : Nat) : Value := match v with | .agg vs => vs.getD i undef | _ => undef
theorem aggAt_agg (vs : Array Value) (i : Nat) : aggAt (.agg vs) i = vs.getD i undef := rfl

/-- Where a slice that is not empty lies. -/
theorem Sl.at {w : World} {size n : Nat} {v : Value} {xs : List Value} (h : Sl w size v n xs) (hn : n ≠ 0) :
    ∃ b off c, v = .slice (some ⟨b, off, none⟩) n c ∧ n ≤ c ∧ ∀ i u, xs[i]? = some u → w.cell? ⟨b, off + i, none⟩ = some u := by
  rcases h.2 with ⟨_, _, h0⟩ | ⟨b, off, c, hv, h1, _, hc⟩
  · exact absurd h0 hn
  · refine ⟨b, off, c, hv, h1, fun i u hu => ?_⟩
    obtain ⟨hi, rfl⟩ := List.getElem?_eq_some_iff.1 hu
    exact hc i hi

theorem Sl.atA {w : World} {size n c : Nat} {a : Option Addr} {xs : List Value} (h : Sl w size (.slice a n c) n xs) (hn : n ≠ 0) :
    ∃ b off, a = some ⟨b, off, none⟩ ∧ ∀ i u, xs[i]? = some u → w.cell? ⟨b, off + i, none⟩ = some u := by
  obtain ⟨b, off, c', hv, _, hc⟩ := h.at hn
  simp only [Value.slice.injEq, true_and] at hv
  exact ⟨b, off, hv.1, hc⟩

/-- The address of a part of a slice. -/
def cutA (a : Option Addr) (c l s : Nat) : Option Addr := if c = l then a else a.map (fun x => x.add (l * s))

theorem Sl.cut {w : World} {size n c : Nat} {a : Option Addr} {xs : List Value} (h : Sl w size (.slice a n c) n xs) (l m : Nat) (hn : l + m ≤ n) :
    Sl w size (.slice (cutA a c l size) m (c - l)) m ((xs.drop (l * size)).take (m * size)) := by
  obtain ⟨a', h1, h2⟩ := Sl.part h l m hn
  unfold cutA
  rw [h1]
  exact h2

theorem Bs.cut {w : World} {n c : Nat} {a : Option Addr} {xs : List UInt8} (h : Bs w (.slice a n c) xs) (l m : Nat) (hn : l + m ≤ n) (hl : xs.length = n) :
    Bs w (.slice (cutA a c l 1) m (c - l)) ((xs.drop l).take m) := by
  have h2 := Sl.cut (size := 1) (show Sl w 1 (.slice a n c) n (xs.map by8) by unfold Bs at h; rwa [hl] at h) l m hn
  have e : ((xs.drop l).take m).length = m := by simp; omega
  unfold Bs
  rw [e, List.map_take, List.map_drop]
  simpa using h2

theorem Bs.cutH {w : World} {n c : Nat} {a : Option Addr} {xs : List UInt8} (h : Bs w (.slice a n c) xs) (m : Nat) (hn : m ≤ n) (hl : xs.length = n) : Bs w (.slice (cutA a c 0 1) m c) (xs.take m) := by
  have := h.cut 0 m (by omega) hl
  simpa using this

theorem Bs.cutL {w : World} {n c : Nat} {a : Option Addr} {xs : List UInt8} (h : Bs w (.slice a n c) xs) (l : Nat) (hn : l ≤ n) (hl : xs.length = n) : Bs w (.slice (cutA a c l 1) (n - l) (c - l)) (xs.drop l) := by
  have := h.cut l (n - l) (by omega) hl
  rwa [List.take_of_length_le (by simp; omega)] at this

section
variable {P : Program} {ops : Array Oper} {rest : List Oper} {a : Act} {w0 w : World} {l F : List Res} {Q : Exit → Act → World → Prop} {dst : Option Tmp} {ty : TypeId} {pos : String} {after : Array Edge} {gd : Option (Nat × Bool)} {Post : Value → World → Prop} {g0 : Nat} {old : Array Value} {t' : TypeId}

theorem run_cutL (t e s : Nat) (ht : P.underlying t = some (.slice e)) (hs : (P.info? e).map (·.size) = some s) (a0 : Option Addr) (n c : Nat) (k : IntKind) (i : Int) (lo : Nat) (hi : i = (lo : Int)) (hl : lo ≤ n) (w : World) :
    (Instr.sliceAt t (.slice a0 n c) (some (.int k i)) none none).run P w = .ok (.slice (cutA a0 c lo s) (n - lo) (c - lo)) w := by
  subst hi
  have he : P.elem t = e := by simp [Program.elem, ht]
  have ht' : P.underlying t = some (.slice (P.elem t)) := by rw [he]; exact ht
  cases hq : P.info? e with
  | none => simp [hq] at hs
  | some i =>
    have h1 : i.size = s := by simpa [hq] using hs
    rw [run_sliceAt_slice (w := w) t _ _ _ _ ht', run_slice_l (w := w) t a0 n c ht' k lo (by omega) (by omega)]
    simp [sizeOf, typeInfo, he, hq, h1, sliced, cutA]

theorem run_cutH (t e s : Nat) (ht : P.underlying t = some (.slice e)) (hs : (P.info? e).map (·.size) = some s) (a0 : Option Addr) (n c : Nat) (k : IntKind) (i : Int) (hi' : Nat) (hi : i = (hi' : Int)) (hl : hi' ≤ c) (w : World) :
    (Instr.sliceAt t (.slice a0 n c) none (some (.int k i)) none).run P w = .ok (.slice (cutA a0 c 0 s) hi' c) w := by
  subst hi
  have he : P.elem t = e := by simp [Program.elem, ht]
  have ht' : P.underlying t = some (.slice (P.elem t)) := by rw [he]; exact ht
  cases hq : P.info? e with
  | none => simp [hq] at hs
  | some i =>
    have h1 : i.size = s := by simpa [hq] using hs
    rw [run_sliceAt_slice (w := w) t _ _ _ _ ht', run_slice_h (w := w) t a0 n c ht' k hi' (by omega) (by omega)]
    simp [sizeOf, typeInfo, he, hq, h1, sliced, cutA]

theorem run_cutLH (t e s : Nat) (ht : P.underlying t = some (.slice e)) (hs : (P.info? e).map (·.size) = some s) (a0 : Option Addr) (n c : Nat) (k k' : IntKind) (i j : Int) (lo hi' : Nat) (hi : i = (lo : Int)) (hj : j = (hi' : Int)) (h1 : lo ≤ hi') (hl : hi' ≤ c) (w : World) :
    (Instr.sliceAt t (.slice a0 n c) (some (.int k i)) (some (.int k' j)) none).run P w = .ok (.slice (cutA a0 c lo s) (hi' - lo) (c - lo)) w := by
  subst hi
  subst hj
  have he : P.elem t = e := by simp [Program.elem, ht]
  have ht' : P.underlying t = some (.slice (P.elem t)) := by rw [he]; exact ht
  cases hq : P.info? e with
  | none => simp [hq] at hs
  | some i =>
    have h2 : i.size = s := by simpa [hq] using hs
    rw [run_sliceAt_slice (w := w) t _ _ _ _ ht', run_slice_lh (w := w) t a0 n c ht' k k' lo hi' (by omega) (by omega) (by omega)]
    simp [sizeOf, typeInfo, he, hq, h2, sliced, cutA]

/-- 's[l:]' -/
theorem step_cutL (t e s : Nat) (x y : Operand) (a0 : Option Addr) (n c : Nat) (k : IntKind) (i : Int) (lo : Nat) (hx : a.eval x = .slice a0 n c) (hy : a.eval y = .int k i) (hi : i = (lo : Int)) (hl : lo ≤ n) (ht : P.underlying t = some (.slice e)) (hs : (P.info? e).map (·.size) = some s)
    (hw : Region.wanted ⟨dst, .slice t x (some y) none none, ty, pos, after, gd⟩ (yielded ops a.tmps) = true)
    (h : wpList P ops Q rest (a.put dst (.slice (cutA a0 c lo s) (n - lo) (c - lo))) w) : wpList P ops Q (⟨dst, .slice t x (some y) none none, ty, pos, after, gd⟩ :: rest) a w := by
  refine step_val (v := .slice (cutA a0 c lo s) (n - lo) (c - lo)) hw ?_ h
  have := run_cutL (P := P) t e s ht hs a0 n c k i lo hi hl w
  simp only [execOp, hx, hy, Option.map_some, Option.map_none, Sem.run_bind, this, Result.andThen_ok, Sem.run_pure]

theorem does_cutL (t e s : Nat) (x y : Operand) (a0 : Option Addr) (n c : Nat) (k : IntKind) (i : Int) (lo : Nat) (hx : a.eval x = .slice a0 n c) (hy : a.eval y = .int k i) (hi : i = (lo : Int)) (hl : lo ≤ n) (ht : P.underlying t = some (.slice e)) (hs : (P.info? e).map (·.size) = some s)
    (h : Post (.slice (cutA a0 c lo s) (n - lo) (c - lo)) w) : does P a.eval ⟨dst, .slice t x (some y) none none, ty, pos, after, gd⟩ w Post := by
  refine does_val (v := .slice (cutA a0 c lo s) (n - lo) (c - lo)) ?_ h
  have := run_cutL (P := P) t e s ht hs a0 n c k i lo hi hl w
  simp only [execOp, hx, hy, Option.map_some, Option.map_none, Sem.run_bind, this, Result.andThen_ok, Sem.run_pure]

/-- 's[:h]' -/
theorem step_cutH (t e s : Nat) (x y : Operand) (a0 : Option Addr) (n c : Nat) (k : IntKind) (i : Int) (hi' : Nat) (hx : a.eval x = .slice a0 n c) (hy : a.eval y = .int k i) (hi : i = (hi' : Int)) (hl : hi' ≤ c) (ht : P.underlying t = some (.slice e)) (hs : (P.info? e).map (·.size) = some s)
    (hw : Region.wanted ⟨dst, .slice t x none (some y) none, ty, pos, after, gd⟩ (yielded ops a.tmps) = true)
    (h : wpList P ops Q rest (a.put dst (.slice (cutA a0 c 0 s) hi' c)) w) : wpList P ops Q (⟨dst, .slice t x none (some y) none, ty, pos, after, gd⟩ :: rest) a w := by
  refine step_val (v := .slice (cutA a0 c 0 s) hi' c) hw ?_ h
  have := run_cutH (P := P) t e s ht hs a0 n c k i hi' hi hl w
  simp only [execOp, hx, hy, Option.map_some, Option.map_none, Sem.run_bind, this, Result.andThen_ok, Sem.run_pure]

theorem does_cutH (t e s : Nat) (x y : Operand) (a0 : Option Addr) (n c : Nat) (k : IntKind) (i : Int) (hi' : Nat) (hx : a.eval x = .slice a0 n c) (hy : a.eval y = .int k i) (hi : i = (hi' : Int)) (hl : hi' ≤ c) (ht : P.underlying t = some (.slice e)) (hs : (P.info? e).map (·.size) = some s)
    (h : Post (.slice (cutA a0 c 0 s) hi' c) w) : does P a.eval ⟨dst, .slice t x none (some y) none, ty, pos, after, gd⟩ w Post := by
  refine does_val (v := .slice (cutA a0 c 0 s) hi' c) ?_ h
  have := run_cutH (P := P) t e s ht hs a0 n c k i hi' hi hl w
  simp only [execOp, hx, hy, Option.map_some, Option.map_none, Sem.run_bind, this, Result.andThen_ok, Sem.run_pure]

/-- 's[l:h]' -/
theorem step_cutLH (t e s : Nat) (x y z : Operand) (a0 : Option Addr) (n c : Nat) (k k' : IntKind) (i j : Int) (lo hi' : Nat) (hx : a.eval x = .slice a0 n c) (hy : a.eval y = .int k i) (hz : a.eval z = .int k' j) (hi : i = (lo : Int)) (hj : j = (hi' : Int)) (h1 : lo ≤ hi') (hl : hi' ≤ c) (ht : P.underlying t = some (.slice e)) (hs : (P.info? e).map (·.size) = some s)
    (hw : Region.wanted ⟨dst, .slice t x (some y) (some z) none, ty, pos, after, gd⟩ (yielded ops a.tmps) = true)
    (h : wpList P ops Q rest (a.put dst (.slice (cutA a0 c lo s) (hi' - lo) (c - lo))) w) : wpList P ops Q (⟨dst, .slice t x (some y) (some z) none, ty, pos, after, gd⟩ :: rest) a w := by
  refine step_val (v := .slice (cutA a0 c lo s) (hi' - lo) (c - lo)) hw ?_ h
  have := run_cutLH (P := P) t e s ht hs a0 n c k k' i j lo hi' hi hj h1 hl w
  simp only [execOp, hx, hy, hz, Option.map_some, Option.map_none, Sem.run_bind, this, Result.andThen_ok, Sem.run_pure]

theorem does_cutLH (t e s : Nat) (x y z : Operand) (a0 : Option Addr) (n c : Nat) (k k' : IntKind) (i j : Int) (lo hi' : Nat) (hx : a.eval x = .slice a0 n c) (hy : a.eval y = .int k i) (hz : a.eval z = .int k' j) (hi : i = (lo : Int)) (hj : j = (hi' : Int)) (h1 : lo ≤ hi') (hl : hi' ≤ c) (ht : P.underlying t = some (.slice e)) (hs : (P.info? e).map (·.size) = some s)
    (h : Post (.slice (cutA a0 c lo s) (hi' - lo) (c - lo)) w) : does P a.eval ⟨dst, .slice t x (some y) (some z) none, ty, pos, after, gd⟩ w Post := by
  refine does_val (v := .slice (cutA a0 c lo s) (hi' - lo) (c - lo)) ?_ h
  have := run_cutLH (P := P) t e s ht hs a0 n c k k' i j lo hi' hi hj h1 hl w
  simp only [execOp, hx, hy, hz, Option.map_some, Option.map_none, Sem.run_bind, this, Result.andThen_ok, Sem.run_pure]

/-- The cells of one element of a slice of structs. -/
theorem Sl.elem {α : Type} {w : World} {size n b off c : Nat} {xs : List α} {f : α → List Value} (h : Sl w size (.slice (some ⟨b, off, none⟩) n c) n (xs.flatMap f)) (hf : ∀ x, (f x).length = size) (hs : 0 < size) (i : Nat) (x : α) (hx : xs[i]? = some x) :
    w.rangeAt b (off + i * size) (f x) := by
  intro j v hv
  obtain ⟨hi, rfl⟩ := List.getElem?_eq_some_iff.1 hx
  obtain ⟨hj, _⟩ := List.getElem?_eq_some_iff.1 hv
  rw [hf] at hj
  have hlen : (xs.flatMap f).length = xs.length * size := by
    rw [List.length_flatMap]
    have : (xs.map fun y => (f y).length) = List.replicate xs.length size := by
      apply List.ext_getElem <;> simp [hf]
    rw [this, List.sum_replicate_nat]
  have hn : n ≠ 0 := by
    have := h.1
    rw [hlen] at this
    have h0 : 0 < xs.length * size := Nat.mul_pos (by omega) hs
    intro e
    rw [e] at this
    omega
  obtain ⟨b', off', c', he, _, hc⟩ := h.at hn
  simp only [Value.slice.injEq, Option.some.injEq, Addr.mk.injEq, and_true, true_and] at he
  obtain ⟨⟨rfl, rfl⟩, rfl⟩ := he
  rw [Nat.add_assoc]
  refine hc (i * size + j) v ?_
  rw [← hv]
  exact flat_get f size hf xs i j hi hj

theorem run_loadAt_range (w : World) (b off : Nat) (t : TypeId) (cs : List Value) (hr : w.rangeAt b off cs) (d : TypeDesc) (hu : P.underlying t = some d) (hd : (match d with | .struct _ | .array _ _ => true | _ => false) = true) (n : Nat) (hi : (P.info? t).map (·.size) = some n) (hn : cs.length = n) :
    (Instr.loadAt t (.pointer (some ⟨b, off, none⟩))).run P w = .ok (.agg cs.toArray) w := by
  subst hn
  exact run_loadAt_mid (P := P) w b off t cs d hr hu (by cases d <;> simp_all [TypeDesc.isRow]) hi

/-- An array or struct is loaded from anywhere. -/
theorem step_loadR (t : TypeId) (x : Operand) (b off : Nat) (hx : a.eval x = .pointer (some ⟨b, off, none⟩)) (cs : List Value) (hr : w.rangeAt b off cs) (d : TypeDesc) (hu : P.underlying t = some d) (hd : (match d with | .struct _ | .array _ _ => true | _ => false) = true) (n : Nat) (hi : (P.info? t).map (·.size) = some n) (hn : cs.length = n) (arr : Array Value) (ha : cs.toArray = arr)
    (hw : Region.wanted ⟨dst, .load t x, ty, pos, after, gd⟩ (yielded ops a.tmps) = true)
    (h : wpList P ops Q rest (a.put dst (.agg arr)) w) : wpList P ops Q (⟨dst, .load t x, ty, pos, after, gd⟩ :: rest) a w := by
  subst ha
  refine step_val (v := .agg cs.toArray) hw ?_ h
  have := run_loadAt_range (P := P) w b off t cs hr d hu hd n hi hn
  simp only [execOp, hx, Sem.run_bind, this, Result.andThen_ok, Sem.run_pure]

theorem does_loadR (t : TypeId) (x : Operand) (b off : Nat) (hx : a.eval x = .pointer (some ⟨b, off, none⟩)) (cs : List Value) (hr : w.rangeAt b off cs) (d : TypeDesc) (hu : P.underlying t = some d) (hd : (match d with | .struct _ | .array _ _ => true | _ => false) = true) (n : Nat) (hi : (P.info? t).map (·.size) = some n) (hn : cs.length = n) (arr : Array Value) (ha : cs.toArray = arr)
    (h : Post (.agg arr) w) : does P a.eval ⟨dst, .load t x, ty, pos, after, gd⟩ w Post := by
  subst ha
  refine does_val (v := .agg cs.toArray) ?_ h
  have := run_loadAt_range (P := P) w b off t cs hr d hu hd n hi hn
  simp only [execOp, hx, Sem.run_bind, this, Result.andThen_ok, Sem.run_pure]

/-- The cells of an array or struct. -/
def aggCells (v : Value) : Array Value := match v with | .agg vs => vs | _ => #[]
theorem aggCells_agg (vs : Array Value) : aggCells (.agg vs) = vs := rfl

theorem does_store (S : Has w0 w (blk g0 (.cells old t' (0, 0)) :: F)) (t : TypeId) (x y : Operand) (cells : Array Value) (hx : a.eval x = .pointer (some ⟨g0, 0, none⟩)) (hy : a.eval y = .agg cells)
    (n : Nat) (hi : (P.info? t).map (·.size) = some n) (hn : cells.size = n) (ho : old.size = n) (h1 : cells.all (·.oneCell') = true)
    (h : ∀ w', Has w0 w' (blk g0 (.cells cells t' (0, 0)) :: F) → Post undef w') : does P a.eval ⟨dst, .store t x y, ty, pos, after, gd⟩ w Post := by
  refine does_unit (w' := w.setRow g0 cells) ?_ (h _ S.setRow)
  have := run_storeAt_row (P := P) w g0 t t' old cells (S.holds (blk g0 (.cells old t' (0, 0))) (by simp)) n hi hn ho h1
  simp only [execOp, hx, hy, Sem.run_bind, this, Result.andThen_ok, Sem.run_pure]

/-- A field of a struct's value. -/
theorem step_field (t : TypeId) (x : Operand) (i : Nat) (v v' : Value) (hx : a.eval x = v) (hr : (Instr.field t v i).run P w = .ok v' w)
    (hw : Region.wanted ⟨dst, .field t x i, ty, pos, after, gd⟩ (yielded ops a.tmps) = true)
    (h : wpList P ops Q rest (a.put dst v') w) : wpList P ops Q (⟨dst, .field t x i, ty, pos, after, gd⟩ :: rest) a w := by
  refine step_val (v := v') hw ?_ h
  simp only [execOp, hx, Sem.run_bind, hr, Result.andThen_ok, Sem.run_pure]

theorem does_field (t : TypeId) (x : Operand) (i : Nat) (v v' : Value) (hx : a.eval x = v) (hr : (Instr.field t v i).run P w = .ok v' w)
    (h : Post v' w) : does P a.eval ⟨dst, .field t x i, ty, pos, after, gd⟩ w Post := by
  refine does_val (v := v') ?_ h
  simp only [execOp, hx, Sem.run_bind, hr, Result.andThen_ok, Sem.run_pure]

theorem Has.old_range {b off : Nat} {cs : List Value} (S : Has w0 w l) (h : w0.rangeAt b off cs) : w.rangeAt b off cs := fun j v hj => S.old_cell (h j v hj)
end
end Go.Proofs.YtioonimpobcglaaDoor
