/- More single operations on memory that a call owns: parts of a block, cells of a slice of one's own, conversions, new slices. No condition. -/
import Derived.Test.YtioonimpobcglaaDoorRely
import Derived.Deep.MidRow
set_option linter.unusedSimpArgs false
set_option linter.unusedVariables false
namespace Go.Proofs.YtioonimpobcglaaDoor
open Go.RowKit

section
variable {P : Program} {ops : Array Oper} {rest : List Oper} {a : Act} {w0 w : World} {l F : List Res} {Q : Exit → Act → World → Prop} {dst : Option Tmp} {ty : TypeId} {pos : String} {after : Array Edge} {gd : Option (Nat × Bool)} {Post : Value → World → Prop}

theorem run_loadAt_part (w : World) (g off : Nat) (t t' : TypeId) (cs : Array Value) (fr : Nat × Nat) (sub : Array Value) (n : Nat) (hg : w.heap[g]? = some (.cells cs t' fr)) (hs : ((cs.toList.drop off).take n).toArray = sub) (hl : sub.size = n)
    (d : TypeDesc) (hu : P.underlying t = some d) (hd : (match d with | .struct _ | .array _ _ => true | _ => false) = true) (hi : (P.info? t).map (·.size) = some n) :
    (Instr.loadAt t (.pointer (some ⟨g, off, none⟩))).run P w = .ok (.agg sub) w := by
  subst hs
  have hl2 : ((cs.toList.drop off).take n).length = n := by simpa using hl
  exact run_loadAt_mid (P := P) w g off t ((cs.toList.drop off).take n) d (rangeAt_of_row hg off n) hu (by cases d <;> simp_all [TypeDesc.isRow]) (by rw [hl2]; exact hi)

/-- A part of a block is loaded. -/
theorem step_loadP (S : Has w0 w l) (t : TypeId) (x : Operand) (g off : Nat) (hx : a.eval x = .pointer (some ⟨g, off, none⟩)) (t' : TypeId) (cs : Array Value) (fr : Nat × Nat) (hp : Pick l (blk g (.cells cs t' fr)) F) (n : Nat) (sub : Array Value) (hs : ((cs.toList.drop off).take n).toArray = sub) (hl : sub.size = n)
    (d : TypeDesc) (hu : P.underlying t = some d) (hd : (match d with | .struct _ | .array _ _ => true | _ => false) = true) (hi : (P.info? t).map (·.size) = some n)
    (hw : Region.wanted ⟨dst, .load t x, ty, pos, after, gd⟩ (yielded ops a.tmps) = true)
    (h : wpList P ops Q rest (a.put dst (.agg sub)) w) : wpList P ops Q (⟨dst, .load t x, ty, pos, after, gd⟩ :: rest) a w := by
  refine step_val (v := .agg sub) hw ?_ h
  have := run_loadAt_part (P := P) w g off t t' cs fr sub n (S.get hp) hs hl d hu hd hi
  simp only [execOp, hx, Sem.run_bind, this, Result.andThen_ok, Sem.run_pure]

theorem does_loadP (S : Has w0 w l) (t : TypeId) (x : Operand) (g off : Nat) (hx : a.eval x = .pointer (some ⟨g, off, none⟩)) (t' : TypeId) (cs : Array Value) (fr : Nat × Nat) (hp : Pick l (blk g (.cells cs t' fr)) F) (n : Nat) (sub : Array Value) (hs : ((cs.toList.drop off).take n).toArray = sub) (hl : sub.size = n)
    (d : TypeDesc) (hu : P.underlying t = some d) (hd : (match d with | .struct _ | .array _ _ => true | _ => false) = true) (hi : (P.info? t).map (·.size) = some n)
    (h : Post (.agg sub) w) : does P a.eval ⟨dst, .load t x, ty, pos, after, gd⟩ w Post := by
  refine does_val (v := .agg sub) ?_ h
  have := run_loadAt_part (P := P) w g off t t' cs fr sub n (S.get hp) hs hl d hu hd hi
  simp only [execOp, hx, Sem.run_bind, this, Result.andThen_ok, Sem.run_pure]

theorem does_load (t : TypeId) (x : Operand) (g : Nat) (hx : a.eval x = .pointer (some ⟨g, 0, none⟩)) (t' : TypeId) (cs : Array Value) (fr : Nat × Nat) (hg : w.heap[g]? = some (.cells cs t' fr))
    (d : TypeDesc) (hu : P.underlying t = some d) (hd : (match d with | .struct _ | .array _ _ => true | _ => false) = true) (n : Nat) (hi : (P.info? t).map (·.size) = some n) (hn : cs.size = n)
    (h : Post (.agg cs) w) : does P a.eval ⟨dst, .load t x, ty, pos, after, gd⟩ w Post := by
  refine does_val (v := .agg cs) ?_ h
  have := run_loadAt_row (P := P) w g t t' cs fr hg d hu hd n hi hn
  simp only [execOp, hx, Sem.run_bind, this, Result.andThen_ok, Sem.run_pure]

theorem does_load1 (t : TypeId) (x : Operand) (a0 : Addr) (v : Value) (hx : a.eval x = .pointer (some a0)) (hc : w.cell? a0 = some v) (d : TypeDesc) (hu : P.underlying t = some d) (hd : (match d with | .struct _ | .array _ _ => false | _ => true) = true)
    (h : Post v w) : does P a.eval ⟨dst, .load t x, ty, pos, after, gd⟩ w Post := by
  refine does_val (v := v) ?_ h
  have := run_loadAt_cell (P := P) w a0 t v d hu hd hc
  simp only [execOp, hx, Sem.run_bind, this, Result.andThen_ok, Sem.run_pure]

/-- Bytes become a string. -/
theorem step_conv (src dt e : TypeId) (x : Operand) (v : Value) (xs : List UInt8) (hx : a.eval x = v) (hs : P.underlying src = some (.slice e)) (he : P.underlying e = some (.int .u8)) (hd : P.underlying dt = some .string) (hv : Bs w v xs)
    (hw : Region.wanted ⟨dst, .convert src dt x, ty, pos, after, gd⟩ (yielded ops a.tmps) = true)
    (h : wpList P ops Q rest (a.put dst (.string (strB xs))) w) : wpList P ops Q (⟨dst, .convert src dt x, ty, pos, after, gd⟩ :: rest) a w := by
  refine step_val (v := .string (strB xs)) hw ?_ h
  have := hv.conv (P := P) src dt e hs he hd
  simp only [execOp, hx, Sem.run_bind, this, Result.andThen_ok, Sem.run_pure]

theorem does_conv (src dt e : TypeId) (x : Operand) (v : Value) (xs : List UInt8) (hx : a.eval x = v) (hs : P.underlying src = some (.slice e)) (he : P.underlying e = some (.int .u8)) (hd : P.underlying dt = some .string) (hv : Bs w v xs)
    (h : Post (.string (strB xs)) w) : does P a.eval ⟨dst, .convert src dt x, ty, pos, after, gd⟩ w Post := by
  refine does_val (v := .string (strB xs)) ?_ h
  have := hv.conv (P := P) src dt e hs he hd
  simp only [execOp, hx, Sem.run_bind, this, Result.andThen_ok, Sem.run_pure]

theorem run_buildSlice0 (t e : TypeId) (ht : P.underlying t = some (.slice e)) (s : Nat) (hs : (P.info? e).map (·.size) = some s) (w : World) : (Instr.buildSlice t 0 #[]).run P w = .ok (.slice (some ⟨w.heap.size, 0, none⟩) 0 0) (w.alloc (.cells #[] e)) := by
  cases hq : P.info? e with
  | none => simp [hq] at hs
  | some i =>
    have h0 : (Array.map (fun _ => (default : Value)) (Array.range 0)) = #[] := by simp
    simp [Instr.buildSlice, run_underlying ht, sizeOf, typeInfo, hq, Instr.fill, newRow, newObj]
    simp [h0]
    rfl

theorem Has.row_empty (S : Has w0 w l) (e size : Nat) : Has w0 (w.alloc (.cells #[] e)) (row (.slice (some ⟨w.heap.size, 0, none⟩) 0 0) e size 0 [] :: l) :=
  S.call (Has.of_own (below1 w _) (World.ownsRow_made w #[] 0 (Nat.le_refl _) (by decide) (by simp)))

/-- A new slice without elements. -/
theorem step_build0 (S : Has w0 w l) (t e : TypeId) (ht : P.underlying t = some (.slice e)) (s : Nat) (hs : (P.info? e).map (·.size) = some s)
    (hw : Region.wanted ⟨dst, .buildSlice t 0 #[], ty, pos, after, gd⟩ (yielded ops a.tmps) = true)
    (h : ∀ v w', Has w0 w' (row v e s 0 [] :: l) → wpList P ops Q rest (a.put dst v) w') : wpList P ops Q (⟨dst, .buildSlice t 0 #[], ty, pos, after, gd⟩ :: rest) a w := by
  refine step_val (v := .slice (some ⟨w.heap.size, 0, none⟩) 0 0) (w' := w.alloc (.cells #[] e)) hw ?_ (h _ _ (S.row_empty e s))
  have := run_buildSlice0 (P := P) t e ht s hs w
  simp only [execOp, Array.map_empty, Sem.run_bind, List.map_toArray, List.map_nil, this, Result.andThen_ok, Sem.run_pure]

theorem does_build0 (S : Has w0 w l) (t e : TypeId) (ht : P.underlying t = some (.slice e)) (s : Nat) (hs : (P.info? e).map (·.size) = some s)
    (h : ∀ v w', Has w0 w' (row v e s 0 [] :: l) → Post v w') : does P a.eval ⟨dst, .buildSlice t 0 #[], ty, pos, after, gd⟩ w Post := by
  refine does_val (v := .slice (some ⟨w.heap.size, 0, none⟩) 0 0) (w' := w.alloc (.cells #[] e)) ?_ (h _ _ (S.row_empty e s))
  have := run_buildSlice0 (P := P) t e ht s hs w
  simp only [execOp, Array.map_empty, Sem.run_bind, List.map_toArray, List.map_nil, this, Result.andThen_ok, Sem.run_pure]

/-- A nil slice is one's own. -/
theorem Has.nil_row (S : Has w0 w l) (e size : Nat) : Has w0 w (row (.slice none 0 0) e size 0 [] :: l) :=
  S.call ⟨Below.refl _ _, fun r hr => by simp only [List.mem_singleton] at hr; subst hr; exact World.ownsRow_nil _ _ _ _, fun r hr g hg => by simp only [List.mem_singleton] at hr; subst hr; simp [row, Value.ownBlock] at hg, List.pairwise_singleton _ _⟩

/-- Where a slice of one's own that is not empty lies. -/
theorem Has.row_at (S : Has w0 w l) {v : Value} {e size n : Nat} {xs : List Value} (hp : Pick l (row v e size n xs) F) (hn : n ≠ 0) : ∃ g c, v = .slice (some ⟨g, 0, none⟩) n c ∧ n ≤ c := by
  rcases (S.get hp).2 with ⟨_, h0⟩ | ⟨g, cap, cur, hv, _, _, hc, _⟩
  · exact absurd h0 hn
  · exact ⟨g, cap, hv, hc⟩

theorem Has.row_len (S : Has w0 w l) {a : Option Addr} {c e size n : Nat} {xs : List Value} (hp : Pick l (row (.slice a n c) e size n xs) F) : n ≤ 9223372036854775807 := by
  rcases (S.get hp).2 with ⟨_, h0⟩ | ⟨g, cap, cur, hv, _, _, hc, hm, _⟩
  · omega
  · unfold maxLen at hm
    omega

theorem Has.row_cell (S : Has w0 w l) {g c e n : Nat} {xs : List Value} (hp : Pick l (row (.slice (some ⟨g, 0, none⟩) n c) e 1 n xs) F) (k : Nat) (v : Value) (hv : xs[k]? = some v) : w.cell? ⟨g, k, none⟩ = some v := by
  have ho : w.ownsRow 0 e 1 (.slice (some ⟨g, 0, none⟩) n c) n xs := S.get hp
  have hk : k < xs.length := (List.getElem?_eq_some_iff.1 hv).1
  rw [ho.cellAt k (by have := ho.1; omega)]
  exact hv

theorem Has.row_set {g c e n : Nat} {xs : List Value} (S : Has w0 w (row (.slice (some ⟨g, 0, none⟩) n c) e 1 n xs :: F)) (k : Nat) (u : Value) : Has w0 (w.setCell ⟨g, k, none⟩ u) (row (.slice (some ⟨g, 0, none⟩) n c) e 1 n (xs.set k u) :: F) := by
  have ho : w.ownsRow 0 e 1 (.slice (some ⟨g, 0, none⟩) n c) n xs := S.holds (row (.slice (some ⟨g, 0, none⟩) n c) e 1 n xs) (by simp)
  have h2 := ho.stored k u
  exact S.write rfl rfl rfl h2.2.size (fun j hj hn => h2.2.block j hj (fun he => hn (by simp [row, Value.ownBlock] at he ⊢; exact he))) h2.1 (fun g hg => .inl hg)

theorem run_storeAt_any (w : World) (g off : Nat) (t : TypeId) (v old : Value) (hc : w.cell? ⟨g, off, none⟩ = some old) (hf : w.frozen? ⟨g, off, none⟩ = false) (hs : (P.info? t).map (·.size) = some 1) (hv : v.cells = #[v]) (h1 : v.oneCell' = true) :
    (Instr.storeAt t (.pointer (some ⟨g, off, none⟩)) v).run P w = .ok () (w.setCell ⟨g, off, none⟩ v) := by
  have hst := run_storeCells_cells (P := P) g off [v] 0 w (fun j hj => by obtain rfl : j = 0 := (by simpa using hj); simp [hc]) (fun j hj => by obtain rfl : j = 0 := (by simpa using hj); simpa using hf) (by simpa using h1)
  cases hq : P.info? t with
  | none => simp [hq] at hs
  | some i =>
    have hsz : i.size = 1 := by simpa [hq] using hs
    simp [Instr.storeAt, Instr.sureAddr, storeVar, sizeOf, typeInfo, hq, hsz, hv, hst, World.setCells]

/-- A cell of a slice of one's own is stored. -/
theorem step_storeR (S : Has w0 w l) (t : TypeId) (x y : Operand) (g k : Nat) (v : Value) (hx : a.eval x = .pointer (some ⟨g, k, none⟩)) (hy : a.eval y = v) (n c e : Nat) (xs : List Value) (hp : Pick l (row (.slice (some ⟨g, 0, none⟩) n c) e 1 n xs) F)
    (hk : k < xs.length) (hs : (P.info? t).map (·.size) = some 1) (hv : v.cells = #[v]) (h1 : v.oneCell' = true)
    (hw : Region.wanted ⟨dst, .store t x y, ty, pos, after, gd⟩ (yielded ops a.tmps) = true)
    (h : ∀ w', Has w0 w' (row (.slice (some ⟨g, 0, none⟩) n c) e 1 n (xs.set k v) :: F) → wpList P ops Q rest (a.put dst undef) w') :
    wpList P ops Q (⟨dst, .store t x y, ty, pos, after, gd⟩ :: rest) a w := by
  have S1 := S.pick hp
  have ho : w.ownsRow 0 e 1 (.slice (some ⟨g, 0, none⟩) n c) n xs := S.get hp
  refine step_unit (w' := w.setCell ⟨g, k, none⟩ v) hw ?_ (h _ (S1.row_set k v))
  have := run_storeAt_any (P := P) w g k t v xs[k] (S.row_cell hp k _ (List.getElem?_eq_getElem hk)) (ho.frozenAt k) hs hv h1
  simp only [execOp, hx, hy, Sem.run_bind, this, Result.andThen_ok, Sem.run_pure]
end
end Go.Proofs.YtioonimpobcglaaDoor
