/- Slices made out of elements, and bytes made out of strings, as things that a call owns. No condition. -/
import Derived.Test.YtioonimpobcglaaDoorStM
import Derived.Test.YtioonimpobcglaaDoorStC
import Derived.Great.FillDense
import Derived.Laws.IdiomStrings
set_option linter.unusedSimpArgs false
set_option linter.unusedVariables false
namespace Go.Proofs.YtioonimpobcglaaDoor
open Go.RowKit

section
variable {P : Program} {ops : Array Oper} {rest : List Oper} {a : Act} {w0 w : World} {l F : List Res} {Q : Exit → Act → World → Prop} {dst : Option Tmp} {ty : TypeId} {pos : String} {after : Array Edge} {gd : Option (Nat × Bool)} {Post : Value → World → Prop}

theorem run_buildSlice1 (t e : TypeId) (z : Value) (vs : List Value) (ht : P.underlying t = some (.slice e)) (hi : (P.info? e).map (fun i => (i.zero, i.size)) = some (some z, 1)) (hz : z.cells.size = 1) (hv : ∀ v ∈ vs, v.cells = #[v]) (hn : vs.length ≤ 16777216) (w : World) :
    (Instr.buildSlice t vs.length ((vs.zipIdx 0).map fun x => (x.2, x.1)).toArray).run P w = .ok (.slice (some ⟨w.heap.size, 0, none⟩) vs.length vs.length) (w.alloc (.cells vs.toArray e)) := by
  cases hq : P.info? e with
  | none => simp [hq] at hi
  | some i =>
    have h1 : i.zero = some z ∧ i.size = 1 := by simpa [hq] using hi
    by_cases h0 : vs.length = 0
    · obtain rfl := List.eq_nil_of_length_eq_zero h0
      have := run_buildSlice0 (P := P) t e ht 1 (by simp [hq, h1.2]) w
      simpa using this
    · have hrun : (Instr.buildSlice t vs.length ((vs.zipIdx 0).map fun x => (x.2, x.1)).toArray).run P w = ((newRow e vs.toArray).run P w).andThen fun ad w' => .ok (.slice (some ad) vs.length vs.length) w' := by
        have hsz : ((Array.range (vs.length * 1)).map (z.cells[· % z.cells.size]!)).size = vs.length := by simp
        have hf := Go.Great.fill_flat vs ((Array.range (vs.length * 1)).map (z.cells[· % z.cells.size]!)) hv hsz.symm
        simp only [Nat.mul_one] at hf hsz
        have h24 : ¬ vs.length > 16777216 := by omega
        have hz0 : ¬ vs.length = 0 := h0
        simp [Instr.buildSlice, run_underlying ht, sizeOf, typeInfo, hq, h1.1, h1.2, zeroValue, h24, hz0]
        rw [hf]
        simp
      rw [hrun]
      simp [newRow, newObj]
      rfl

theorem Has.row_lit (S : Has w0 w l) (e n : Nat) (vs : List Value) (hn : vs.length = n) (hm : n ≤ maxLen) : Has w0 (w.alloc (.cells vs.toArray e)) (row (.slice (some ⟨w.heap.size, 0, none⟩) n n) e 1 n vs :: l) := by
  have h := World.ownsRow_lit (base := w.heap.size) (e := e) (size := 1) w vs.toArray n (Nat.le_refl _) hm (by simp [hn])
  exact S.call (Has.of_own (below1 w _) h)

/-- A new slice of single cells. -/
theorem step_buildL (S : Has w0 w l) (t e : TypeId) (n : Nat) (parts : Array (Nat × Operand)) (vs : List Value) (z : Value) (ht : P.underlying t = some (.slice e)) (hi : (P.info? e).map (fun i => (i.zero, i.size)) = some (some z, 1)) (hz : z.cells.size = 1)
    (hp : (parts.map fun (i, x) => (i, a.eval x)) = ((vs.zipIdx 0).map fun x => (x.2, x.1)).toArray) (hn : vs.length = n) (hv : ∀ v ∈ vs, v.cells = #[v]) (hm : n ≤ 16777216)
    (hw : Region.wanted ⟨dst, .buildSlice t n parts, ty, pos, after, gd⟩ (yielded ops a.tmps) = true)
    (h : ∀ v w', Has w0 w' (row v e 1 n vs :: l) → wpList P ops Q rest (a.put dst v) w') : wpList P ops Q (⟨dst, .buildSlice t n parts, ty, pos, after, gd⟩ :: rest) a w := by
  subst hn
  refine step_val (v := .slice (some ⟨w.heap.size, 0, none⟩) vs.length vs.length) (w' := w.alloc (.cells vs.toArray e)) hw ?_ (h _ _ (S.row_lit e vs.length vs rfl (Nat.le_trans hm (by decide))))
  have := run_buildSlice1 (P := P) t e z vs ht hi hz hv hm w
  simp only [execOp, hp, Sem.run_bind, this, Result.andThen_ok, Sem.run_pure]

theorem does_buildL (S : Has w0 w l) (t e : TypeId) (n : Nat) (parts : Array (Nat × Operand)) (vs : List Value) (z : Value) (ht : P.underlying t = some (.slice e)) (hi : (P.info? e).map (fun i => (i.zero, i.size)) = some (some z, 1)) (hz : z.cells.size = 1)
    (hp : (parts.map fun (i, x) => (i, a.eval x)) = ((vs.zipIdx 0).map fun x => (x.2, x.1)).toArray) (hn : vs.length = n) (hv : ∀ v ∈ vs, v.cells = #[v]) (hm : n ≤ 16777216)
    (h : ∀ v w', Has w0 w' (row v e 1 n vs :: l) → Post v w') : does P a.eval ⟨dst, .buildSlice t n parts, ty, pos, after, gd⟩ w Post := by
  subst hn
  refine does_val (v := .slice (some ⟨w.heap.size, 0, none⟩) vs.length vs.length) (w' := w.alloc (.cells vs.toArray e)) ?_ (h _ _ (S.row_lit e vs.length vs rfl (Nat.le_trans hm (by decide))))
  have := run_buildSlice1 (P := P) t e z vs ht hi hz hv hm w
  simp only [execOp, hp, Sem.run_bind, this, Result.andThen_ok, Sem.run_pure]

theorem bytesRow_get (xs : List UInt8) (cap i : Nat) (hi : i < xs.length) : (bytesRow (strB xs) cap)[i]? = some (by8 xs[i]) := by
  have h : i < ((strB xs).data.map fun b => Value.int .u8 b.toNat).size := by simpa [strB] using hi
  unfold bytesRow
  rw [Array.getElem?_append_left h]
  simp [strB, hi]

theorem Has.string_bytes (S : Has w0 w l) (src dt e : TypeId) (xs : List UInt8) (hx : xs.length ≤ maxLen) (hs : P.underlying src = some .string) (hd : P.underlying dt = some (.slice e)) (he : P.underlying e = some (.int .u8)) :
    ∃ v w', (convert src dt (.string (strB xs))).run P w = .ok v w' ∧ Has w0 w' (rd8 v xs :: l) := by
  have hr := run_bytes_of_string (P := P) w src dt e (strB xs) hs hd he
  have hsz : (strB xs).size = xs.length := rfl
  refine ⟨_, _, hr, ?_⟩
  rw [hsz]
  have hb : Below w.heap.size w (w.drew.alloc (.cells (bytesRow (strB xs) (grownCap w xs.length 0 e)) e ((bytesRow (strB xs) (grownCap w xs.length 0 e)).size, (bytesRow (strB xs) (grownCap w xs.length 0 e)).size + 1))) :=
    ((Below.refl _ _).drew).alloc (Nat.le_refl _) _
  refine S.call (Has.one (r := rd8 _ xs) hb ?hold ?feet)
  case hold =>
    refine ⟨?_, ?_⟩
    · refine Bs.mk (grownCap_ge w xs.length 0 e) (grownCap_le_maxLen w xs.length 0 e hx) fun i hi => ?_
      have hg : (w.drew.alloc (.cells (bytesRow (strB xs) (grownCap w xs.length 0 e)) e ((bytesRow (strB xs) (grownCap w xs.length 0 e)).size, (bytesRow (strB xs) (grownCap w xs.length 0 e)).size + 1))).heap[w.heap.size]? = some (.cells (bytesRow (strB xs) (grownCap w xs.length 0 e)) e ((bytesRow (strB xs) (grownCap w xs.length 0 e)).size, (bytesRow (strB xs) (grownCap w xs.length 0 e)).size + 1)) := by
        show (w.heap.push _)[w.heap.size]? = _
        simp
      rw [cell_of_row _ _ _ _ _ _ hg, Nat.zero_add, bytesRow_get xs _ i hi]
    · intro g hg
      simp only [rdFoot] at hg
      split at hg
      · cases hg
      · have : g = w.heap.size := by simpa [Value.ownBlock] using hg
        subst this
        show w.heap.size < (w.heap.push _).size
        simp
  case feet =>
    intro g hg
    simp only [rd, rdFoot] at hg
    split at hg
    · cases hg
    · have : g = w.heap.size := by simpa [Value.ownBlock] using hg
      omega

/-- A string becomes bytes. -/
theorem step_s2b (S : Has w0 w l) (src dt e : TypeId) (x : Operand) (xs : List UInt8) (hx : a.eval x = .string (strB xs)) (hm : xs.length ≤ maxLen) (hs : P.underlying src = some .string) (hd : P.underlying dt = some (.slice e)) (he : P.underlying e = some (.int .u8))
    (hw : Region.wanted ⟨dst, .convert src dt x, ty, pos, after, gd⟩ (yielded ops a.tmps) = true)
    (h : ∀ v w', Has w0 w' (rd8 v xs :: l) → wpList P ops Q rest (a.put dst v) w') : wpList P ops Q (⟨dst, .convert src dt x, ty, pos, after, gd⟩ :: rest) a w := by
  obtain ⟨v, w', hr, S'⟩ := S.string_bytes (P := P) src dt e xs hm hs hd he
  refine step_val (v := v) (w' := w') hw ?_ (h _ _ S')
  simp only [execOp, hx, Sem.run_bind, hr, Result.andThen_ok, Sem.run_pure]

theorem does_s2b (S : Has w0 w l) (src dt e : TypeId) (x : Operand) (xs : List UInt8) (hx : a.eval x = .string (strB xs)) (hm : xs.length ≤ maxLen) (hs : P.underlying src = some .string) (hd : P.underlying dt = some (.slice e)) (he : P.underlying e = some (.int .u8))
    (h : ∀ v w', Has w0 w' (rd8 v xs :: l) → Post v w') : does P a.eval ⟨dst, .convert src dt x, ty, pos, after, gd⟩ w Post := by
  obtain ⟨v, w', hr, S'⟩ := S.string_bytes (P := P) src dt e xs hm hs hd he
  refine does_val (v := v) (w' := w') ?_ (h _ _ S')
  simp only [execOp, hx, Sem.run_bind, hr, Result.andThen_ok, Sem.run_pure]
end

theorem infoZ8 : (Tryd.prog.info? 5).map (fun i => (i.zero, i.size)) = some (some (.int .u8 0), 1) := by kernel_rfl

set_option maxRecDepth 100000 in
theorem step_build8 {ops : Array Oper} {rest : List Oper} {a : Act} {w0 w : World} {l : List Res} {Q : Exit → Act → World → Prop} {dst : Option Tmp} {ty : TypeId} {pos : String} {after : Array Edge} {gd : Option (Nat × Bool)} (S : Has w0 w l) (n : Nat) (parts : Array (Nat × Operand)) (xs : List UInt8)
    (hp : (parts.map fun (i, x) => (i, a.eval x)) = (((xs.map by8).zipIdx 0).map fun x => (x.2, x.1)).toArray) (hn : xs.length = n) (hm : n ≤ 16777216)
    (hw : Region.wanted ⟨dst, .buildSlice 22 n parts, ty, pos, after, gd⟩ (yielded ops a.tmps) = true)
    (h : ∀ v w', Has w0 w' (row8 v xs :: l) → wpList Tryd.prog ops Q rest (a.put dst v) w') : wpList Tryd.prog ops Q (⟨dst, .buildSlice 22 n parts, ty, pos, after, gd⟩ :: rest) a w := by
  subst hn
  refine step_buildL S 22 5 xs.length parts (xs.map by8) (.int .u8 0) Tryd.underlying22 infoZ8 rfl hp (by simp) (fun v hv => ?_) hm hw h
  obtain ⟨y, _, rfl⟩ := List.mem_map.1 hv
  rfl

set_option maxRecDepth 100000 in
/-- A new slice of one byte. -/
theorem step_build81 {ops : Array Oper} {rest : List Oper} {a : Act} {w0 w : World} {l : List Res} {Q : Exit → Act → World → Prop} {dst : Option Tmp} {ty : TypeId} {pos : String} {after : Array Edge} {gd : Option (Nat × Bool)} (S : Has w0 w l) (x : Operand) (y : UInt8)
    (hx : a.eval x = by8 y)
    (hw : Region.wanted ⟨dst, .buildSlice 22 1 #[(0, x)], ty, pos, after, gd⟩ (yielded ops a.tmps) = true)
    (h : ∀ v w', Has w0 w' (row8 v [y] :: l) → wpList Tryd.prog ops Q rest (a.put dst v) w') : wpList Tryd.prog ops Q (⟨dst, .buildSlice 22 1 #[(0, x)], ty, pos, after, gd⟩ :: rest) a w := by
  exact step_build8 S 1 _ [y] (by simp [hx]) rfl (by decide) hw h

set_option maxRecDepth 100000 in
theorem does_build8 {a : Act} {w0 w : World} {l : List Res} {dst : Option Tmp} {ty : TypeId} {pos : String} {after : Array Edge} {gd : Option (Nat × Bool)} {Post : Value → World → Prop} (S : Has w0 w l) (n : Nat) (parts : Array (Nat × Operand)) (xs : List UInt8)
    (hp : (parts.map fun (i, x) => (i, a.eval x)) = (((xs.map by8).zipIdx 0).map fun x => (x.2, x.1)).toArray) (hn : xs.length = n) (hm : n ≤ 16777216)
    (h : ∀ v w', Has w0 w' (row8 v xs :: l) → Post v w') : does Tryd.prog a.eval ⟨dst, .buildSlice 22 n parts, ty, pos, after, gd⟩ w Post := by
  subst hn
  refine does_buildL S 22 5 xs.length parts (xs.map by8) (.int .u8 0) Tryd.underlying22 infoZ8 rfl hp (by simp) (fun v hv => ?_) hm h
  obtain ⟨y, _, rfl⟩ := List.mem_map.1 hv
  rfl

theorem run_mark {P : Program} (w : World) (t e : TypeId) (g n c : Nat) (C : Array Value) (e' : TypeId) (ht : P.underlying t = some (.slice e)) (he : P.underlying e = some (.int .u8)) (hg : w.heap[g]? = some (.cells C e' (0, 0))) :
    (convert t t (.slice (some ⟨g, 0, none⟩) n c)).run P w = .ok (.slice (some ⟨g, 0, none⟩) n c) (w.freeze ⟨g, C.size, none⟩ 1) := by
  have hsh : w.shape? g = some (e', C.size) := by unfold World.shape?; rw [hg]
  simp [convert, run_underlying ht, run_underlying he, markStringish, hsh]

theorem freeze_heap (w : World) (g n : Nat) (C : Array Value) (e : TypeId) (hg : w.heap[g]? = some (.cells C e (0, 0))) : (w.freeze ⟨g, n, none⟩ 1).heap[g]? = some (.cells C e (n, n + 1)) := by
  have hlt : g < w.heap.size := (Array.getElem?_eq_some_iff.1 hg).1
  have hv : w.heap[g] = .cells C e (0, 0) := (Array.getElem?_eq_some_iff.1 hg).2
  unfold World.freeze
  rw [if_neg (by decide)]
  show (w.heap.modify g _)[g]? = _
  rw [Array.getElem?_eq_getElem (by simpa using hlt), Array.getElem_modify]
  simp [hv]

theorem freeze_other (w : World) (g n k : Nat) (h : k ≠ g) : (w.freeze ⟨g, n, none⟩ 1).heap[k]? = w.heap[k]? := by
  unfold World.freeze
  rw [if_neg (by decide)]
  show (w.heap.modify g _)[k]? = _
  rw [Array.getElem?_modify, if_neg (Ne.symm h)]

theorem freeze_size (w : World) (g n : Nat) : (w.freeze ⟨g, n, none⟩ 1).heap.size = w.heap.size := by
  unfold World.freeze
  rw [if_neg (by decide)]
  show (w.heap.modify g _).size = _
  simp

theorem Has.mark {P : Program} {w0 w : World} {F : List Res} {v : Value} {e : TypeId} {xs : List UInt8} (S : Has w0 w (row v e 1 xs.length (xs.map by8) :: F)) (t : TypeId) (ht : P.underlying t = some (.slice e)) (he : P.underlying e = some (.int .u8)) (hx : xs ≠ []) :
    ∃ w', (convert t t v).run P w = .ok v w' ∧ Has w0 w' (rd8 v xs :: F) := by
  have ho : w.ownsRow 0 e 1 v xs.length (xs.map by8) := S.holds (row v e 1 xs.length (xs.map by8)) (by simp)
  have hs : Bs w v xs := Sl.of_own ho
  rcases ho.2 with ⟨_, h0⟩ | ⟨g, cap, cur, rfl, _, hg, hnc, hcm, hcs, htk⟩
  · exact absurd (List.eq_nil_of_length_eq_zero h0) hx
  · refine ⟨_, run_mark w t e g xs.length cap cur e ht he hg, ?_⟩
    have hfr := freeze_heap w g cur.size cur e hg
    refine S.write rfl rfl rfl ?_ (fun k _ hk => freeze_other w g cur.size k (fun e1 => hk (by simp [row, Value.ownBlock, e1]))) ?_ (fun k hk => .inl ?_)
    · rw [freeze_size]
      exact Nat.le_refl _
    · refine ⟨Bs.mk hnc hcm fun i hi => ?_, fun k hk => ?_⟩
      · rw [cell_of_row _ _ _ _ _ _ hfr]
        have := hs
        rcases this.cases with ⟨a, h1, h2⟩ | ⟨b, off, c2, h1, _, _, h4⟩
        · exact absurd h2 hx
        · simp only [Value.slice.injEq, Option.some.injEq, Addr.mk.injEq, and_true, true_and] at h1
          obtain ⟨⟨rfl, rfl⟩, _⟩ := h1
          rw [← h4 i hi, cell_of_row _ _ _ _ _ _ hg]
      · simp only [rdFoot] at hk
        split at hk
        · cases hk
        · have : k = g := by simpa [Value.ownBlock] using hk
          subst this
          rw [freeze_size]
          exact heap_lt hg
    · simp only [rd, rdFoot] at hk
      split at hk
      · cases hk
      · exact hk

/-- The bytes of a constant string are marked. -/
theorem step_mark {P : Program} {ops : Array Oper} {rest : List Oper} {a : Act} {w0 w : World} {l F : List Res} {Q : Exit → Act → World → Prop} {dst : Option Tmp} {ty : TypeId} {pos : String} {after : Array Edge} {gd : Option (Nat × Bool)} (S : Has w0 w l) (t e : TypeId) (x : Operand) (v : Value) (xs : List UInt8)
    (hx : a.eval x = v) (hp : Pick l (row v e 1 xs.length (xs.map by8)) F) (ht : P.underlying t = some (.slice e)) (he : P.underlying e = some (.int .u8)) (hne : xs ≠ [])
    (hw : Region.wanted ⟨dst, .convert t t x, ty, pos, after, gd⟩ (yielded ops a.tmps) = true)
    (h : ∀ w', Has w0 w' (rd8 v xs :: F) → wpList P ops Q rest (a.put dst v) w') : wpList P ops Q (⟨dst, .convert t t x, ty, pos, after, gd⟩ :: rest) a w := by
  obtain ⟨w', hr, S'⟩ := (S.pick hp).mark (P := P) t ht he hne
  refine step_val (v := v) (w' := w') hw ?_ (h _ S')
  simp only [execOp, hx, Sem.run_bind, hr, Result.andThen_ok, Sem.run_pure]

theorem infoB3 : (Tryd.prog.info? 5).map (fun i => (i.zero, i.size, i.bytes)) = some (some (.int .u8 0), 1, 1) := by kernel_rfl

/-- Zero bytes. (A name of its own: simp writes 'replicate' of a number out.) -/
def zs8 (n : Nat) : List UInt8 := List.replicate n 0
theorem zs8_length (n : Nat) : (zs8 n).length = n := List.length_replicate ..

set_option maxRecDepth 100000 in
/-- New zero bytes. -/
theorem step_make8 {ops : Array Oper} {rest : List Oper} {a : Act} {w0 w : World} {l : List Res} {Q : Exit → Act → World → Prop} {dst : Option Tmp} {ty : TypeId} {pos : String} {after : Array Edge} {gd : Option (Nat × Bool)} (S : Has w0 w l) (x y : Operand) (n : Nat) (i : Int) (hi : i = (n : Int))
    (hx : a.eval x = .int .i64 i) (hy : a.eval y = .int .i64 i) (hn : n ≤ 281474976710656)
    (hw : Region.wanted ⟨dst, .makeSlice 22 x y, ty, pos, after, gd⟩ (yielded ops a.tmps) = true)
    (h : ∀ v w', Has w0 w' (row8 v (zs8 n) :: l) → wpList Tryd.prog ops Q rest (a.put dst v) w') : wpList Tryd.prog ops Q (⟨dst, .makeSlice 22 x y, ty, pos, after, gd⟩ :: rest) a w := by
  subst hi
  obtain ⟨i, hi, hz, hsize, hby⟩ := info_parts infoB3
  have hr := run_make (P := Tryd.prog) w 22 5 i (.int .u8 0) Tryd.underlying22 hi hz .i64 .i64 (n : Int) (n : Int) (by omega) (Int.le_refl _) (by rw [hby]; omega) (by omega)
  have hm : n ≤ maxLen := Nat.le_trans hn (by decide)
  have hc : madeCells (Value.int .u8 0).cells ((n : Int).toNat * i.size) = ((List.replicate n (0 : UInt8)).map by8).toArray := by
    rw [hsize, Nat.mul_one, Int.toNat_natCast]
    apply Array.ext
    · simp [madeCells]
    · intro j h1 h2
      simp [madeCells, Value.cells, Nat.mod_one]
  rw [hc, Int.toNat_natCast] at hr
  have S' := S.row_lit 5 n ((List.replicate n (0 : UInt8)).map by8) (by simp) hm
  refine step_val (v := .slice (some ⟨w.heap.size, 0, none⟩) n n) (w' := w.alloc (.cells ((List.replicate n (0 : UInt8)).map by8).toArray 5)) hw ?_ (h _ _ ?_)
  · simp only [execOp, hx, hy, Sem.run_bind, hr, Result.andThen_ok, Sem.run_pure]
  · have e : row8 (.slice (some ⟨w.heap.size, 0, none⟩) n n) (zs8 n) = row (.slice (some ⟨w.heap.size, 0, none⟩) n n) 5 1 n ((List.replicate n (0 : UInt8)).map by8) := by
      show row _ _ _ (zs8 n).length _ = _
      rw [zs8_length]
      rfl
    rw [e]
    exact S'
end Go.Proofs.YtioonimpobcglaaDoor
