/- Rows of structs that a call owns: their cells, stores into them, new slices of structs. No condition. -/
import Derived.Test.YtioonimpobcglaaDoorStS
set_option linter.unusedSimpArgs false
set_option linter.unusedVariables false
namespace Go.Proofs.YtioonimpobcglaaDoor
open Go.RowKit

section
variable {P : Program} {ops : Array Oper} {rest : List Oper} {a : Act} {w0 w : World} {l F : List Res} {Q : Exit → Act → World → Prop} {dst : Option Tmp} {ty : TypeId} {pos : String} {after : Array Edge} {gd : Option (Nat × Bool)} {Post : Value → World → Prop}

theorem Has.row_cellS (S : Has w0 w l) {g c e s n : Nat} {xs : List Value} (hp : Pick l (row (.slice (some ⟨g, 0, none⟩) n c) e s n xs) F) (k : Nat) (v : Value) (hv : xs[k]? = some v) : w.cell? ⟨g, k, none⟩ = some v := by
  have ho : w.ownsRow 0 e s (.slice (some ⟨g, 0, none⟩) n c) n xs := S.get hp
  have hk : k < xs.length := (List.getElem?_eq_some_iff.1 hv).1
  rw [ho.cellAt k (by have := ho.1; omega)]
  exact hv

theorem Has.row_setS {g c e s n : Nat} {xs : List Value} (S : Has w0 w (row (.slice (some ⟨g, 0, none⟩) n c) e s n xs :: F)) (k : Nat) (u : Value) : Has w0 (w.setCell ⟨g, k, none⟩ u) (row (.slice (some ⟨g, 0, none⟩) n c) e s n (xs.set k u) :: F) := by
  have ho : w.ownsRow 0 e s (.slice (some ⟨g, 0, none⟩) n c) n xs := S.holds (row (.slice (some ⟨g, 0, none⟩) n c) e s n xs) (by simp)
  have h2 := ho.stored k u
  exact S.write rfl rfl rfl h2.2.size (fun j hj hn => h2.2.block j hj (fun he => hn (by simp [row, Value.ownBlock] at he ⊢; exact he))) h2.1 (fun g hg => .inl hg)

/-- A cell of a row of structs of one's own is stored. -/
theorem step_storeS (S : Has w0 w l) (t : TypeId) (x y : Operand) (g k : Nat) (v : Value) (hx : a.eval x = .pointer (some ⟨g, k, none⟩)) (hy : a.eval y = v) (n c e s : Nat) (xs : List Value) (hp : Pick l (row (.slice (some ⟨g, 0, none⟩) n c) e s n xs) F)
    (hk : k < xs.length) (hs : (P.info? t).map (·.size) = some 1) (hv : v.cells = #[v]) (h1 : v.oneCell' = true)
    (hw : Region.wanted ⟨dst, .store t x y, ty, pos, after, gd⟩ (yielded ops a.tmps) = true)
    (h : ∀ w', Has w0 w' (row (.slice (some ⟨g, 0, none⟩) n c) e s n (xs.set k v) :: F) → wpList P ops Q rest (a.put dst undef) w') :
    wpList P ops Q (⟨dst, .store t x y, ty, pos, after, gd⟩ :: rest) a w := by
  have S1 := S.pick hp
  have ho : w.ownsRow 0 e s (.slice (some ⟨g, 0, none⟩) n c) n xs := S.get hp
  refine step_unit (w' := w.setCell ⟨g, k, none⟩ v) hw ?_ (h _ (S1.row_setS k v))
  have := run_storeAt_any (P := P) w g k t v xs[k] (S.row_cellS hp k _ (List.getElem?_eq_getElem hk)) (ho.frozenAt k) hs hv h1
  simp only [execOp, hx, hy, Sem.run_bind, this, Result.andThen_ok, Sem.run_pure]

/-- One element of a row of one's own. -/
theorem Has.row_range {α : Type} (S : Has w0 w l) {g c e s n : Nat} {xs : List α} {f : α → List Value} (hp : Pick l (row (.slice (some ⟨g, 0, none⟩) n c) e s n (xs.flatMap f)) F) (hf : ∀ x, (f x).length = s) (hs : 0 < s) (i : Nat) (x : α) (hx : xs[i]? = some x) : w.rangeAt g (i * s) (f x) := by
  have := Sl.elem (S.sl hp) hf hs i x hx
  rwa [Nat.zero_add] at this

theorem flat_len {α : Type} (f : α → List Value) (s : Nat) (hf : ∀ x, (f x).length = s) (xs : List α) : (xs.flatMap f).length = xs.length * s := by
  rw [List.length_flatMap]
  have : (xs.map fun y => (f y).length) = List.replicate xs.length s := by
    apply List.ext_getElem <;> simp [hf]
  rw [this, List.sum_replicate_nat]

theorem flat_cell {α : Type} (f : α → List Value) (s : Nat) (hf : ∀ x, (f x).length = s) (xs : List α) (i j : Nat) (x : α) (v : Value) (hx : xs[i]? = some x) (hv : (f x)[j]? = some v) : (xs.flatMap f)[i * s + j]? = some v := by
  obtain ⟨hi, rfl⟩ := List.getElem?_eq_some_iff.1 hx
  obtain ⟨hj, _⟩ := List.getElem?_eq_some_iff.1 hv
  rw [flat_get f s hf xs i j hi (by rw [← hf]; exact hj)]
  exact hv

theorem flat_set {α : Type} (f : α → List Value) (s : Nat) (hf : ∀ x, (f x).length = s) : ∀ (xs : List α) (i j : Nat) (x y : α) (v : Value) (_ : xs[i]? = some x) (_ : j < s) (_ : (f x).set j v = f y), (xs.flatMap f).set (i * s + j) v = (xs.set i y).flatMap f
  | z :: zs, 0, j, x, y, v, hx, hj, hy => by
    obtain rfl : z = x := by simpa using hx
    rw [Nat.zero_mul, Nat.zero_add, List.flatMap_cons, List.set_append_left _ _ (by rw [hf]; exact hj), hy]
    rfl
  | z :: zs, i + 1, j, x, y, v, hx, hj, hy => by
    have ih := flat_set f s hf zs i j x y v (by simpa using hx) hj hy
    rw [List.flatMap_cons, List.set_append_right _ _ (by rw [hf, Nat.add_mul]; omega), hf, show (i + 1) * s + j - s = i * s + j by rw [Nat.add_mul]; omega, ih]
    rfl

theorem run_buildSliceN (t e : TypeId) (z : Value) (s : Nat) (vs : List Value) (ht : P.underlying t = some (.slice e)) (hi : (P.info? e).map (fun i => (i.zero, i.size)) = some (some z, s)) (hs : 0 < s) (hv : ∀ v ∈ vs, v.cells.size = s) (hn : vs.length * s ≤ 16777216) (h0 : vs ≠ []) (w : World) :
    (Instr.buildSlice t vs.length ((vs.zipIdx 0).map fun x => (x.2, x.1)).toArray).run P w = .ok (.slice (some ⟨w.heap.size, 0, none⟩) vs.length vs.length) (w.alloc (.cells (vs.flatMap fun v => v.cells.toList).toArray e)) := by
  cases hq : P.info? e with
  | none => simp [hq] at hi
  | some i =>
    have h1 : i.zero = some z ∧ i.size = s := by simpa [hq] using hi
    have hl0 : vs.length ≠ 0 := by simpa using h0
    have hls : ¬ vs.length * s = 0 := Nat.mul_ne_zero hl0 (by omega)
    have hsz : ((Array.range (vs.length * s)).map (z.cells[· % z.cells.size]!)).size = vs.length * s := by simp
    obtain ⟨r, hr, hrs, hrk⟩ := Go.Great.fill_dense hs vs 0 ((Array.range (vs.length * s)).map (z.cells[· % z.cells.size]!)) hv (by rw [hsz, Nat.zero_add]; exact Nat.le_refl _)
    have hre : r = (vs.flatMap fun v => v.cells.toList).toArray := by
      have hfl : (vs.flatMap fun v => v.cells.toList).length = vs.length * s := by
        rw [List.length_flatMap]
        have : (vs.map fun v => v.cells.toList.length) = List.replicate vs.length s := by
          apply List.ext_getElem
          · simp
          · intro k h2 h3
            simp only [List.getElem_map, Array.length_toList, List.getElem_replicate]
            exact hv _ (List.getElem_mem _)
        rw [this, List.sum_replicate_nat]
      apply Array.ext_getElem?
      intro k
      rw [hrk k]
      simp only [Nat.zero_mul, Nat.zero_add, Nat.zero_le, true_and, Nat.sub_zero]
      by_cases hk : k < vs.length * s
      · rw [if_pos hk]
        have hq2 : k / s < vs.length := (Nat.div_lt_iff_lt_mul hs).2 hk
        have he : k / s * s + k % s = k := by rw [Nat.mul_comm]; exact Nat.div_add_mod k s
        rw [List.getElem?_eq_getElem hq2, Option.bind_some, List.getElem?_toArray]
        clear hrk hr hrs hsz hfl
        have key : ∀ (us : List Value) (q : Nat) (hq : q < us.length), (∀ v ∈ us, v.cells.size = s) → (us[q].cells.toList[k % s]?) = (us.flatMap fun v => v.cells.toList)[q * s + k % s]? := by
          intro us
          induction us with
          | nil => intro q hq; simp at hq
          | cons u us ih =>
            intro q hq hus
            rw [List.flatMap_cons]
            have hu : u.cells.toList.length = s := by rw [Array.length_toList]; exact hus u (by simp)
            cases q with
            | zero => rw [Nat.zero_mul, Nat.zero_add, List.getElem?_append_left (by rw [hu]; exact Nat.mod_lt _ hs)]; rfl
            | succ q =>
              rw [List.getElem?_append_right (by rw [hu, Nat.add_mul]; omega), hu, show (q + 1) * s + k % s - s = q * s + k % s by rw [Nat.add_mul]; omega]
              exact ih q (by simpa using hq) (fun v hv => hus v (by simp [hv]))
        rw [key vs (k / s) hq2 hv, he]; simp
      · rw [if_neg hk, Array.getElem?_eq_none (by rw [hsz]; omega), Array.getElem?_eq_none (by rw [List.size_toArray, hfl]; omega)]
    subst hre
    have hrun : (Instr.buildSlice t vs.length ((vs.zipIdx 0).map fun x => (x.2, x.1)).toArray).run P w = ((newRow e (vs.flatMap fun v => v.cells.toList).toArray).run P w).andThen fun ad w' => .ok (.slice (some ad) vs.length vs.length) w' := by
      have h24 : ¬ vs.length * s > 16777216 := by omega
      simp only [Instr.buildSlice, Sem.run_bind, run_underlying ht, Result.andThen_ok, sizeOf, typeInfo, run_program, hq, h1.1, h1.2, zeroValue]
      simp [hls, h24, hq, h1.1, h1.2]
      rw [hr]
      simp
    rw [hrun]
    simp [newRow, newObj]
    rfl

/-- A new slice of one struct. -/
theorem step_buildS1 (S : Has w0 w l) (t e s : Nat) (x : Operand) (cs : List Value) (z : Value) (ht : P.underlying t = some (.slice e)) (hi : (P.info? e).map (fun i => (i.zero, i.size)) = some (some z, s)) (hs : 0 < s) (hs2 : s ≤ 16777216) (hx : a.eval x = .agg cs.toArray) (hc : cs.length = s)
    (hw : Region.wanted ⟨dst, .buildSlice t 1 #[(0, x)], ty, pos, after, gd⟩ (yielded ops a.tmps) = true)
    (h : ∀ v w', Has w0 w' (row v e s 1 cs :: l) → wpList P ops Q rest (a.put dst v) w') : wpList P ops Q (⟨dst, .buildSlice t 1 #[(0, x)], ty, pos, after, gd⟩ :: rest) a w := by
  have hr := run_buildSliceN (P := P) t e z s [.agg cs.toArray] ht hi hs (by simpa [Value.cells] using hc) (by simpa using hs2) (by simp) w
  have ho := World.ownsRow_lit (base := w.heap.size) (e := e) (size := s) w cs.toArray 1 (Nat.le_refl _) (by decide) (by simp [hc])
  have hfl : ([Value.agg cs.toArray].flatMap fun v => v.cells.toList) = cs := by simp [Value.cells]
  rw [hfl] at hr
  refine step_val (v := .slice (some ⟨w.heap.size, 0, none⟩) 1 1) (w' := w.alloc (.cells cs.toArray e)) hw ?_ (h _ _ (S.call (Has.of_own (below1 w _) (by simpa using ho))))
  have hp : (#[(0, x)].map fun (i, x) => (i, a.eval x)) = (([Value.agg cs.toArray].zipIdx 0).map fun x => (x.2, x.1)).toArray := by simp [hx]
  simp only [execOp, hp, Sem.run_bind]
  have hr' : (Instr.buildSlice t 1 (([Value.agg cs.toArray].zipIdx 0).map fun x => (x.2, x.1)).toArray).run P w = .ok (.slice (some ⟨w.heap.size, 0, none⟩) 1 1) (w.alloc (.cells cs.toArray e)) := hr
  simp only [hr', Result.andThen_ok, Sem.run_pure]

theorem does_buildS1 (S : Has w0 w l) (t e s : Nat) (x : Operand) (cs : List Value) (z : Value) (ht : P.underlying t = some (.slice e)) (hi : (P.info? e).map (fun i => (i.zero, i.size)) = some (some z, s)) (hs : 0 < s) (hs2 : s ≤ 16777216) (hx : a.eval x = .agg cs.toArray) (hc : cs.length = s)
    (h : ∀ v w', Has w0 w' (row v e s 1 cs :: l) → Post v w') : does P a.eval ⟨dst, .buildSlice t 1 #[(0, x)], ty, pos, after, gd⟩ w Post := by
  have hr := run_buildSliceN (P := P) t e z s [.agg cs.toArray] ht hi hs (by simpa [Value.cells] using hc) (by simpa using hs2) (by simp) w
  have ho := World.ownsRow_lit (base := w.heap.size) (e := e) (size := s) w cs.toArray 1 (Nat.le_refl _) (by decide) (by simp [hc])
  have hfl : ([Value.agg cs.toArray].flatMap fun v => v.cells.toList) = cs := by simp [Value.cells]
  rw [hfl] at hr
  refine does_val (v := .slice (some ⟨w.heap.size, 0, none⟩) 1 1) (w' := w.alloc (.cells cs.toArray e)) ?_ (h _ _ (S.call (Has.of_own (below1 w _) (by simpa using ho))))
  have hp : (#[(0, x)].map fun (i, x) => (i, a.eval x)) = (([Value.agg cs.toArray].zipIdx 0).map fun x => (x.2, x.1)).toArray := by simp [hx]
  simp only [execOp, hp, Sem.run_bind]
  have hr' : (Instr.buildSlice t 1 (([Value.agg cs.toArray].zipIdx 0).map fun x => (x.2, x.1)).toArray).run P w = .ok (.slice (some ⟨w.heap.size, 0, none⟩) 1 1) (w.alloc (.cells cs.toArray e)) := hr
  simp only [hr', Result.andThen_ok, Sem.run_pure]
end
end Go.Proofs.YtioonimpobcglaaDoor
