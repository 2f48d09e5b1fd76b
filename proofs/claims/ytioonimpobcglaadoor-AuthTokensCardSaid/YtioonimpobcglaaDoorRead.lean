/- How data that came in read, cell by cell: numbers, arrays, slices of anything, structs; how much they weigh. No condition. -/
import Derived.Test.YtioonimpobcglaaDoorArgs
import Derived.Deep.Slices
set_option linter.unusedSimpArgs false
set_option linter.unusedVariables false
namespace Go.Proofs.YtioonimpobcglaaDoor
open Go.ChangeShapes Go.WideShapes Go.ChangeAt Go.RowKit Go.Deep

/-- No part of a datum weighs more than the form lets it. -/
def Light {H : Type} (P : Program) (t : TypeId) (d : DataW H) : Prop := ∀ n ∈ d.weights P t, n ≤ reachBytes

section
variable {H : Type} {enc : TypeId × Value → H} {P : Program} {W : World} {base : Nat} {spare : Nat → Bool} {held : Bool}

theorem light_param {ts : List TypeId} {ds : List (DataW H)} {j : Nat} {t : TypeId} {d : DataW H} (h : (DataW.weightsEach P ts ds).all (· ≤ reachBytes) = true) (ht : ts[j]? = some t) (hd : ds[j]? = some d) : Light P t d := fun n hn => by
  simpa using List.all_eq_true.1 h n (DataW.weights_mem_each ht hd n hn)

theorem light_field {fs : Array Field} {t : TypeId} {parts : List (DataW H)} (hs : P.underlying t = some (.struct fs)) (h : Light P t (.agg parts)) {i : Nat} {f : Field} {d : DataW H} (hf : fs[i]? = some f) (hd : parts[i]? = some d) : Light P f.type d := fun n hn => by
  refine h n ?_
  simp only [DataW.weights, hs]
  exact DataW.weights_mem_each (j := i) (by rw [List.getElem?_map, Array.getElem?_toList, hf]; rfl) hd n hn

theorem weightsAll_mem {e : TypeId} : ∀ {ds : List (DataW H)} {d : DataW H}, d ∈ ds → ∀ n ∈ d.weights P e, n ∈ DataW.weightsAll P e ds
  | [], _, h, _, _ => by cases h
  | d0 :: ds, d, h, n, hn => by
    simp only [DataW.weightsAll, List.mem_append]
    rcases List.mem_cons.1 h with rfl | h
    · exact .inl hn
    · exact .inr (weightsAll_mem h n hn)

theorem light_slice {t e : TypeId} {el sp : List (DataW H)} (ht : P.underlying t = some (.slice e)) (h : Light P t (.slice el sp)) : (el.length + sp.length) * P.bytesOf e ≤ reachBytes ∧ ∀ d ∈ el, Light P e d := by
  refine ⟨h _ (by simp [DataW.weights, ht]), fun d hd n hn => h n ?_⟩
  simp only [DataW.weights, ht, List.mem_cons, List.mem_append]
  exact .inr (.inl (weightsAll_mem hd n hn))

theorem flat_get {α : Type} (cells : α → List Value) (s : Nat) (hl : ∀ y, (cells y).length = s) : ∀ (xs : List α) (q r : Nat) (hq : q < xs.length), r < s → (xs.flatMap cells)[q * s + r]? = (cells xs[q])[r]?
  | x :: xs, 0, r, _, hr => by
    rw [List.flatMap_cons, Nat.zero_mul, Nat.zero_add, List.getElem?_append_left (by rw [hl]; exact hr)]
    rfl
  | x :: xs, q + 1, r, hq, hr => by
    have := flat_get cells s hl xs q r (by simpa using hq) hr
    rw [List.flatMap_cons, List.getElem?_append_right (by rw [hl, Nat.add_mul]; omega), hl]
    rw [show (q + 1) * s + r - s = q * s + r by rw [Nat.add_mul]; omega, this]
    simp

/-- A slice of anything. -/
theorem rd_slice {α : Type} {t e : TypeId} {fuel : Nat} {cs : List Value} {x : DataW H × List MemPlace} (cells : α → List Value) (Pr : DataW H → α → Prop) (s : Nat) (hs : 0 < s) (hsp : ∀ b, spare b = true) (ht : P.underlying t = some (.slice e)) (hce : P.cellsOf e = s) (hl : ∀ y, (cells y).length = s)
    (hel : ∀ m cs' y, DataW.trod enc P W base spare held m e cs' = some y → ∃ z, cs' = cells z ∧ Pr y.1 z) (h : DataW.trod enc P W base spare held fuel t cs = some x) :
    ∃ (v : Value) (xs : List α), cs = [v] ∧ Sl W s v xs.length (xs.flatMap cells) ∧ (Light P t x.1 → xs.length * P.bytesOf e ≤ reachBytes) ∧ ∀ z ∈ xs, ∃ d, Pr d z ∧ (Light P t x.1 → Light P e d) := by
  rcases open_slice ht h with ⟨rfl, hx⟩ | ⟨a, len, cap, m, n, D, Pl, rfl, hb, hlc, hcm, hm, rfl, hc⟩
  · exact ⟨_, [], rfl, ⟨by simp, .inl ⟨none, rfl, rfl⟩⟩, fun _ => by simp, fun z hz => by cases hz⟩
  · rw [hsp a.block, if_pos rfl] at hm
    subst hm
    rw [hce] at hc
    have each : ∀ i, i < m → ∃ z, W.cells? base (a.add (i * s)) s = some (cells z) ∧ Pr (D i) z := fun i hi => by
      obtain ⟨cs', h1, h2⟩ := hc i hi
      obtain ⟨z, rfl, hz⟩ := hel _ _ _ h2
      exact ⟨z, h1, hz⟩
    -- the elements
    have pick : ∀ k, k ≤ m → ∃ xs : List α, xs.length = k ∧ ∀ i (hi : i < xs.length), W.cells? base (a.add (i * s)) s = some (cells xs[i]) ∧ Pr (D i) xs[i] := by
      intro k
      induction k with
      | zero => intro _; exact ⟨[], rfl, fun i hi => by simp at hi⟩
      | succ k ih =>
        intro hk
        obtain ⟨xs, hxl, hxs⟩ := ih (by omega)
        obtain ⟨z, h1, h2⟩ := each k (by omega)
        refine ⟨xs ++ [z], by simp [hxl], fun i hi => ?_⟩
        by_cases hik : i < xs.length
        · rw [List.getElem_append_left hik]
          exact hxs i hik
        · have : i = xs.length := by simp at hi; omega
          subst this
          rw [List.getElem_append_right (Nat.le_refl _)]
          simp only [Nat.sub_self, List.getElem_cons_zero]
          rw [hxl]
          exact ⟨h1, h2⟩
    obtain ⟨xs, hxl, hxs⟩ := pick len hlc
    refine ⟨_, xs, rfl, ?_, ?_, ?_⟩
    · refine ⟨?_, ?_⟩
      · rw [List.length_flatMap]
        have : (xs.map fun y => (cells y).length) = List.replicate xs.length s := by
          apply List.ext_getElem <;> simp [hl]
        rw [this, List.sum_replicate_nat]
      · by_cases h0 : len = 0 ∧ m = 0
        · exact .inl ⟨some a, by rw [h0.1, h0.2], by omega⟩
        · obtain ⟨z0, hz0, _⟩ := each 0 (by omega)
          have hsp0 := World.cells?_some hz0
          have hc0 : ∃ v, W.cell? ((a.add (0 * s)).add 0) = some v := by
            have := hsp0.2.2 0 hs
            rw [List.getElem?_eq_getElem (by rw [hl]; exact hs)] at this
            exact ⟨_, this⟩
          obtain ⟨v0, hv0⟩ := hc0
          have hspot := World.cell?_spot hv0
          obtain ⟨b, off, sp⟩ := a
          have hsp' : sp = none := by simpa [Addr.add] using hspot
          subst hsp'
          refine .inr ⟨b, off, m, by rw [hxl], by omega, hcm, fun i hi => ?_⟩
          have hi' : i < xs.length * s := by
            rw [List.length_flatMap] at hi
            have : (xs.map fun y => (cells y).length) = List.replicate xs.length s := by
              apply List.ext_getElem <;> simp [hl]
            rwa [this, List.sum_replicate_nat] at hi
          have hq : i / s < xs.length := (Nat.div_lt_iff_lt_mul hs).2 hi'
          have hr : i % s < s := Nat.mod_lt _ hs
          have he : i / s * s + i % s = i := by rw [Nat.mul_comm]; exact Nat.div_add_mod i s
          have h1 := (World.cells?_some (hxs (i / s) hq).1).2.2 (i % s) hr
          have h2 := flat_get cells s hl xs (i / s) (i % s) hq hr
          rw [he, List.getElem?_eq_getElem hi] at h2
          rw [h2, ← h1]
          congr 1
          have hadd : ∀ (o k : Nat), (⟨b, o, none⟩ : Addr).add k = ⟨b, o + k, none⟩ := fun o k => by unfold Addr.add; split <;> simp_all
          rw [hadd, hadd, Nat.add_assoc, he]
    · intro hlt
      have := (light_slice ht hlt).1
      simp only [List.length_map, List.length_range] at this
      rw [hxl]
      exact Nat.le_trans (Nat.mul_le_mul_right _ (by omega)) this
    · intro z hz
      obtain ⟨i, hi, rfl⟩ := List.getElem_of_mem hz
      refine ⟨D i, (hxs i hi).2, fun hlt => (light_slice ht hlt).2 _ (List.mem_map.2 ⟨i, List.mem_range.2 (by omega), rfl⟩)⟩

theorem rd_bytes {t e : TypeId} {fuel : Nat} {cs : List Value} {x : DataW H × List MemPlace} (hsp : ∀ b, spare b = true) (ht : P.underlying t = some (.slice e)) (he : P.underlying e = some (.int .u8)) (hce : P.cellsOf e = 1) (hby : P.bytesOf e = 1) (h : DataW.trod enc P W base spare held fuel t cs = some x) :
    ∃ (v : Value) (xs : List UInt8), cs = [v] ∧ Bs W v xs ∧ (Light P t x.1 → xs.length ≤ 140737488351232) := by
  obtain ⟨v, xs, rfl, hs, hl, _⟩ := rd_slice (fun z : UInt8 => [by8 z]) (fun _ _ => True) 1 (by decide) hsp ht hce (fun _ => rfl) (fun m cs' y hy => by
    obtain ⟨n, rfl, _, hw⟩ := DataW.trod_int he hy
    have := bounds_u8 hw
    refine ⟨UInt8.ofNat n.toNat, ?_, trivial⟩
    simp only [by8, List.cons.injEq, Value.int.injEq, true_and, UInt8.toNat_ofNat', and_true]
    omega) h
  refine ⟨v, xs, rfl, ?_, fun hlt => ?_⟩
  · unfold Bs
    rw [List.map_eq_flatMap]
    exact hs
  · have := hl hlt
    rw [hby] at this
    simpa [reachBytes] using this

theorem rd_arr {α : Type} {t e : TypeId} {fuel n : Nat} {cs : List Value} {x : DataW H × List MemPlace} (f : α → Value) (ht : P.underlying t = some (.array n e)) (hce : P.cellsOf e = 1) (hct : P.cellsOf t = n)
    (hel : ∀ m cs' y, DataW.trod enc P W base spare held m e cs' = some y → ∃ z, cs' = [f z]) (h : DataW.trod enc P W base spare held fuel t cs = some x) : ∃ xs : List α, xs.length = n ∧ cs = xs.map f := by
  obtain ⟨ys, m, _, _, hl, hx, hi⟩ := DataW.trod_array ht h
  rw [hct] at hl
  have each : ∀ i, i < n → ∃ z, cs[i]? = some (f z) := fun i hin => by
    have h1 := hi i hin
    rw [hce] at h1
    have hxi : ys[i]? = some (ys[i]'(by omega)) := List.getElem?_eq_getElem (by omega)
    rw [hxi] at h1
    obtain ⟨z, hz⟩ := hel _ _ _ h1
    refine ⟨z, ?_⟩
    have := congrArg (·[0]?) hz
    simpa [List.getElem?_take, List.getElem?_drop] using this
  have pick : ∀ k, k ≤ n → ∃ xs : List α, xs.length = k ∧ cs.take k = xs.map f := by
    intro k
    induction k with
    | zero => intro _; exact ⟨[], rfl, by simp⟩
    | succ k ih =>
      intro hk
      obtain ⟨xs, hxl, hxs⟩ := ih (by omega)
      obtain ⟨z, hz⟩ := each k (by omega)
      have hkl : k < cs.length := by omega
      refine ⟨xs ++ [z], by simp [hxl], ?_⟩
      rw [List.take_succ_eq_append_getElem hkl, hxs, List.map_append]
      rw [List.getElem?_eq_getElem hkl] at hz
      rw [Option.some.inj hz]
      rfl
  obtain ⟨xs, h1, h2⟩ := pick n (Nat.le_refl _)
  exact ⟨xs, h1, by rw [← h2, List.take_of_length_le (by omega)]⟩

theorem rd_u8s {t e : TypeId} {fuel n : Nat} {cs : List Value} {x : DataW H × List MemPlace} (ht : P.underlying t = some (.array n e)) (he : P.underlying e = some (.int .u8)) (hce : P.cellsOf e = 1) (hct : P.cellsOf t = n)
    (h : DataW.trod enc P W base spare held fuel t cs = some x) : ∃ xs : List UInt8, xs.length = n ∧ cs = xs.map by8 :=
  rd_arr by8 ht hce hct (fun m cs' y hy => by
    obtain ⟨z, rfl, _, hw⟩ := DataW.trod_int he hy
    have := bounds_u8 hw
    refine ⟨UInt8.ofNat z.toNat, ?_⟩
    simp only [by8, List.cons.injEq, Value.int.injEq, true_and, UInt8.toNat_ofNat', and_true]
    omega) h

/-- A struct: its cells, and each field's reading. -/
theorem rd_struct {t : TypeId} {fs : Array Field} {fuel : Nat} {cs : List Value} {x : DataW H × List MemPlace} (hs : P.underlying t = some (.struct fs)) (h : DataW.trod enc P W base spare held fuel t cs = some x) :
    cs.length = P.cellsOf t ∧ ∀ (i : Nat) (f : Field), fs[i]? = some f → ∃ m y, DataW.trod enc P W base spare held m f.type ((cs.drop f.offset).take (P.cellsOf f.type)) = some y ∧ (Light P t x.1 → Light P f.type y.1) := by
  obtain ⟨xs, m, _, rfl, hl, hx, hi⟩ := DataW.trod_struct hs h
  refine ⟨hl, fun i f hf => ?_⟩
  have hin : i < xs.length := by rw [hx]; exact (Array.getElem?_eq_some_iff.1 hf).1
  refine ⟨m, xs[i], by rw [hi i f hf, List.getElem?_eq_getElem hin], fun hlt => ?_⟩
  exact light_field hs hlt hf (by rw [List.getElem?_map, List.getElem?_eq_getElem hin]; rfl)

/-- A value that came in as a struct. -/
theorem open_cells {t : TypeId} {base2 : Nat} {fs : Array Field} {v : Value} {d : DataW H} {ps : List MemPlace} (hs : P.underlying t = some (.struct fs)) (hok : Value.okWide P W .any base2 t v) (h : DataW.Trod enc P W base spare held t v d ps) :
    ∃ (cs : List Value) (fuel : Nat), v = .agg cs.toArray ∧ DataW.trod enc P W base spare held fuel t cs = some (d, ps) := by
  obtain ⟨cs, rfl, _⟩ := okWide_struct hs hok
  obtain ⟨fuel, hf⟩ := h
  exact ⟨cs.toList, fuel, by simp, by simpa [Value.cells] using hf⟩

/-- A value that came in as a slice. -/
theorem open_slice1 {t e : TypeId} {base2 : Nat} {v : Value} {d : DataW H} {ps : List MemPlace} (hs : P.underlying t = some (.slice e)) (hok : Value.okWide P W .any base2 t v) (h : DataW.Trod enc P W base spare held t v d ps) :
    ∃ (fuel : Nat), DataW.trod enc P W base spare held fuel t [v] = some (d, ps) := by
  obtain ⟨a0, len0, cap0, rfl⟩ := okWide_slice hs hok
  obtain ⟨fuel, hf⟩ := h
  exact ⟨fuel, by simpa [Value.cells] using hf⟩
end
end Go.Proofs.YtioonimpobcglaaDoor
