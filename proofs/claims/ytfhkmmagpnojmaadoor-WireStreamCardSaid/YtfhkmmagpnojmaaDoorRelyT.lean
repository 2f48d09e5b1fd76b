/- A region that draws: its head operation by operation, the rest in whatever order is left. No condition. -/
import Derived.Test.YtfhkmmagpnojmaaDoorBd
import Derived.Deep.RegionHeld
set_option linter.unusedSimpArgs false
set_option linter.unusedVariables false
namespace Go.Proofs.YtfhkmmagpnojmaaDoor
open Go.RowKit

section
variable {P : Program} {ops : Array Oper} {sp : List RSpec}

/-- Nothing behind the head comes up before all of the head has. -/
def waitsB (ops : Array Oper) (sp : List RSpec) : Bool :=
  (List.range ops.size).all fun i => decide (i < sp.length) || (List.range ops.size).any fun k => Region.waitsFor .any ops i k && (decide (sp.length ≤ k) || (List.range sp.length).all fun m => m == k || (spec sp k).deps.contains m)

theorem rely_runT {w0 : World} {lf : Bool → List Res} {k0 : Nat} {a : Act} {A : (Nat → Value) → Act} {Q : Exit → Act → World → Prop} (h : relyB ops sp = true) (ht : waitsB ops sp = true) (hA : ∀ u, putAll ops a u sp.length = A u) (hok : ∀ i, i < sp.length → if i = k0 then StepOK2 P ops sp w0 (lf false) (lf true) A i else ∀ b, StepOK2 P ops sp w0 (lf b) (lf b) A i)
    (fin : ∀ u w, (∀ i, i < sp.length → (spec sp i).valAt u i) → Has w0 w (resOf sp u (liveIds sp fun _ => true) ++ lf (decide (k0 < sp.length))) → wpAny P .any ops Q (ops.size - sp.length) ((List.replicate sp.length true ++ List.replicate (ops.size - sp.length) false).toArray) (A u) w) :
    ∀ (f : Nat) (listed : Array Bool) (a' : Act) (w : World) (u : Nat → Value), RInv ops sp w0 lf k0 a listed a' w u → cntU sp.length listed = f → wpAny P .any ops Q (f + (ops.size - sp.length)) listed a' w
  | 0, listed, a', w, u, I, hc => by
    have hall : ∀ i, i < sp.length → listed.getD i false = true := fun i hi => by
      cases hl : listed.getD i false with
      | true => rfl
      | false =>
        have hm : i ∈ (List.range sp.length).filter fun i => !listed.getD i false := List.mem_filter.2 ⟨List.mem_range.2 hi, by rw [hl]; rfl⟩
        rw [List.eq_nil_of_length_eq_zero hc] at hm
        cases hm
    have hn : sp.length ≤ ops.size := by
      rcases Nat.lt_or_ge ops.size sp.length with h1 | h1
      · obtain ⟨o, T⟩ := relyB_told h ops.size h1
        have := (Array.getElem?_eq_some_iff.1 T.op).1
        omega
      · exact h1
    have hlist : listed = (List.replicate sp.length true ++ List.replicate (ops.size - sp.length) false).toArray := by
      apply Array.ext
      · rw [I.head.size]; simp; omega
      · intro j h1 h2
        rw [I.head.size] at h1
        by_cases hj : j < sp.length
        · have := hall j hj
          simp [I.head.size, h1] at this
          simp [this, List.getElem_append, hj]
        · have := I.head.tail j (by omega) h1
          simp [I.head.size, h1] at this
          simp [this, List.getElem_append, hj]
    have hact : a' = A u := by
      rw [← hA u]
      have hd : a'.defers = (putAll ops a u sp.length).defers := by rw [I.defers, putAll_defers]
      have htm : a'.tmps = (putAll ops a u sp.length).tmps := by
        apply Array.ext_getElem?
        intro t
        by_cases hex : ∃ j, j < sp.length ∧ dstAt ops j = some t
        · obtain ⟨j, hj, hdj⟩ := hex
          obtain ⟨oj, Tj⟩ := relyB_told h j hj
          by_cases hts : t < a.tmps.size
          · rw [I.set j hj (hall j hj) t hdj hts, putAll_set a u t hts _ j hj hdj (fun k hk hkj => Tj.alone k hk hkj t hdj)]
          · exact getElem?_none_size (by rw [I.size, putAll_size]) (by rw [putAll_size]; exact hts)
        · rw [I.same t (fun j hj _ hdj => hex ⟨j, hj, hdj⟩), putAll_same a u t _ (fun j hj hdj => hex ⟨j, hj, hdj⟩)]
      cases a'
      cases hpa : putAll ops a u sp.length
      rw [hpa] at hd htm
      simp only at hd htm
      rw [hd, htm]
    have hlv : (liveIds sp fun i => listed.getD i false) = liveIds sp fun _ => true := by
      unfold liveIds
      refine List.filter_congr fun i hi => ?_
      dsimp only
      rw [hall i (List.mem_range.1 hi)]
      congr 1
      rw [Bool.eq_iff_iff]
      simp only [List.all_eq_true]
      exact forall_congr' fun k => forall_congr' fun hk => by rw [hall k (List.mem_range.1 hk)]
    have hS := I.st
    rw [hlv] at hS
    have hk0 : listed.getD k0 false = decide (k0 < sp.length) := by
      by_cases hk : k0 < sp.length
      · rw [hall k0 hk, decide_eq_true hk]
      · rw [decide_eq_false hk]
        by_cases hk2 : k0 < ops.size
        · have := I.head.tail k0 (by omega) hk2
          exact getD_both this
        · rw [Array.getD_eq_getD_getElem?, Array.getElem?_eq_none (by rw [I.head.size]; omega)]
          rfl
    rw [hk0] at hS
    have hW := fin u w (fun i hi => I.vals i hi (hall i hi)) hS
    rw [Nat.zero_add, hact, hlist]
    exact hW
  | f + 1, listed, a', w, u, I, hc => by
    rw [show f + 1 + (ops.size - sp.length) = (f + (ops.size - sp.length)) + 1 by omega]
    have hex : ∃ i, i < sp.length ∧ listed.getD i false = false := by
      have : (List.range sp.length).filter (fun i => !listed.getD i false) ≠ [] := fun e => by
        unfold cntU at hc
        rw [e] at hc
        cases hc
      obtain ⟨i, hi⟩ := List.exists_mem_of_ne_nil _ this
      rw [List.mem_filter, List.mem_range] at hi
      exact ⟨i, hi.1, by simpa using hi.2⟩
    have hlt : ∀ i, i < sp.length → i < ops.size := fun i hi => by
      obtain ⟨o, T⟩ := relyB_told h i hi
      exact (Array.getElem?_eq_some_iff.1 T.op).1
    have hready : ∃ i, i ∈ Region.ready .any ops listed := by
      have key : ∀ i, i < sp.length → listed.getD i false = false → ∃ j, j ∈ Region.ready .any ops listed := by
        intro i
        induction i using Nat.strongRecOn with
        | _ i ih =>
          intro hi hl
          obtain ⟨o, T⟩ := relyB_told h i hi
          by_cases hc2 : ∃ e ∈ o.after, Region.binds .any e = true ∧ listed.getD e.on false = false
          · obtain ⟨e, he, hb, hel⟩ := hc2
            exact ih e.on (T.back e he hb) (Nat.lt_trans (T.back e he hb) hi) hel
          · refine ⟨i, mem_ready.2 ⟨getD_in (by rw [I.head.size]; exact hlt i hi) hl, o, T.op, fun e he hb => ?_⟩⟩
            cases hel : listed.getD e.on false with
            | true => rfl
            | false => exact absurd ⟨e, he, hb, hel⟩ hc2
      obtain ⟨i, hi, hl⟩ := hex
      exact key i hi hl
    obtain ⟨i0, hi0, hl0⟩ := hex
    have hhead : ∀ i, i ∈ Region.ready .any ops listed → i < sp.length := fun i hi => by
      rcases Nat.lt_or_ge i sp.length with h4 | h4
      · exact h4
      · exfalso
        obtain ⟨_, o, ho, hall⟩ := mem_ready.1 hi
        have his := (Array.getElem?_eq_some_iff.1 ho).1
        unfold waitsB at ht
        have ht2 := List.all_eq_true.1 ht i (List.mem_range.2 his)
        rw [Bool.or_eq_true, decide_eq_true_eq] at ht2
        rcases ht2 with h5 | h5
        · omega
        obtain ⟨k, hk, hw⟩ := List.any_eq_true.1 h5
        rw [Bool.and_eq_true, Bool.or_eq_true, decide_eq_true_eq] at hw
        obtain ⟨hw, hc3⟩ := hw
        obtain ⟨o', ho', e, he, hb, rfl⟩ := Region.waitsFor_spec hw
        obtain rfl : o = o' := Option.some.inj (ho.symm.trans ho')
        have hkl := hall e he hb
        rcases hc3 with h6 | h6
        · rw [getD_both (I.head.tail e.on h6 (List.mem_range.1 hk))] at hkl
          cases hkl
        · have hke : e.on < sp.length := by
            rcases Nat.lt_or_ge e.on sp.length with h7 | h7
            · exact h7
            · rw [getD_both (I.head.tail e.on h7 (List.mem_range.1 hk))] at hkl
              cases hkl
          by_cases hie : i0 = e.on
          · rw [hie, hkl] at hl0; cases hl0
          · have hm := List.all_eq_true.1 h6 i0 (List.mem_range.2 hi0)
            rw [Bool.or_eq_true, beq_iff_eq] at hm
            rcases hm with hm | hm
            · exact hie hm
            · have := deps_listed h I.head e.on hke (fun o2 ho2 e2 he2 hb2 => I.head.closed e.on o2 ho2 hkl e2 he2 hb2) i0 (by simpa using hm)
              rw [this] at hl0; cases hl0
    refine ⟨fun h0 => ?_, fun i hi => ?_⟩
    · obtain ⟨i, hi⟩ := hready
      rw [h0] at hi
      cases hi
    · have hin := hhead i hi
      have hun : listed.getD i false = false := getD_both (mem_ready.1 hi).1
      refine wpOp_mono (fun a'' w' h1 => ?_) (rely_step h hA hok I hin hi)
      obtain ⟨u', I'⟩ := h1
      refine rely_runT h ht hA hok fin f _ a'' w' u' I' ?_
      have := cntU_set hin (by rw [I.head.size]; exact hlt i hin) hun
      omega


theorem wp_relyT2 {id : Nat} {w0 w : World} {lf : Bool → List Res} (k0 : Nat) {a : Act} {Q : Exit → Act → World → Prop} (S : Has w0 w (lf false)) (sp : List RSpec) (A : (Nat → Value) → Act) (hA : ∀ u, putAll ops a u sp.length = A u) (hm : P.follows .mixedOrders = true) (h : relyB ops sp = true) (ht : waitsB ops sp = true)
    (live : List Nat) (hlive : liveIds sp (fun _ => true) = live) (hok : ∀ i, i < sp.length → if i = k0 then StepOK2 P ops sp w0 (lf false) (lf true) A i else ∀ b, StepOK2 P ops sp w0 (lf b) (lf b) A i)
    (fin : ∀ u w, (∀ i, i < sp.length → (spec sp i).valAt u i) → Has w0 w (resOf sp u live ++ lf (decide (k0 < sp.length))) → wpAny P .any ops Q (ops.size - sp.length) ((List.replicate sp.length true ++ List.replicate (ops.size - sp.length) false).toArray) (A u) w) : (Code.region id ops true).wp P Q a w := by
  subst hlive
  refine wp_region_any hm ?_
  have hn : sp.length ≤ ops.size := by
    rcases Nat.lt_or_ge ops.size sp.length with h1 | h1
    · obtain ⟨o, T⟩ := relyB_told h ops.size h1
      have := (Array.getElem?_eq_some_iff.1 T.op).1
      omega
    · exact h1
  have hnone : ∀ i, ¬ (Array.replicate ops.size false).getD i false = true := fun i => by
    rw [getD_replicate_false]
    simp
  have hcnt : cntU sp.length (Array.replicate ops.size false) = sp.length := by
    unfold cntU
    rw [List.filter_eq_self.2 (fun i _ => by rw [getD_replicate_false]; rfl), List.length_range]
  have hrun := rely_runT (Q := Q) h ht hA hok fin sp.length (Array.replicate ops.size false) a { w with drawn := w.drawn + 1 } (fun _ => undef) ?_ hcnt
  · rw [show sp.length + (ops.size - sp.length) = ops.size by omega] at hrun
    exact hrun
  · refine ⟨⟨by simp, fun j oj _ hl => absurd hl (hnone j), fun t _ htl => by simp [htl]⟩, fun i _ hl => absurd hl (hnone i), ?_, rfl, rfl, fun i _ hl => absurd hl (hnone i), fun t _ => rfl⟩
    have hlv : (liveIds sp fun i => (Array.replicate ops.size false).getD i false) = [] := by
      unfold liveIds
      rw [List.filter_eq_nil_iff]
      intro i _
      dsimp only
      rw [getD_replicate_false]
      simp
    rw [hlv, getD_replicate_false]
    exact S.drew


theorem wp_relyT {id : Nat} {w0 w : World} {l : List Res} {a : Act} {Q : Exit → Act → World → Prop} (S : Has w0 w l) (sp : List RSpec) (A : (Nat → Value) → Act) (hA : ∀ u, putAll ops a u sp.length = A u) (hm : P.follows .mixedOrders = true) (h : relyB ops sp = true) (ht : waitsB ops sp = true)
    (live : List Nat) (hlive : liveIds sp (fun _ => true) = live) (hok : ∀ i, i < sp.length → StepOK P ops sp w0 l A i)
    (fin : ∀ u w, (∀ i, i < sp.length → (spec sp i).valAt u i) → Has w0 w (resOf sp u live ++ l) → wpAnyH P .any ops Q (fun _ => True) (ops.size - sp.length) ((List.replicate sp.length true ++ List.replicate (ops.size - sp.length) false).toArray) (A u) w) : (Code.region id ops true).wp P Q a w :=
  wp_relyT2 (lf := fun _ => l) sp.length S sp A hA hm h ht live hlive (fun i hi => by rw [if_neg (by omega)]; exact fun _ => hok i hi) (fun u w hv hS => wpAny_of_held _ _ _ _ (fin u w hv hS))
end
end Go.Proofs.YtfhkmmagpnojmaaDoor
