/- A region that draws in which two operations take outer things of their own. No condition. -/
import Derived.Test.YtfhkmmagpnojmaaZBg
set_option linter.unusedSimpArgs false
set_option linter.unusedVariables false
namespace Go.Proofs.Ytfhkmmagpnojmaa
open Go.RowKit

structure RInvD (ops : Array Oper) (sp : List RSpec) (w0 : World) (lf : Array Bool → List Res) (a : Act) (listed : Array Bool) (a' : Act) (w : World) (u : Nat → Value) : Prop where
  head : HeadInv .any ops sp.length listed
  vals : ∀ i, i < sp.length → listed.getD i false = true → (spec sp i).valAt u i
  st : Has w0 w (resOf sp u (liveIds sp fun i => listed.getD i false) ++ lf listed)
  defers : a'.defers = a.defers
  size : a'.tmps.size = a.tmps.size
  set : ∀ i, i < sp.length → listed.getD i false = true → ∀ d, dstAt ops i = some d → d < a.tmps.size → a'.tmps[d]? = some (u i)
  same : ∀ t, (∀ i, i < sp.length → listed.getD i false = true → dstAt ops i ≠ some t) → a'.tmps[t]? = a.tmps[t]?
section
variable {P : Program} {Bad : List PanicEntry → World → Prop} {ops : Array Oper} {sp : List RSpec}

/-- One operation that may come up comes up. -/
theorem rely_stepD {w0 : World} {lf : Array Bool → List Res} {a : Act} {A : (Nat → Value) → Act} {Q : Exit → Act → World → Prop} (hBad : ∀ c a2 w2, a2.defers = a.defers → Bad c w2 → Q (.panic c) a2 w2) (h : relyB ops sp = true) (hA : ∀ u, putAll ops a u sp.length = A u) (hok : ∀ i, i < sp.length → ∀ q : Array Bool, q.size = ops.size → q.getD i false = false → StepOKB P Bad ops sp w0 (lf q) (lf (q.setIfInBounds i true)) A i)
    {listed : Array Bool} {a' : Act} {w : World} {u : Nat → Value} (I : RInvD ops sp w0 lf a listed a' w u) {i : Nat} (hi : i < sp.length) (hr : i ∈ Region.ready .any ops listed) :
    wpOp P ops Q i (fun a'' w' => ∃ u', RInvD ops sp w0 lf a (listed.setIfInBounds i true) a'' w' u') a' w := by
  obtain ⟨o, T⟩ := relyB_told h i hi
  obtain ⟨hun, o', ho', hall⟩ := mem_ready.1 hr
  obtain rfl : o' = o := Option.some.inj (ho'.symm.trans T.op)
  have hunF : listed.getD i false = false := getD_both hun
  have hdep := deps_listed h I.head i hi (fun o'' ho'' e he hb => by
    obtain rfl : o'' = o' := Option.some.inj (ho''.symm.trans T.op)
    exact hall e he hb)
  have hdn : ∀ j ∈ (spec sp i).deps, j < sp.length := fun j hj => Nat.lt_trans (T.lt j hj) hi
  -- who is listed speaks of nobody who is not
  have hnot : ∀ j, j < sp.length → listed.getD j false = true → i ∉ (spec sp j).deps := fun j hj hl hm => by
    have hcl := deps_listed h I.head j hj (fun o'' ho'' e he hb => I.head.closed j o'' ho'' hl e he hb) i hm
    rw [hunF] at hcl
    cases hcl
  -- what the frame shows
  have hag : Agree ops o' a' (A u) := by
    refine ⟨fun t ht => ?_⟩
    rw [← hA u]
    by_cases hex : ∃ j, j < sp.length ∧ dstAt ops j = some t
    · obtain ⟨j, hj, hdj⟩ := hex
      have hjd := T.looks t ht j hj hdj
      obtain ⟨oj, Tj⟩ := relyB_told h j hj
      by_cases hts : t < a.tmps.size
      · rw [I.set j hj (hdep j hjd) t hdj hts, putAll_set a u t hts _ j hj hdj (fun k hk hkj => Tj.alone k hk hkj t hdj)]
      · exact getElem?_none_size (by rw [I.size, putAll_size]) (by rw [putAll_size]; exact hts)
    · rw [I.same t (fun j hj _ hdj => hex ⟨j, hj, hdj⟩), putAll_same a u t _ (fun j hj hdj => hex ⟨j, hj, hdj⟩)]
  -- the things
  have hlv : ∀ j ∈ (spec sp i).eats ++ (spec sp i).keeps, j ∈ liveIds sp (fun k => listed.getD k false) := fun j hj => by
    have hjd := T.sub j hj
    refine liveIds_mem.2 ⟨hdn j hjd, hdep j hjd, fun k hk hlk hm => ?_⟩
    have hki : k ≠ i := fun e => by rw [e, hunF] at hlk; cases hlk
    rcases List.mem_append.1 hj with h1 | h1
    · exact T.eat k hk hki j h1 hm
    · exact hnot k hk hlk (T.kept k hk hki j h1 hm)
  obtain ⟨rest, hrest⟩ : ∃ rest, rest = (liveIds sp (fun k => listed.getD k false)).filter (fun j => !((spec sp i).eats ++ (spec sp i).keeps).contains j) := ⟨_, rfl⟩
  have hrm : ∀ j, j ∈ rest ↔ j ∈ liveIds sp (fun k => listed.getD k false) ∧ j ∉ (spec sp i).eats ++ (spec sp i).keeps := fun j => by
    rw [hrest, List.mem_filter]
    simp
  have hrn : rest.Nodup := by rw [hrest]; exact (liveIds_nodup _ _).filter _
  have hperm : (liveIds sp (fun k => listed.getD k false)).Perm (((spec sp i).eats ++ (spec sp i).keeps) ++ rest) := by
    refine perm_of_mem (liveIds_nodup _ _) (List.nodup_append.2 ⟨T.nodup, hrn, fun x hx y hy e => ?_⟩) (fun j => ?_)
    · subst e
      exact ((hrm x).1 hy).2 hx
    · rw [List.mem_append, hrm]
      constructor
      · intro hj
        by_cases hm : j ∈ (spec sp i).eats ++ (spec sp i).keeps
        · exact .inl hm
        · exact .inr ⟨hj, hm⟩
      · rintro (hj | hj)
        · exact hlv j hj
        · exact hj.1
  obtain ⟨l1, hl1⟩ : ∃ l1, l1 = lf listed := ⟨_, rfl⟩
  obtain ⟨l2, hl2⟩ : ∃ l2, l2 = lf (listed.setIfInBounds i true) := ⟨_, rfl⟩
  have hst := I.st
  rw [← hl1] at hst
  have hS : Has w0 w (resOf sp u (spec sp i).eats ++ (resOf sp u (spec sp i).keeps ++ (l1 ++ resOf sp u rest))) := by
    refine hst.perm (((resOf_perm hperm).append_right l1).trans ?_)
    rw [resOf_append, resOf_append]
    simp only [List.append_assoc]
    exact (List.Perm.refl _).append ((List.Perm.refl _).append List.perm_append_comm)
  have hstep : StepOKB P Bad ops sp w0 l1 l2 A i := by
    rw [hl1, hl2]
    exact hok i hi listed I.head.size hunF
  unfold StepOKB at hstep
  rw [T.op] at hstep
  simp only at hstep
  have hfin := hstep u (resOf sp u rest) w (fun j hj => I.vals j (hdn j hj) (hdep j hj)) hS
  -- what is left
  have hnext : ∀ v w', ((spec sp i).val (mask (spec sp i).deps u) v ∧ Has w0 w' ((spec sp i).res (mask (spec sp i).deps u) v ++ (resOf sp u (spec sp i).keeps ++ (l2 ++ resOf sp u rest)))) →
      ∃ u', RInvD ops sp w0 lf a (listed.setIfInBounds i true) (a'.put o'.dst v) w' u' := by
    rintro v w' ⟨hv, hS'⟩
    obtain ⟨u', hu'⟩ : ∃ u' : Nat → Value, u' = fun j => if j = i then v else u j := ⟨_, rfl⟩
    have hui : u' i = v := by rw [hu']; simp
    have huj : ∀ j, j ≠ i → u' j = u j := fun j hj => by rw [hu']; simp [hj]
    have hmi : mask (spec sp i).deps u' = mask (spec sp i).deps u := mask_eq fun j hj => huj j (by have := T.lt j hj; omega)
    have hmj : ∀ j, j < sp.length → listed.getD j false = true → mask (spec sp j).deps u' = mask (spec sp j).deps u := fun j hj hl => mask_eq fun k hk => huj k (fun e => hnot j hj hl (e ▸ hk))
    have hold : ∀ j, (listed.setIfInBounds i true).getD j false = true → j ≠ i → listed.getD j false = true := fun j hj hji => by rw [getD_set_ne false (Ne.symm hji)] at hj; exact hj
    have hsz : i < listed.size := by rw [I.head.size]; exact (Array.getElem?_eq_some_iff.1 T.op).1
    have hnew : (listed.setIfInBounds i true).getD i false = true := by simp [hsz]
    have hrj : ∀ j, j < sp.length → listed.getD j false = true → j ≠ i → (spec sp j).resAt u' j = (spec sp j).resAt u j := fun j hj hl hji => by
      unfold RSpec.resAt
      rw [hmj j hj hl, huj j hji]
    have hdi : o'.dst = dstAt ops i := by unfold dstAt; rw [T.op]; rfl
    refine ⟨u', ⟨I.head.set hr hi, ?_, ?_, ?_, ?_, ?_, ?_⟩⟩
    · intro j hj hl
      by_cases hji : j = i
      · subst hji
        unfold RSpec.valAt
        rw [hmi, hui]
        exact hv
      · have := I.vals j hj (hold j hl hji)
        unfold RSpec.valAt at this ⊢
        rw [hmj j hj (hold j hl hji), huj j hji]
        exact this
    · have hp2 : (liveIds sp (fun k => (listed.setIfInBounds i true).getD k false)).Perm (i :: ((spec sp i).keeps ++ rest)) := by
        have hkr : ∀ j, j ∈ (spec sp i).keeps ++ rest ↔ j ∈ liveIds sp (fun k => listed.getD k false) ∧ j ∉ (spec sp i).eats := fun j => by
          rw [List.mem_append, hrm, List.mem_append]
          have hdis : j ∈ (spec sp i).keeps → j ∉ (spec sp i).eats := fun h1 h2 => (List.nodup_append.1 T.nodup).2.2 j h2 j h1 rfl
          constructor
          · rintro (h1 | h1)
            · exact ⟨hlv j (List.mem_append_right _ h1), hdis h1⟩
            · exact ⟨h1.1, fun h2 => h1.2 (.inl h2)⟩
          · rintro ⟨h1, h2⟩
            by_cases hk : j ∈ (spec sp i).keeps
            · exact .inl hk
            · exact .inr ⟨h1, fun h3 => h3.elim h2 hk⟩
        have hin : i ∉ (spec sp i).keeps ++ rest := fun hm => by
          have := (liveIds_mem.1 ((hkr i).1 hm).1).2.1
          rw [hunF] at this
          cases this
        refine perm_of_mem (liveIds_nodup _ _) (List.nodup_cons.2 ⟨hin, ?_⟩) (fun j => ?_)
        · refine List.nodup_append.2 ⟨(List.nodup_append.1 T.nodup).2.1, hrn, fun x hx y hy e => ?_⟩
          subst e
          exact ((hrm x).1 hy).2 (List.mem_append_right _ hx)
        · rw [List.mem_cons, hkr, liveIds_mem, liveIds_mem]
          constructor
          · rintro ⟨h1, h2, h3⟩
            by_cases hji : j = i
            · exact .inl hji
            · refine .inr ⟨⟨h1, hold j h2 hji, fun k hk hlk => h3 k hk (getD_set_true hlk)⟩, h3 i hi hnew⟩
          · rintro (rfl | ⟨⟨h1, h2, h3⟩, h4⟩)
            · refine ⟨hi, hnew, fun k hk hlk hm => ?_⟩
              by_cases hkj : k = j
              · subst hkj
                obtain ⟨ok, Tk⟩ := relyB_told h k hk
                have := Tk.lt k (Tk.sub k (List.mem_append_left _ hm))
                omega
              · obtain ⟨ok, Tk⟩ := relyB_told h k hk
                exact hnot k hk (hold k hlk hkj) (Tk.sub j (List.mem_append_left _ hm))
            · refine ⟨h1, getD_set_true h2, fun k hk hlk hm => ?_⟩
              by_cases hki : k = i
              · subst hki; exact h4 hm
              · exact h3 k hk (hold k hlk hki) hm
      have hres : resOf sp u' (i :: ((spec sp i).keeps ++ rest)) = (spec sp i).res (mask (spec sp i).deps u) v ++ (resOf sp u (spec sp i).keeps ++ resOf sp u rest) := by
        have h1 : (spec sp i).resAt u' i = (spec sp i).res (mask (spec sp i).deps u) v := by unfold RSpec.resAt; rw [hmi, hui]
        have h2 : resOf sp u' ((spec sp i).keeps ++ rest) = resOf sp u ((spec sp i).keeps ++ rest) := resOf_congr fun j hj => by
          have hjl : j ∈ liveIds sp (fun k => listed.getD k false) := by
            rcases List.mem_append.1 hj with h3 | h3
            · exact hlv j (List.mem_append_right _ h3)
            · exact ((hrm j).1 h3).1
          have hjm := liveIds_mem.1 hjl
          exact hrj j hjm.1 hjm.2.1 (fun e => by have := hjm.2.1; rw [e, hunF] at this; cases this)
        unfold resOf at h2 ⊢
        rw [List.flatMap_cons, h1, h2, List.flatMap_append]
      rw [← hl2]
      refine hS'.perm ?_
      refine List.Perm.trans ?_ (((resOf_perm hp2).append_right l2).symm)
      rw [hres]
      simp only [List.append_assoc]
      exact (List.Perm.refl _).append ((List.Perm.refl _).append List.perm_append_comm)
    · cases o'.dst <;> exact I.defers
    · cases o'.dst with
      | none => exact I.size
      | some d => simp only [Act.put, Array.size_setIfInBounds]; exact I.size
    · intro j hj hl d hd hds
      by_cases hji : j = i
      · subst hji
        rw [hdi, hd, put_same (by rw [I.size]; exact hds), hui]
      · have hne : o'.dst ≠ some d := by rw [hdi]; exact fun e => (T.alone j hj hji d e) hd
        rw [put_other hne, huj j hji]
        exact I.set j hj (hold j hl hji) d hd hds
    · intro t ht
      have hne : o'.dst ≠ some t := by rw [hdi]; exact ht i hi hnew
      rw [put_other hne]
      exact I.same t fun j hj hl => ht j hj (getD_set_true hl)
  unfold wpOp
  rw [T.op]
  simp only
  rw [hag.wanted]
  by_cases hw : Region.wanted o' (yielded ops (A u).tmps) = true
  · rw [if_pos hw] at hfin ⊢
    refine .inl (doesB_wp (Post := fun v w' => (spec sp i).val (mask (spec sp i).deps u) v ∧ Has w0 w' ((spec sp i).res (mask (spec sp i).deps u) v ++ (resOf sp u (spec sp i).keeps ++ (l2 ++ resOf sp u rest)))) ?_ hnext (fun c w2 => hBad c _ w2 I.defers))
    unfold doesB at hfin ⊢
    rw [execOp_congr o' (fun cs b => Region.noSelect_spec (by simp only [relyB, Bool.and_eq_true] at h; exact h.1) i o' cs b T.op) hag.eval]
    exact hfin
  · rw [if_neg hw] at hfin ⊢
    exact hnext _ _ hfin
theorem rely_runD {w0 : World} {lf : Array Bool → List Res} {a : Act} {A : (Nat → Value) → Act} {Q : Exit → Act → World → Prop} (hBad : ∀ c a2 w2, a2.defers = a.defers → Bad c w2 → Q (.panic c) a2 w2) (h : relyB ops sp = true) (ht : relyTailB ops sp.length = true) (hA : ∀ u, putAll ops a u sp.length = A u) (hok : ∀ i, i < sp.length → ∀ q : Array Bool, q.size = ops.size → q.getD i false = false → StepOKB P Bad ops sp w0 (lf q) (lf (q.setIfInBounds i true)) A i)
    (fin : ∀ u w, (∀ i, i < sp.length → (spec sp i).valAt u i) → Has w0 w (resOf sp u (liveIds sp fun _ => true) ++ lf (List.replicate sp.length true ++ List.replicate (ops.size - sp.length) false).toArray) → wpList P ops Q (ops.toList.drop sp.length) (A u) w) :
    ∀ (f : Nat) (listed : Array Bool) (a' : Act) (w : World) (u : Nat → Value), RInvD ops sp w0 lf a listed a' w u → cntU sp.length listed = f → wpAny P .any ops Q (f + (ops.size - sp.length)) listed a' w
  | 0, listed, a', w, u, I, hc => by
    have hall : ∀ i, i < sp.length → listed.getD i false = true := fun i hi => by
      cases hl : listed.getD i false with
      | true => rfl
      | false =>
        have hm : i ∈ (List.range sp.length).filter fun i => !listed.getD i false := List.mem_filter.2 ⟨List.mem_range.2 hi, by rw [hl]; rfl⟩
        rw [List.eq_nil_of_length_eq_zero hc] at hm
        cases hm
    have hn : sp.length ≤ ops.size := by
      rcases Nat.lt_or_ge ops.size sp.length with h1 | h1
      · obtain ⟨o, T⟩ := relyB_told h ops.size h1
        have := (Array.getElem?_eq_some_iff.1 T.op).1
        omega
      · exact h1
    have hlist : listed = (List.replicate sp.length true ++ List.replicate (ops.size - sp.length) false).toArray := by
      apply Array.ext
      · rw [I.head.size]; simp; omega
      · intro j h1 h2
        rw [I.head.size] at h1
        by_cases hj : j < sp.length
        · have := hall j hj
          simp [I.head.size, h1] at this
          simp [this, List.getElem_append, hj]
        · have := I.head.tail j (by omega) h1
          simp [I.head.size, h1] at this
          simp [this, List.getElem_append, hj]
    have hact : a' = A u := by
      rw [← hA u]
      have hd : a'.defers = (putAll ops a u sp.length).defers := by rw [I.defers, putAll_defers]
      have htm : a'.tmps = (putAll ops a u sp.length).tmps := by
        apply Array.ext_getElem?
        intro t
        by_cases hex : ∃ j, j < sp.length ∧ dstAt ops j = some t
        · obtain ⟨j, hj, hdj⟩ := hex
          obtain ⟨oj, Tj⟩ := relyB_told h j hj
          by_cases hts : t < a.tmps.size
          · rw [I.set j hj (hall j hj) t hdj hts, putAll_set a u t hts _ j hj hdj (fun k hk hkj => Tj.alone k hk hkj t hdj)]
          · exact getElem?_none_size (by rw [I.size, putAll_size]) (by rw [putAll_size]; exact hts)
        · rw [I.same t (fun j hj _ hdj => hex ⟨j, hj, hdj⟩), putAll_same a u t _ (fun j hj hdj => hex ⟨j, hj, hdj⟩)]
      cases a'
      cases hpa : putAll ops a u sp.length
      rw [hpa] at hd htm
      simp only at hd htm
      rw [hd, htm]
    have hlv : (liveIds sp fun i => listed.getD i false) = liveIds sp fun _ => true := by
      unfold liveIds
      refine List.filter_congr fun i hi => ?_
      dsimp only
      rw [hall i (List.mem_range.1 hi)]
      congr 1
      rw [Bool.eq_iff_iff]
      simp only [List.all_eq_true]
      exact forall_congr' fun k => forall_congr' fun hk => by rw [hall k (List.mem_range.1 hk)]
    have hS := I.st
    rw [hlv] at hS
    rw [hlist] at hS
    have hW := fin u w (fun i hi => I.vals i hi (hall i hi)) hS
    have hlen : (ops.toList.drop sp.length).length = ops.size - sp.length := by simp
    rw [Nat.zero_add, ← hlen, hact]
    refine wpAny_of_seq (ops.toList.drop sp.length) sp.length listed (A u) w (fun j => by rw [List.getElem?_drop, Array.getElem?_toList]) ?_ hW
    simp only [relyTailB, Bool.and_eq_true] at ht
    rw [hlen, hlist]
    exact ht.2
  | f + 1, listed, a', w, u, I, hc => by
    rw [show f + 1 + (ops.size - sp.length) = (f + (ops.size - sp.length)) + 1 by omega]
    have hex : ∃ i, i < sp.length ∧ listed.getD i false = false := by
      have : (List.range sp.length).filter (fun i => !listed.getD i false) ≠ [] := fun e => by
        unfold cntU at hc
        rw [e] at hc
        cases hc
      obtain ⟨i, hi⟩ := List.exists_mem_of_ne_nil _ this
      rw [List.mem_filter, List.mem_range] at hi
      exact ⟨i, hi.1, by simpa using hi.2⟩
    have hlt : ∀ i, i < sp.length → i < ops.size := fun i hi => by
      obtain ⟨o, T⟩ := relyB_told h i hi
      exact (Array.getElem?_eq_some_iff.1 T.op).1
    have hready : ∃ i, i ∈ Region.ready .any ops listed := by
      have key : ∀ i, i < sp.length → listed.getD i false = false → ∃ j, j ∈ Region.ready .any ops listed := by
        intro i
        induction i using Nat.strongRecOn with
        | _ i ih =>
          intro hi hl
          obtain ⟨o, T⟩ := relyB_told h i hi
          by_cases hc2 : ∃ e ∈ o.after, Region.binds .any e = true ∧ listed.getD e.on false = false
          · obtain ⟨e, he, hb, hel⟩ := hc2
            exact ih e.on (T.back e he hb) (Nat.lt_trans (T.back e he hb) hi) hel
          · refine ⟨i, mem_ready.2 ⟨getD_in (by rw [I.head.size]; exact hlt i hi) hl, o, T.op, fun e he hb => ?_⟩⟩
            cases hel : listed.getD e.on false with
            | true => rfl
            | false => exact absurd ⟨e, he, hb, hel⟩ hc2
      obtain ⟨i, hi, hl⟩ := hex
      exact key i hi hl
    obtain ⟨i0, hi0, hl0⟩ := hex
    have hhead : ∀ i, i ∈ Region.ready .any ops listed → i < sp.length := fun i hi => by
      simp only [relyTailB, Bool.and_eq_true, Bool.or_eq_true, decide_eq_true_eq] at ht
      rcases ht.1 with h1 | ⟨⟨h1, h2⟩, h3⟩
      · obtain ⟨_, o, ho, _⟩ := mem_ready.1 hi
        have := (Array.getElem?_eq_some_iff.1 ho).1
        omega
      · rcases Nat.lt_or_ge i sp.length with h4 | h4
        · exact h4
        · exact absurd hi (tail_waits h2 h3 h1 I.head _ i0 rfl hi0 (getD_in (by rw [I.head.size]; exact hlt i0 hi0) hl0) i h4)
    refine ⟨fun h0 => ?_, fun i hi => ?_⟩
    · obtain ⟨i, hi⟩ := hready
      rw [h0] at hi
      cases hi
    · have hin := hhead i hi
      have hun : listed.getD i false = false := getD_both (mem_ready.1 hi).1
      refine wpOp_mono (fun a'' w' h1 => ?_) (rely_stepD hBad h hA hok I hin hi)
      obtain ⟨u', I'⟩ := h1
      refine rely_runD hBad h ht hA hok fin f _ a'' w' u' I' ?_
      have := cntU_set hin (by rw [I.head.size]; exact hlt i hin) hun
      omega
/-- A region that draws its order: each operation of its head told by itself, the rest in order; one that panics ends it. -/
theorem wp_relyD2 {id : Nat} {w0 w : World} {lf : Array Bool → List Res} {a : Act} {Q : Exit → Act → World → Prop} (hBad : ∀ c a2 w2, a2.defers = a.defers → Bad c w2 → Q (.panic c) a2 w2) (S : Has w0 w (lf (Array.replicate ops.size false))) (sp : List RSpec) (A : (Nat → Value) → Act) (hA : ∀ u, putAll ops a u sp.length = A u) (hm : P.follows .mixedOrders = true) (h : relyB ops sp = true) (ht : relyTailB ops sp.length = true)
    (live : List Nat) (hlive : liveIds sp (fun _ => true) = live) (hok : ∀ i, i < sp.length → ∀ q : Array Bool, q.size = ops.size → q.getD i false = false → StepOKB P Bad ops sp w0 (lf q) (lf (q.setIfInBounds i true)) A i)
    (fin : ∀ u w, (∀ i, i < sp.length → (spec sp i).valAt u i) → Has w0 w (resOf sp u live ++ lf (List.replicate sp.length true ++ List.replicate (ops.size - sp.length) false).toArray) → wpList P ops Q (ops.toList.drop sp.length) (A u) w) : (Code.region id ops true).wp P Q a w := by
  subst hlive
  refine wp_region_any hm ?_
  have hn : sp.length ≤ ops.size := by
    rcases Nat.lt_or_ge ops.size sp.length with h1 | h1
    · obtain ⟨o, T⟩ := relyB_told h ops.size h1
      have := (Array.getElem?_eq_some_iff.1 T.op).1
      omega
    · exact h1
  have hnone : ∀ i, ¬ (Array.replicate ops.size false).getD i false = true := fun i => by
    rw [getD_replicate_false]
    simp
  have hcnt : cntU sp.length (Array.replicate ops.size false) = sp.length := by
    unfold cntU
    rw [List.filter_eq_self.2 (fun i _ => by rw [getD_replicate_false]; rfl), List.length_range]
  have hrun := rely_runD (Q := Q) hBad h ht hA hok fin sp.length (Array.replicate ops.size false) a { w with drawn := w.drawn + 1 } (fun _ => undef) ?_ hcnt
  · rw [show sp.length + (ops.size - sp.length) = ops.size by omega] at hrun
    exact hrun
  · refine ⟨⟨by simp, fun j oj _ hl => absurd hl (hnone j), fun t _ htl => by simp [htl]⟩, fun i _ hl => absurd hl (hnone i), ?_, rfl, rfl, fun i _ hl => absurd hl (hnone i), fun t _ => rfl⟩
    have hlv : (liveIds sp fun i => (Array.replicate ops.size false).getD i false) = [] := by
      unfold liveIds
      rw [List.filter_eq_nil_iff]
      intro i _
      dsimp only
      rw [getD_replicate_false]
      simp
    rw [hlv]
    exact S.drew
/-- .. where operation k0 takes the first thing and operation k1 the second. -/
theorem wp_relyBW2 {id : Nat} {w0 w : World} {e0 e1 : Res} {F : List Res} {a : Act} {Q : Exit → Act → World → Prop} (k0 k1 : Nat) (hBad : ∀ c a2 w2, a2.defers = a.defers → Bad c w2 → Q (.panic c) a2 w2) (S : Has w0 w (e0 :: e1 :: F)) (sp : List RSpec) (A : (Nat → Value) → Act) (hA : ∀ u, putAll ops a u sp.length = A u) (hm : P.follows .mixedOrders = true) (h : relyB ops sp = true) (ht : relyTailB ops sp.length = true)
    (live : List Nat) (hlive : liveIds sp (fun _ => true) = live) (hk : k0 < sp.length ∧ k1 < sp.length ∧ k0 ≠ k1 ∧ sp.length ≤ ops.size) (hok : ∀ i, i < sp.length → if i = k0 then ∀ r : Res, StepOKB P Bad ops sp w0 (e0 :: r :: F) (noRes :: r :: F) A i else if i = k1 then ∀ r : Res, StepOKB P Bad ops sp w0 (r :: e1 :: F) (r :: noRes :: F) A i else ∀ r s : Res, StepOKB P Bad ops sp w0 (r :: s :: F) (r :: s :: F) A i)
    (fin : ∀ u w, (∀ i, i < sp.length → (spec sp i).valAt u i) → Has w0 w (resOf sp u live ++ (noRes :: noRes :: F)) → wpList P ops Q (ops.toList.drop sp.length) (A u) w) : (Code.region id ops true).wp P Q a w := by
  obtain ⟨k0l, k1l, kne, hsz⟩ := hk
  refine wp_relyD2 (lf := fun q => (if q.getD k0 false then noRes else e0) :: (if q.getD k1 false then noRes else e1) :: F) hBad (by rw [getD_replicate_false, getD_replicate_false]; exact S) sp A hA hm h ht live hlive (fun i hi q hq hqi => ?_) (fun u w h1 h2 => fin u w h1 ?_)
  · have := hok i hi
    have hin : i < q.size := by rw [hq]; omega
    have hset : (q.setIfInBounds i true).getD i false = true := by simp [hin]
    by_cases h0 : i = k0
    · subst h0
      rw [if_pos rfl] at this
      have e : (q.setIfInBounds i true).getD k1 false = q.getD k1 false := getD_set_ne false kne
      simp only [hqi, hset, e, if_true, Bool.false_eq_true, if_false]
      exact this _
    · rw [if_neg h0] at this
      have e0' : (q.setIfInBounds i true).getD k0 false = q.getD k0 false := getD_set_ne false h0
      by_cases h1 : i = k1
      · subst h1
        rw [if_pos rfl] at this
        simp only [hqi, hset, e0', if_true, Bool.false_eq_true, if_false]
        exact this _
      · rw [if_neg h1] at this
        have e1' : (q.setIfInBounds i true).getD k1 false = q.getD k1 false := getD_set_ne false h1
        simp only [e0', e1']
        exact this _ _
  · have g : ∀ k, k < sp.length → ((List.replicate sp.length true ++ List.replicate (ops.size - sp.length) false).toArray).getD k false = true := fun k hk => by
      rw [Array.getD_eq_getD_getElem?, List.getElem?_toArray, List.getElem?_append_left (by simpa using hk), List.getElem?_replicate, if_pos hk]
      rfl
    simp only [g k0 k0l, g k1 k1l, if_true] at h2
    exact h2
end
end Go.Proofs.Ytfhkmmagpnojmaa
