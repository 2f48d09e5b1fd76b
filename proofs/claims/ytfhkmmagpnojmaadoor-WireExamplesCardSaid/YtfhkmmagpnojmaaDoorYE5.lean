/- Several texts under one header: what the claim needs of Bg. No condition but those that each names. -/
import Derived.Test.YtfhkmmagpnojmaaDoorYE1
import Derived.Test.YtfhkmmagpnojmaaDoorYE4
import Derived.Test.YtfhkmmagpnojmaaDoorYE0
import Derived.Laws.BitsAllLaws
set_option linter.unusedSimpArgs false
set_option linter.unusedVariables false

/- Several texts under one header: RelyB, RqP, RcP, RpP, Spl, Frm, SplW. No condition but those that each names. -/

/- A region that draws its order, in which an operation may panic: each operation told by itself. No condition. -/
namespace Go.Proofs.YtfhkmmagpnojmaaDoor
open Go.RowKit

/-- What an operation does: its value and the world behind it, or a panic. -/
def doesB (P : Program) (Bad : List PanicEntry → World → Prop) (ρ : Operand → Value) (o : Oper) (w : World) (Post : Value → World → Prop) : Prop :=
  match (execOp ρ o).run P w with
  | .ok (.value v) w' => Post v w'
  | .ok .skip w' => Post undef w'
  | .ok (.enter f args) w' => Calls P f args w' fun e w'' => match e with | .returned v => Post v w'' | .panicked c => Bad c w'' | _ => False
  | _ => False
theorem does.bad {P : Program} {Bad : List PanicEntry → World → Prop} {ρ : Operand → Value} {o : Oper} {w : World} {Post : Value → World → Prop} (h : does P ρ o w Post) : doesB P Bad ρ o w Post := by
  unfold does at h
  unfold doesB
  generalize (execOp ρ o).run P w = r at *
  cases r with
  | ok n w' =>
    cases n <;> simp only at h ⊢
    case value v => exact h
    case skip => exact h
    case enter f args =>
      refine Calls.mono h fun e w'' he => ?_
      cases e with
      | returned v => exact he
      | panicked c => exact he.elim
      | outgrown => exact he.elim
  | halt x w' => simp only at h
theorem doesB_wp {P : Program} {Bad : List PanicEntry → World → Prop} {o : Oper} {a : Act} {w : World} {Post : Value → World → Prop} {K : Act → World → Prop} {Q : Exit → Act → World → Prop}
    (h : doesB P Bad a.eval o w Post) (hk : ∀ v w', Post v w' → K (a.put o.dst v) w') (hb : ∀ c w', Bad c w' → Q (.panic c) a w') : o.wp P a w K Q := by
  unfold doesB at h
  unfold Oper.wp
  generalize (execOp a.eval o).run P w = r at *
  cases r with
  | ok n w' =>
    cases n <;> simp only [Oper.upon] at h ⊢
    case value v => exact hk _ _ h
    case skip => exact hk _ _ h
    case enter f args =>
      refine Calls.mono h fun e w'' he => ?_
      cases e with
      | returned v => exact hk _ _ he
      | panicked c => exact hb _ _ he
      | outgrown => exact he.elim
  | halt x w' => simp only at h
theorem doesB_call {P : Program} {Bad : List PanicEntry → World → Prop} {ρ : Operand → Value} {o : Oper} {w w' : World} {f : FuncId} {args : Array Value} {R : Ending → World → Prop} {Post : Value → World → Prop} (hr : (execOp ρ o).run P w = .ok (.enter f args) w') (hc : Calls P f args w' R)
    (h : ∀ e w'', R e w'' → (∃ v, e = .returned v ∧ Post v w'') ∨ ∃ c, e = .panicked c ∧ Bad c w'') : doesB P Bad ρ o w Post := by
  unfold doesB
  rw [hr]
  refine hc.mono fun e w'' he => ?_
  rcases h e w'' he with ⟨v, rfl, hp⟩ | ⟨c, rfl, hp⟩
  · exact hp
  · exact hp
/-- What is to be shown of operation i. -/
def StepOKB (P : Program) (Bad : List PanicEntry → World → Prop) (ops : Array Oper) (sp : List RSpec) (w0 : World) (l1 l2 : List Res) (A : (Nat → Value) → Act) (i : Nat) : Prop :=
  match ops[i]? with
  | none => True
  | some o => ∀ (u : Nat → Value) (G : List Res) (w : World), (∀ j ∈ (spec sp i).deps, (spec sp j).valAt u j) →
      Has w0 w (resOf sp u (spec sp i).eats ++ (resOf sp u (spec sp i).keeps ++ (l1 ++ G))) →
      if Region.wanted o (yielded ops (A u).tmps) = true then
        doesB P Bad (A u).eval o w fun v w' => (spec sp i).val (mask (spec sp i).deps u) v ∧ Has w0 w' ((spec sp i).res (mask (spec sp i).deps u) v ++ (resOf sp u (spec sp i).keeps ++ (l2 ++ G)))
      else (spec sp i).val (mask (spec sp i).deps u) undef ∧ Has w0 w ((spec sp i).res (mask (spec sp i).deps u) undef ++ (resOf sp u (spec sp i).keeps ++ (l2 ++ G)))
section
variable {P : Program} {Bad : List PanicEntry → World → Prop} {ops : Array Oper} {sp : List RSpec}

/-- One operation that may come up comes up. -/
theorem rely_stepB {w0 : World} {lf : Bool → List Res} {k0 : Nat} {a : Act} {A : (Nat → Value) → Act} {Q : Exit → Act → World → Prop} (hBad : ∀ c a2 w2, a2.defers = a.defers → Bad c w2 → Q (.panic c) a2 w2) (h : relyB ops sp = true) (hA : ∀ u, putAll ops a u sp.length = A u) (hok : ∀ i, i < sp.length → if i = k0 then StepOKB P Bad ops sp w0 (lf false) (lf true) A i else ∀ b, StepOKB P Bad ops sp w0 (lf b) (lf b) A i)
    {listed : Array Bool} {a' : Act} {w : World} {u : Nat → Value} (I : RInv ops sp w0 lf k0 a listed a' w u) {i : Nat} (hi : i < sp.length) (hr : i ∈ Region.ready .any ops listed) :
    wpOp P ops Q i (fun a'' w' => ∃ u', RInv ops sp w0 lf k0 a (listed.setIfInBounds i true) a'' w' u') a' w := by
  obtain ⟨o, T⟩ := relyB_told h i hi
  obtain ⟨hun, o', ho', hall⟩ := mem_ready.1 hr
  obtain rfl : o' = o := Option.some.inj (ho'.symm.trans T.op)
  have hunF : listed.getD i false = false := getD_both hun
  have hdep := deps_listed h I.head i hi (fun o'' ho'' e he hb => by
    obtain rfl : o'' = o' := Option.some.inj (ho''.symm.trans T.op)
    exact hall e he hb)
  have hdn : ∀ j ∈ (spec sp i).deps, j < sp.length := fun j hj => Nat.lt_trans (T.lt j hj) hi
  -- who is listed speaks of nobody who is not
  have hnot : ∀ j, j < sp.length → listed.getD j false = true → i ∉ (spec sp j).deps := fun j hj hl hm => by
    have hcl := deps_listed h I.head j hj (fun o'' ho'' e he hb => I.head.closed j o'' ho'' hl e he hb) i hm
    rw [hunF] at hcl
    cases hcl
  -- what the frame shows
  have hag : Agree ops o' a' (A u) := by
    refine ⟨fun t ht => ?_⟩
    rw [← hA u]
    by_cases hex : ∃ j, j < sp.length ∧ dstAt ops j = some t
    · obtain ⟨j, hj, hdj⟩ := hex
      have hjd := T.looks t ht j hj hdj
      obtain ⟨oj, Tj⟩ := relyB_told h j hj
      by_cases hts : t < a.tmps.size
      · rw [I.set j hj (hdep j hjd) t hdj hts, putAll_set a u t hts _ j hj hdj (fun k hk hkj => Tj.alone k hk hkj t hdj)]
      · exact getElem?_none_size (by rw [I.size, putAll_size]) (by rw [putAll_size]; exact hts)
    · rw [I.same t (fun j hj _ hdj => hex ⟨j, hj, hdj⟩), putAll_same a u t _ (fun j hj hdj => hex ⟨j, hj, hdj⟩)]
  -- the things
  have hlv : ∀ j ∈ (spec sp i).eats ++ (spec sp i).keeps, j ∈ liveIds sp (fun k => listed.getD k false) := fun j hj => by
    have hjd := T.sub j hj
    refine liveIds_mem.2 ⟨hdn j hjd, hdep j hjd, fun k hk hlk hm => ?_⟩
    have hki : k ≠ i := fun e => by rw [e, hunF] at hlk; cases hlk
    rcases List.mem_append.1 hj with h1 | h1
    · exact T.eat k hk hki j h1 hm
    · exact hnot k hk hlk (T.kept k hk hki j h1 hm)
  obtain ⟨rest, hrest⟩ : ∃ rest, rest = (liveIds sp (fun k => listed.getD k false)).filter (fun j => !((spec sp i).eats ++ (spec sp i).keeps).contains j) := ⟨_, rfl⟩
  have hrm : ∀ j, j ∈ rest ↔ j ∈ liveIds sp (fun k => listed.getD k false) ∧ j ∉ (spec sp i).eats ++ (spec sp i).keeps := fun j => by
    rw [hrest, List.mem_filter]
    simp
  have hrn : rest.Nodup := by rw [hrest]; exact (liveIds_nodup _ _).filter _
  have hperm : (liveIds sp (fun k => listed.getD k false)).Perm (((spec sp i).eats ++ (spec sp i).keeps) ++ rest) := by
    refine perm_of_mem (liveIds_nodup _ _) (List.nodup_append.2 ⟨T.nodup, hrn, fun x hx y hy e => ?_⟩) (fun j => ?_)
    · subst e
      exact ((hrm x).1 hy).2 hx
    · rw [List.mem_append, hrm]
      constructor
      · intro hj
        by_cases hm : j ∈ (spec sp i).eats ++ (spec sp i).keeps
        · exact .inl hm
        · exact .inr ⟨hj, hm⟩
      · rintro (hj | hj)
        · exact hlv j hj
        · exact hj.1
  obtain ⟨l1, hl1⟩ : ∃ l1, l1 = lf (listed.getD k0 false) := ⟨_, rfl⟩
  obtain ⟨l2, hl2⟩ : ∃ l2, l2 = lf ((listed.setIfInBounds i true).getD k0 false) := ⟨_, rfl⟩
  have hst := I.st
  rw [← hl1] at hst
  have hS : Has w0 w (resOf sp u (spec sp i).eats ++ (resOf sp u (spec sp i).keeps ++ (l1 ++ resOf sp u rest))) := by
    refine hst.perm (((resOf_perm hperm).append_right l1).trans ?_)
    rw [resOf_append, resOf_append]
    simp only [List.append_assoc]
    exact (List.Perm.refl _).append ((List.Perm.refl _).append List.perm_append_comm)
  have hstep : StepOKB P Bad ops sp w0 l1 l2 A i := by
    have h0 := hok i hi
    by_cases hk : i = k0
    · rw [if_pos hk] at h0
      have hszi : i < listed.size := by rw [I.head.size]; exact (Array.getElem?_eq_some_iff.1 T.op).1
      rw [hl1, hl2, ← hk, hunF, show (listed.setIfInBounds i true).getD i false = true by simp [hszi]]
      exact h0
    · rw [if_neg hk] at h0
      rw [hl1, hl2, getD_set_ne false hk]
      exact h0 _
  unfold StepOKB at hstep
  rw [T.op] at hstep
  simp only at hstep
  have hfin := hstep u (resOf sp u rest) w (fun j hj => I.vals j (hdn j hj) (hdep j hj)) hS
  -- what is left
  have hnext : ∀ v w', ((spec sp i).val (mask (spec sp i).deps u) v ∧ Has w0 w' ((spec sp i).res (mask (spec sp i).deps u) v ++ (resOf sp u (spec sp i).keeps ++ (l2 ++ resOf sp u rest)))) →
      ∃ u', RInv ops sp w0 lf k0 a (listed.setIfInBounds i true) (a'.put o'.dst v) w' u' := by
    rintro v w' ⟨hv, hS'⟩
    obtain ⟨u', hu'⟩ : ∃ u' : Nat → Value, u' = fun j => if j = i then v else u j := ⟨_, rfl⟩
    have hui : u' i = v := by rw [hu']; simp
    have huj : ∀ j, j ≠ i → u' j = u j := fun j hj => by rw [hu']; simp [hj]
    have hmi : mask (spec sp i).deps u' = mask (spec sp i).deps u := mask_eq fun j hj => huj j (by have := T.lt j hj; omega)
    have hmj : ∀ j, j < sp.length → listed.getD j false = true → mask (spec sp j).deps u' = mask (spec sp j).deps u := fun j hj hl => mask_eq fun k hk => huj k (fun e => hnot j hj hl (e ▸ hk))
    have hold : ∀ j, (listed.setIfInBounds i true).getD j false = true → j ≠ i → listed.getD j false = true := fun j hj hji => by rw [getD_set_ne false (Ne.symm hji)] at hj; exact hj
    have hsz : i < listed.size := by rw [I.head.size]; exact (Array.getElem?_eq_some_iff.1 T.op).1
    have hnew : (listed.setIfInBounds i true).getD i false = true := by simp [hsz]
    have hrj : ∀ j, j < sp.length → listed.getD j false = true → j ≠ i → (spec sp j).resAt u' j = (spec sp j).resAt u j := fun j hj hl hji => by
      unfold RSpec.resAt
      rw [hmj j hj hl, huj j hji]
    have hdi : o'.dst = dstAt ops i := by unfold dstAt; rw [T.op]; rfl
    refine ⟨u', ⟨I.head.set hr hi, ?_, ?_, ?_, ?_, ?_, ?_⟩⟩
    · intro j hj hl
      by_cases hji : j = i
      · subst hji
        unfold RSpec.valAt
        rw [hmi, hui]
        exact hv
      · have := I.vals j hj (hold j hl hji)
        unfold RSpec.valAt at this ⊢
        rw [hmj j hj (hold j hl hji), huj j hji]
        exact this
    · have hp2 : (liveIds sp (fun k => (listed.setIfInBounds i true).getD k false)).Perm (i :: ((spec sp i).keeps ++ rest)) := by
        have hkr : ∀ j, j ∈ (spec sp i).keeps ++ rest ↔ j ∈ liveIds sp (fun k => listed.getD k false) ∧ j ∉ (spec sp i).eats := fun j => by
          rw [List.mem_append, hrm, List.mem_append]
          have hdis : j ∈ (spec sp i).keeps → j ∉ (spec sp i).eats := fun h1 h2 => (List.nodup_append.1 T.nodup).2.2 j h2 j h1 rfl
          constructor
          · rintro (h1 | h1)
            · exact ⟨hlv j (List.mem_append_right _ h1), hdis h1⟩
            · exact ⟨h1.1, fun h2 => h1.2 (.inl h2)⟩
          · rintro ⟨h1, h2⟩
            by_cases hk : j ∈ (spec sp i).keeps
            · exact .inl hk
            · exact .inr ⟨h1, fun h3 => h3.elim h2 hk⟩
        have hin : i ∉ (spec sp i).keeps ++ rest := fun hm => by
          have := (liveIds_mem.1 ((hkr i).1 hm).1).2.1
          rw [hunF] at this
          cases this
        refine perm_of_mem (liveIds_nodup _ _) (List.nodup_cons.2 ⟨hin, ?_⟩) (fun j => ?_)
        · refine List.nodup_append.2 ⟨(List.nodup_append.1 T.nodup).2.1, hrn, fun x hx y hy e => ?_⟩
          subst e
          exact ((hrm x).1 hy).2 (List.mem_append_right _ hx)
        · rw [List.mem_cons, hkr, liveIds_mem, liveIds_mem]
          constructor
          · rintro ⟨h1, h2, h3⟩
            by_cases hji : j = i
            · exact .inl hji
            · refine .inr ⟨⟨h1, hold j h2 hji, fun k hk hlk => h3 k hk (getD_set_true hlk)⟩, h3 i hi hnew⟩
          · rintro (rfl | ⟨⟨h1, h2, h3⟩, h4⟩)
            · refine ⟨hi, hnew, fun k hk hlk hm => ?_⟩
              by_cases hkj : k = j
              · subst hkj
                obtain ⟨ok, Tk⟩ := relyB_told h k hk
                have := Tk.lt k (Tk.sub k (List.mem_append_left _ hm))
                omega
              · obtain ⟨ok, Tk⟩ := relyB_told h k hk
                exact hnot k hk (hold k hlk hkj) (Tk.sub j (List.mem_append_left _ hm))
            · refine ⟨h1, getD_set_true h2, fun k hk hlk hm => ?_⟩
              by_cases hki : k = i
              · subst hki; exact h4 hm
              · exact h3 k hk (hold k hlk hki) hm
      have hres : resOf sp u' (i :: ((spec sp i).keeps ++ rest)) = (spec sp i).res (mask (spec sp i).deps u) v ++ (resOf sp u (spec sp i).keeps ++ resOf sp u rest) := by
        have h1 : (spec sp i).resAt u' i = (spec sp i).res (mask (spec sp i).deps u) v := by unfold RSpec.resAt; rw [hmi, hui]
        have h2 : resOf sp u' ((spec sp i).keeps ++ rest) = resOf sp u ((spec sp i).keeps ++ rest) := resOf_congr fun j hj => by
          have hjl : j ∈ liveIds sp (fun k => listed.getD k false) := by
            rcases List.mem_append.1 hj with h3 | h3
            · exact hlv j (List.mem_append_right _ h3)
            · exact ((hrm j).1 h3).1
          have hjm := liveIds_mem.1 hjl
          exact hrj j hjm.1 hjm.2.1 (fun e => by have := hjm.2.1; rw [e, hunF] at this; cases this)
        unfold resOf at h2 ⊢
        rw [List.flatMap_cons, h1, h2, List.flatMap_append]
      rw [← hl2]
      refine hS'.perm ?_
      refine List.Perm.trans ?_ (((resOf_perm hp2).append_right l2).symm)
      rw [hres]
      simp only [List.append_assoc]
      exact (List.Perm.refl _).append ((List.Perm.refl _).append List.perm_append_comm)
    · cases o'.dst <;> exact I.defers
    · cases o'.dst with
      | none => exact I.size
      | some d => simp only [Act.put, Array.size_setIfInBounds]; exact I.size
    · intro j hj hl d hd hds
      by_cases hji : j = i
      · subst hji
        rw [hdi, hd, put_same (by rw [I.size]; exact hds), hui]
      · have hne : o'.dst ≠ some d := by rw [hdi]; exact fun e => (T.alone j hj hji d e) hd
        rw [put_other hne, huj j hji]
        exact I.set j hj (hold j hl hji) d hd hds
    · intro t ht
      have hne : o'.dst ≠ some t := by rw [hdi]; exact ht i hi hnew
      rw [put_other hne]
      exact I.same t fun j hj hl => ht j hj (getD_set_true hl)
  unfold wpOp
  rw [T.op]
  simp only
  rw [hag.wanted]
  by_cases hw : Region.wanted o' (yielded ops (A u).tmps) = true
  · rw [if_pos hw] at hfin ⊢
    refine .inl (doesB_wp (Post := fun v w' => (spec sp i).val (mask (spec sp i).deps u) v ∧ Has w0 w' ((spec sp i).res (mask (spec sp i).deps u) v ++ (resOf sp u (spec sp i).keeps ++ (l2 ++ resOf sp u rest)))) ?_ hnext (fun c w2 => hBad c _ w2 I.defers))
    unfold doesB at hfin ⊢
    rw [execOp_congr o' (fun cs b => Region.noSelect_spec (by simp only [relyB, Bool.and_eq_true] at h; exact h.1) i o' cs b T.op) hag.eval]
    exact hfin
  · rw [if_neg hw] at hfin ⊢
    exact hnext _ _ hfin
theorem rely_runB {w0 : World} {lf : Bool → List Res} {k0 : Nat} {a : Act} {A : (Nat → Value) → Act} {Q : Exit → Act → World → Prop} (hBad : ∀ c a2 w2, a2.defers = a.defers → Bad c w2 → Q (.panic c) a2 w2) (h : relyB ops sp = true) (ht : relyTailB ops sp.length = true) (hA : ∀ u, putAll ops a u sp.length = A u) (hok : ∀ i, i < sp.length → if i = k0 then StepOKB P Bad ops sp w0 (lf false) (lf true) A i else ∀ b, StepOKB P Bad ops sp w0 (lf b) (lf b) A i)
    (fin : ∀ u w, (∀ i, i < sp.length → (spec sp i).valAt u i) → Has w0 w (resOf sp u (liveIds sp fun _ => true) ++ lf (decide (k0 < sp.length))) → wpList P ops Q (ops.toList.drop sp.length) (A u) w) :
    ∀ (f : Nat) (listed : Array Bool) (a' : Act) (w : World) (u : Nat → Value), RInv ops sp w0 lf k0 a listed a' w u → cntU sp.length listed = f → wpAny P .any ops Q (f + (ops.size - sp.length)) listed a' w
  | 0, listed, a', w, u, I, hc => by
    have hall : ∀ i, i < sp.length → listed.getD i false = true := fun i hi => by
      cases hl : listed.getD i false with
      | true => rfl
      | false =>
        have hm : i ∈ (List.range sp.length).filter fun i => !listed.getD i false := List.mem_filter.2 ⟨List.mem_range.2 hi, by rw [hl]; rfl⟩
        rw [List.eq_nil_of_length_eq_zero hc] at hm
        cases hm
    have hn : sp.length ≤ ops.size := by
      rcases Nat.lt_or_ge ops.size sp.length with h1 | h1
      · obtain ⟨o, T⟩ := relyB_told h ops.size h1
        have := (Array.getElem?_eq_some_iff.1 T.op).1
        omega
      · exact h1
    have hlist : listed = (List.replicate sp.length true ++ List.replicate (ops.size - sp.length) false).toArray := by
      apply Array.ext
      · rw [I.head.size]; simp; omega
      · intro j h1 h2
        rw [I.head.size] at h1
        by_cases hj : j < sp.length
        · have := hall j hj
          simp [I.head.size, h1] at this
          simp [this, List.getElem_append, hj]
        · have := I.head.tail j (by omega) h1
          simp [I.head.size, h1] at this
          simp [this, List.getElem_append, hj]
    have hact : a' = A u := by
      rw [← hA u]
      have hd : a'.defers = (putAll ops a u sp.length).defers := by rw [I.defers, putAll_defers]
      have htm : a'.tmps = (putAll ops a u sp.length).tmps := by
        apply Array.ext_getElem?
        intro t
        by_cases hex : ∃ j, j < sp.length ∧ dstAt ops j = some t
        · obtain ⟨j, hj, hdj⟩ := hex
          obtain ⟨oj, Tj⟩ := relyB_told h j hj
          by_cases hts : t < a.tmps.size
          · rw [I.set j hj (hall j hj) t hdj hts, putAll_set a u t hts _ j hj hdj (fun k hk hkj => Tj.alone k hk hkj t hdj)]
          · exact getElem?_none_size (by rw [I.size, putAll_size]) (by rw [putAll_size]; exact hts)
        · rw [I.same t (fun j hj _ hdj => hex ⟨j, hj, hdj⟩), putAll_same a u t _ (fun j hj hdj => hex ⟨j, hj, hdj⟩)]
      cases a'
      cases hpa : putAll ops a u sp.length
      rw [hpa] at hd htm
      simp only at hd htm
      rw [hd, htm]
    have hlv : (liveIds sp fun i => listed.getD i false) = liveIds sp fun _ => true := by
      unfold liveIds
      refine List.filter_congr fun i hi => ?_
      dsimp only
      rw [hall i (List.mem_range.1 hi)]
      congr 1
      rw [Bool.eq_iff_iff]
      simp only [List.all_eq_true]
      exact forall_congr' fun k => forall_congr' fun hk => by rw [hall k (List.mem_range.1 hk)]
    have hS := I.st
    rw [hlv] at hS
    have hk0 : listed.getD k0 false = decide (k0 < sp.length) := by
      by_cases hk : k0 < sp.length
      · rw [hall k0 hk, decide_eq_true hk]
      · rw [decide_eq_false hk]
        by_cases hk2 : k0 < ops.size
        · have := I.head.tail k0 (by omega) hk2
          exact getD_both this
        · rw [Array.getD_eq_getD_getElem?, Array.getElem?_eq_none (by rw [I.head.size]; omega)]
          rfl
    rw [hk0] at hS
    have hW := fin u w (fun i hi => I.vals i hi (hall i hi)) hS
    have hlen : (ops.toList.drop sp.length).length = ops.size - sp.length := by simp
    rw [Nat.zero_add, ← hlen, hact]
    refine wpAny_of_seq (ops.toList.drop sp.length) sp.length listed (A u) w (fun j => by rw [List.getElem?_drop, Array.getElem?_toList]) ?_ hW
    simp only [relyTailB, Bool.and_eq_true] at ht
    rw [hlen, hlist]
    exact ht.2
  | f + 1, listed, a', w, u, I, hc => by
    rw [show f + 1 + (ops.size - sp.length) = (f + (ops.size - sp.length)) + 1 by omega]
    have hex : ∃ i, i < sp.length ∧ listed.getD i false = false := by
      have : (List.range sp.length).filter (fun i => !listed.getD i false) ≠ [] := fun e => by
        unfold cntU at hc
        rw [e] at hc
        cases hc
      obtain ⟨i, hi⟩ := List.exists_mem_of_ne_nil _ this
      rw [List.mem_filter, List.mem_range] at hi
      exact ⟨i, hi.1, by simpa using hi.2⟩
    have hlt : ∀ i, i < sp.length → i < ops.size := fun i hi => by
      obtain ⟨o, T⟩ := relyB_told h i hi
      exact (Array.getElem?_eq_some_iff.1 T.op).1
    have hready : ∃ i, i ∈ Region.ready .any ops listed := by
      have key : ∀ i, i < sp.length → listed.getD i false = false → ∃ j, j ∈ Region.ready .any ops listed := by
        intro i
        induction i using Nat.strongRecOn with
        | _ i ih =>
          intro hi hl
          obtain ⟨o, T⟩ := relyB_told h i hi
          by_cases hc2 : ∃ e ∈ o.after, Region.binds .any e = true ∧ listed.getD e.on false = false
          · obtain ⟨e, he, hb, hel⟩ := hc2
            exact ih e.on (T.back e he hb) (Nat.lt_trans (T.back e he hb) hi) hel
          · refine ⟨i, mem_ready.2 ⟨getD_in (by rw [I.head.size]; exact hlt i hi) hl, o, T.op, fun e he hb => ?_⟩⟩
            cases hel : listed.getD e.on false with
            | true => rfl
            | false => exact absurd ⟨e, he, hb, hel⟩ hc2
      obtain ⟨i, hi, hl⟩ := hex
      exact key i hi hl
    obtain ⟨i0, hi0, hl0⟩ := hex
    have hhead : ∀ i, i ∈ Region.ready .any ops listed → i < sp.length := fun i hi => by
      simp only [relyTailB, Bool.and_eq_true, Bool.or_eq_true, decide_eq_true_eq] at ht
      rcases ht.1 with h1 | ⟨⟨h1, h2⟩, h3⟩
      · obtain ⟨_, o, ho, _⟩ := mem_ready.1 hi
        have := (Array.getElem?_eq_some_iff.1 ho).1
        omega
      · rcases Nat.lt_or_ge i sp.length with h4 | h4
        · exact h4
        · exact absurd hi (tail_waits h2 h3 h1 I.head _ i0 rfl hi0 (getD_in (by rw [I.head.size]; exact hlt i0 hi0) hl0) i h4)
    refine ⟨fun h0 => ?_, fun i hi => ?_⟩
    · obtain ⟨i, hi⟩ := hready
      rw [h0] at hi
      cases hi
    · have hin := hhead i hi
      have hun : listed.getD i false = false := getD_both (mem_ready.1 hi).1
      refine wpOp_mono (fun a'' w' h1 => ?_) (rely_stepB hBad h hA hok I hin hi)
      obtain ⟨u', I'⟩ := h1
      refine rely_runB hBad h ht hA hok fin f _ a'' w' u' I' ?_
      have := cntU_set hin (by rw [I.head.size]; exact hlt i hin) hun
      omega
/-- A region that draws its order: each operation of its head told by itself, the rest in order; one that panics ends it. -/
theorem wp_relyB2 {id : Nat} {w0 w : World} {lf : Bool → List Res} (k0 : Nat) {a : Act} {Q : Exit → Act → World → Prop} (hBad : ∀ c a2 w2, a2.defers = a.defers → Bad c w2 → Q (.panic c) a2 w2) (S : Has w0 w (lf false)) (sp : List RSpec) (A : (Nat → Value) → Act) (hA : ∀ u, putAll ops a u sp.length = A u) (hm : P.follows .mixedOrders = true) (h : relyB ops sp = true) (ht : relyTailB ops sp.length = true)
    (live : List Nat) (hlive : liveIds sp (fun _ => true) = live) (hok : ∀ i, i < sp.length → if i = k0 then StepOKB P Bad ops sp w0 (lf false) (lf true) A i else ∀ b, StepOKB P Bad ops sp w0 (lf b) (lf b) A i)
    (fin : ∀ u w, (∀ i, i < sp.length → (spec sp i).valAt u i) → Has w0 w (resOf sp u live ++ lf (decide (k0 < sp.length))) → wpList P ops Q (ops.toList.drop sp.length) (A u) w) : (Code.region id ops true).wp P Q a w := by
  subst hlive
  refine wp_region_any hm ?_
  have hn : sp.length ≤ ops.size := by
    rcases Nat.lt_or_ge ops.size sp.length with h1 | h1
    · obtain ⟨o, T⟩ := relyB_told h ops.size h1
      have := (Array.getElem?_eq_some_iff.1 T.op).1
      omega
    · exact h1
  have hnone : ∀ i, ¬ (Array.replicate ops.size false).getD i false = true := fun i => by
    rw [getD_replicate_false]
    simp
  have hcnt : cntU sp.length (Array.replicate ops.size false) = sp.length := by
    unfold cntU
    rw [List.filter_eq_self.2 (fun i _ => by rw [getD_replicate_false]; rfl), List.length_range]
  have hrun := rely_runB (Q := Q) hBad h ht hA hok fin sp.length (Array.replicate ops.size false) a { w with drawn := w.drawn + 1 } (fun _ => undef) ?_ hcnt
  · rw [show sp.length + (ops.size - sp.length) = ops.size by omega] at hrun
    exact hrun
  · refine ⟨⟨by simp, fun j oj _ hl => absurd hl (hnone j), fun t _ htl => by simp [htl]⟩, fun i _ hl => absurd hl (hnone i), ?_, rfl, rfl, fun i _ hl => absurd hl (hnone i), fun t _ => rfl⟩
    have hlv : (liveIds sp fun i => (Array.replicate ops.size false).getD i false) = [] := by
      unfold liveIds
      rw [List.filter_eq_nil_iff]
      intro i _
      dsimp only
      rw [getD_replicate_false]
      simp
    rw [hlv, getD_replicate_false]
    exact S.drew
/-- .. where operation k0 writes the first thing. -/
theorem wp_relyBW {id : Nat} {w0 w : World} {e0 e1 : Res} {F : List Res} {a : Act} {Q : Exit → Act → World → Prop} (k0 : Nat) (hBad : ∀ c a2 w2, a2.defers = a.defers → Bad c w2 → Q (.panic c) a2 w2) (S : Has w0 w (e0 :: F)) (sp : List RSpec) (A : (Nat → Value) → Act) (hA : ∀ u, putAll ops a u sp.length = A u) (hm : P.follows .mixedOrders = true) (h : relyB ops sp = true) (ht : relyTailB ops sp.length = true)
    (live : List Nat) (hlive : liveIds sp (fun _ => true) = live) (hk : k0 < sp.length) (hok : ∀ i, i < sp.length → if i = k0 then StepOKB P Bad ops sp w0 (e0 :: F) (e1 :: F) A i else ∀ r : Res, StepOKB P Bad ops sp w0 (r :: F) (r :: F) A i)
    (fin : ∀ u w, (∀ i, i < sp.length → (spec sp i).valAt u i) → Has w0 w (resOf sp u live ++ (e1 :: F)) → wpList P ops Q (ops.toList.drop sp.length) (A u) w) : (Code.region id ops true).wp P Q a w :=
  wp_relyB2 (lf := fun b => if b then e1 :: F else e0 :: F) k0 hBad S sp A hA hm h ht live hlive (fun i hi => by
    have := hok i hi
    by_cases hik : i = k0
    · rw [if_pos hik] at this ⊢
      exact this
    · rw [if_neg hik] at this ⊢
      intro b
      cases b
      · exact this e0
      · exact this e1) (by rw [decide_eq_true hk]; exact fin)
end

theorem step_ofB {P : Program} {Bad : List PanicEntry → World → Prop} {ops : Array Oper} {sp : List RSpec} {w0 : World} {l l' : List Res} {A : (Nat → Value) → Act} {i : Nat} {o : Oper} {deps eats keeps : List Nat} {val : (Nat → Value) → Value → Prop} {res : (Nat → Value) → Value → List Res}
    (hs : spec sp i = ⟨deps, eats, keeps, val, res⟩) (ho : ops[i]? = some o) (hg : o.guard = none)
    (h : ∀ (u : Nat → Value) (G : List Res) (w : World), (∀ j ∈ deps, (spec sp j).valAt u j) → Has w0 w (resOf sp u eats ++ (resOf sp u keeps ++ (l ++ G))) →
      doesB P Bad (A u).eval o w fun v w' => val (mask deps u) v ∧ Has w0 w' (res (mask deps u) v ++ (resOf sp u keeps ++ (l' ++ G)))) : StepOKB P Bad ops sp w0 l l' A i := by
  unfold StepOKB
  rw [ho, hs]
  intro u G w hf S
  rw [if_pos (by simp [Region.wanted, hg])]
  exact h u G w hf S
/-- A thing that is nothing. -/
def noRes : Res := ⟨[], fun _ => True, fun _ _ _ h => (by cases h), fun _ _ _ _ => trivial⟩
theorem Has.unit {w0 w : World} {l : List Res} (S : Has w0 w l) : Has w0 w (noRes :: l) :=
  ⟨S.below, fun r hr => (by rcases List.mem_cons.1 hr with rfl | h; exact trivial; exact S.holds r h), fun r hr g hg => by
    rcases List.mem_cons.1 hr with rfl | h
    · cases hg
    · exact S.base r h g hg, List.pairwise_cons.2 ⟨fun s _ g hg => (by cases hg), S.apart⟩⟩
/-- Two things as one. -/
def both (r s : Res) : Res where
  foot := r.foot ++ s.foot
  holds w := r.holds w ∧ s.holds w ∧ r.apart s
  live w h g hg := by
    rcases List.mem_append.1 hg with h1 | h1
    · exact r.live w h.1 g h1
    · exact s.live w h.2.1 g h1
  keep w w' hk h := ⟨r.keep w w' (fun g hg => hk g (List.mem_append_left _ hg)) h.1, s.keep w w' (fun g hg => hk g (List.mem_append_right _ hg)) h.2.1, h.2.2⟩
theorem Has.join {w0 w : World} {r s : Res} {l : List Res} (S : Has w0 w (r :: s :: l)) : Has w0 w (both r s :: l) := by
  have hp := List.pairwise_cons.1 S.apart
  have hq := List.pairwise_cons.1 hp.2
  refine ⟨S.below, fun x hx => ?_, fun x hx g hg => ?_, List.pairwise_cons.2 ⟨fun x hx g hg => ?_, hq.2⟩⟩
  · rcases List.mem_cons.1 hx with rfl | h
    · exact ⟨S.holds r (by simp), S.holds s (by simp), hp.1 s (by simp)⟩
    · exact S.holds x (by simp [h])
  · rcases List.mem_cons.1 hx with rfl | h
    · rcases List.mem_append.1 hg with h1 | h1
      · exact S.base r (by simp) g h1
      · exact S.base s (by simp) g h1
    · exact S.base x (by simp [h]) g hg
  · rcases List.mem_append.1 hg with h1 | h1
    · exact hp.1 x (by simp [hx]) g h1
    · exact hq.1 x hx g h1
theorem Has.split {w0 w : World} {r s : Res} {l : List Res} (S : Has w0 w (both r s :: l)) : Has w0 w (r :: s :: l) := by
  have hp := List.pairwise_cons.1 S.apart
  have h0 : (both r s).holds w := S.holds _ (by simp)
  refine ⟨S.below, fun x hx => ?_, fun x hx g hg => ?_, List.pairwise_cons.2 ⟨fun x hx => ?_, List.pairwise_cons.2 ⟨fun x hx g hg => ?_, hp.2⟩⟩⟩
  · rcases List.mem_cons.1 hx with rfl | h
    · exact h0.1
    · rcases List.mem_cons.1 h with rfl | h
      · exact h0.2.1
      · exact S.holds x (by simp [h])
  · rcases List.mem_cons.1 hx with rfl | h
    · exact S.base _ (List.mem_cons_self ..) g (List.mem_append_left _ hg)
    · rcases List.mem_cons.1 h with rfl | h
      · exact S.base _ (List.mem_cons_self ..) g (List.mem_append_right _ hg)
      · exact S.base x (by simp [h]) g hg
  · rcases List.mem_cons.1 hx with rfl | h
    · exact h0.2.2
    · exact fun g hg => hp.1 x h g (List.mem_append_left _ hg)
  · exact hp.1 x hx g (List.mem_append_right _ hg)
theorem Has.taken {w0 w : World} {r s : Res} {l : List Res} (S : Has w0 w (both r s :: l)) : Has w0 w (r :: s :: noRes :: l) := S.split.unit.perm ((List.Perm.swap _ _ _).trans (List.Perm.cons _ (List.Perm.swap _ _ _)))
theorem Has.taken1 {w0 w : World} {r : Res} {l : List Res} (S : Has w0 w (r :: l)) : Has w0 w (r :: noRes :: l) := S.unit.perm (List.Perm.swap _ _ _)
theorem need_sB {P : Program} {Bad : List PanicEntry → World → Prop} {ops : Array Oper} {sp : List RSpec} {w0 : World} {l l' : List Res} {A : (Nat → Value) → Act} {i : Nat} {o : Oper} {deps eats keeps n : List Nat} {val : (Nat → Value) → Value → Prop} {res : (Nat → Value) → Value → List Res}
    (hs : spec sp i = ⟨deps, eats, keeps, val, res⟩) (ho : ops[i]? = some o) (hg : o.guard = none) (hn : n.all (fun j => deps.contains j) = true)
    (h : ∀ (u : Nat → Value) (G : List Res) (w : World), AllN sp u n → Has w0 w (resOf sp u eats ++ (resOf sp u keeps ++ (l ++ G))) →
      doesB P Bad (A u).eval o w fun v w' => val (mask deps u) v ∧ Has w0 w' (res (mask deps u) v ++ (resOf sp u keeps ++ (l' ++ G)))) : Need n (StepOKB P Bad ops sp w0 l l' A i) :=
  step_ofB hs ho hg fun u G w hf S => h u G w (allN hf n hn) S
end Go.Proofs.YtfhkmmagpnojmaaDoor

/- Requests in plain words: their cells, which are valid, their encoding, the request of some bytes. No program, no condition. -/
namespace Go.Proofs.YtfhkmmagpnojmaaDoor
open Go.RowKit

/-- A request. -/
structure Rq where
  kind : UInt8
  tok : Tok
  pick : UInt8
  drop : UInt8
  number : UInt32
theorem Rq.ext' {a b : Rq} (h1 : a.kind = b.kind) (h2 : a.tok = b.tok) (h3 : a.pick = b.pick) (h4 : a.drop = b.drop) (h5 : a.number = b.number) : a = b := by
  cases a; cases b; simp_all
instance : DecidableEq Rq := fun a b =>
  if h : a.kind = b.kind ∧ a.tok = b.tok ∧ a.pick = b.pick ∧ a.drop = b.drop ∧ a.number = b.number then .isTrue (Rq.ext' h.1 h.2.1 h.2.2.1 h.2.2.2.1 h.2.2.2.2)
  else .isFalse (fun e => h (by subst e; exact ⟨rfl, rfl, rfl, rfl, rfl⟩))
def rqZ : Rq := ⟨0, tokZ, 0, 0, 0⟩
instance : Inhabited Rq := ⟨rqZ⟩
def rqL (r : Rq) : List Value := [.int .u8 (r.kind.toNat : Int)] ++ tokL r.tok ++ [.int .u8 (r.pick.toNat : Int), .int .u8 (r.drop.toNat : Int), .int .u32 (r.number.toNat : Int)]
theorem rqL_size (r : Rq) : (rqL r).toArray.size = 40 := by simp [rqL, tokL_length]
theorem rqL_one (r : Rq) : (rqL r).toArray.all (·.oneCell') = true := by
  have h := Array.all_eq_true'.1 (tokL_one r.tok)
  rw [Array.all_eq_true']
  intro v hv
  simp only [rqL, List.mem_toArray, List.mem_append, List.mem_cons, List.not_mem_nil, or_false] at hv
  rcases hv with (rfl | hv) | rfl | rfl | rfl
  · rfl
  · exact h v (by simpa using hv)
  · rfl
  · rfl
  · rfl
theorem rqL_0 (r : Rq) : (rqL r).toArray[0]? = some (.int .u8 (r.kind.toNat : Int)) := rfl
theorem rqL_tail (r : Rq) (i : Nat) : (rqL r).toArray[37 + i]? = [Value.int .u8 (r.pick.toNat : Int), .int .u8 (r.drop.toNat : Int), .int .u32 (r.number.toNat : Int)][i]? := by
  rw [List.getElem?_toArray, rqL, List.getElem?_append_right (by simp [tokL_length])]
  simp [tokL_length]
theorem rqL_37 (r : Rq) : (rqL r).toArray[37]? = some (.int .u8 (r.pick.toNat : Int)) := rqL_tail r 0
theorem rqL_38 (r : Rq) : (rqL r).toArray[38]? = some (.int .u8 (r.drop.toNat : Int)) := rqL_tail r 1
theorem rqL_39 (r : Rq) : (rqL r).toArray[39]? = some (.int .u32 (r.number.toNat : Int)) := rqL_tail r 2
theorem rqL_tok (r : Rq) : (((rqL r).toArray.toList.drop 1).take 36).toArray = (tokL r.tok).toArray := by
  have : (((rqL r).toArray.toList.drop 1).take 36) = tokL r.tok := by
    show ((tokL r.tok ++ [_, _, _]).take 36) = _
    rw [List.take_left' (tokL_length _)]
  rw [this]
/-- Whether a request is valid. -/
def rqV (r : Rq) : Bool :=
  if r.kind = 1 then decide (r.number = 0)
  else if r.kind = 2 ∨ r.kind = 3 then decide (r.pick = 0 ∧ r.drop = 0 ∧ r.number.toNat ≤ 65535)
  else if r.kind = 4 then decide (r.pick = 0 ∧ r.drop = 0 ∧ r.number = 0)
  else if r.kind = 5 ∨ r.kind = 6 then decide (r.pick = 0 ∧ r.drop = 0)
  else false
/-- How many bytes follow the token of a request with a kind. -/
def bsz (k : UInt8) : Nat := if k = 1 ∨ k = 2 ∨ k = 3 then 2 else if k = 5 ∨ k = 6 then 4 else 0
theorem bsz_le (k : UInt8) : bsz k ≤ 4 := by unfold bsz; split; · omega
                                             split <;> omega
/-- The bytes that follow the token. -/
def rqB (r : Rq) : List UInt8 :=
  if r.kind = 1 then [r.pick, r.drop] else if r.kind = 2 ∨ r.kind = 3 then numB r.number.toNat 2 else if r.kind = 5 ∨ r.kind = 6 then numB r.number.toNat 4 else []
theorem rqB_length (r : Rq) : (rqB r).length = bsz r.kind := by
  unfold rqB bsz
  by_cases h1 : r.kind = 1
  · simp [h1]
  · by_cases h2 : r.kind = 2 ∨ r.kind = 3
    · rw [if_neg h1, if_pos h2, if_pos (.inr h2), numB_length]
    · by_cases h3 : r.kind = 5 ∨ r.kind = 6
      · rw [if_neg h1, if_neg h2, if_pos h3, if_neg (by rintro (h | h); exact h1 h; exact h2 h), if_pos h3, numB_length]
      · rw [if_neg h1, if_neg h2, if_neg h3, if_neg (by rintro (h | h); exact h1 h; exact h2 h), if_neg h3]
        rfl
/-- Bytes with the length of the whole in front. -/
def frm (xs : List UInt8) : List UInt8 := numB (xs.length + 2) 2 ++ xs
theorem frm_length (xs : List UInt8) : (frm xs).length = xs.length + 2 := by simp [frm, numB_length]; omega
/-- The encoding of a request. -/
def inR (r : Rq) : List UInt8 := [r.kind] ++ encT r.tok ++ rqB r
theorem inR_length (r : Rq) : (inR r).length = 47 + bsz r.kind := by simp [inR, encT_length, rqB_length]; omega
def encR (r : Rq) : List UInt8 := frm (inR r)
theorem encR_length (r : Rq) : (encR r).length = 49 + bsz r.kind := by rw [encR, frm_length, inR_length]; omega
/-- The request of some bytes, as far as there are any. -/
def rqP (b : List UInt8) : Rq :=
  ⟨b.getD 2 0, decT ((b.drop 3).take 46), if b.getD 2 0 = 1 then (b.drop 49).getD 0 0 else 0, if b.getD 2 0 = 1 then (b.drop 49).getD 1 0 else 0,
    if b.getD 2 0 = 2 ∨ b.getD 2 0 = 3 ∨ b.getD 2 0 = 5 ∨ b.getD 2 0 = 6 then UInt32.ofNat (val (b.drop 49)) else 0⟩
/-- Whether some bytes are the encoding of a valid request. -/
def dcOk (b : List UInt8) : Bool := decide (b.length = 49 + bsz (b.getD 2 0) ∧ val (b.take 2) = b.length) && rqV (rqP b)
def dcE (b : List UInt8) : Int := if b.length < 3 then 10 else if dcOk b then 0 else 11
def dcR (b : List UInt8) : Rq := if dcE b = 0 then rqP b else rqZ
theorem rqV_kind (r : Rq) (h : rqV r = true) : r.kind = 1 ∨ r.kind = 2 ∨ r.kind = 3 ∨ r.kind = 4 ∨ r.kind = 5 ∨ r.kind = 6 := by
  unfold rqV at h
  split at h
  · simp [*]
  · split at h
    · rename_i h2; rcases h2 with h2 | h2 <;> simp [h2]
    · split at h
      · simp [*]
      · split at h
        · rename_i h2; rcases h2 with h2 | h2 <;> simp [h2]
        · cases h
/-- An encoding has the right length, and its parts. -/
theorem encR_parts (r : Rq) : (encR r).getD 2 0 = r.kind ∧ (encR r).drop 3 = encT r.tok ++ rqB r ∧ val ((encR r).take 2) = (encR r).length := by
  have hn : ∀ n, numB n 2 = [UInt8.ofNat (n / 256), UInt8.ofNat n] := fun n => by simp [numB]
  have hl := encR_length r
  have hle := bsz_le r.kind
  have e : encR r = numB ((inR r).length + 2) 2 ++ inR r := rfl
  refine ⟨?_, ?_, ?_⟩
  · rw [e, hn]; rfl
  · rw [e, hn]; rfl
  · rw [e, List.take_left' (numB_length _ _), val_numB, List.length_append, numB_length, inR_length]
    rw [Nat.mod_eq_of_lt (by omega)]
    omega
theorem refR_encR (r : Rq) (h : rqV r = true) : rqP (encR r) = r := by
  obtain ⟨h1, h2, _⟩ := encR_parts r
  have h3 : (encR r).drop 49 = rqB r := by
    rw [show (49 : Nat) = 3 + 46 from rfl, ← List.drop_drop, h2, List.drop_left' (encT_length _)]
  have ht : decT (((encR r).drop 3).take 46) = r.tok := by rw [h2, List.take_left' (encT_length _), decT_encT]
  have hk := rqV_kind r h
  unfold rqP
  rw [h1, h3, ht]
  unfold rqV at h
  unfold rqB
  obtain ⟨k, t, p, d, n⟩ := r
  dsimp only at *
  have hn := n.toNat_lt
  have e2 : n.toNat ≤ 65535 → UInt32.ofNat (val (numB n.toNat 2)) = n := fun hl => by
    rw [val_numB_lt n.toNat 2 (by omega)]
    simp
  have e4 : UInt32.ofNat (val (numB n.toNat 4)) = n := by
    rw [val_numB_lt n.toNat 4 (by omega)]
    simp
  rcases hk with rfl | rfl | rfl | rfl | rfl | rfl
  all_goals simp at h
  all_goals simp [e4]
  · exact h.symm
  · exact ⟨h.1.symm, h.2.1.symm, e2 h.2.2⟩
  · exact ⟨h.1.symm, h.2.1.symm, e2 h.2.2⟩
  · exact ⟨h.1.symm, h.2.1.symm, h.2.2.symm⟩
  · exact ⟨h.1.symm, h.2.symm⟩
  · exact ⟨h.1.symm, h.2.symm⟩
end Go.Proofs.YtfhkmmagpnojmaaDoor

/- Numbers of 64 bits with a sign, records and sights in plain words: their cells, which are valid, their bytes; bytes at an index. No program, no condition. -/
namespace Go.Proofs.YtfhkmmagpnojmaaDoor
open Go.RowKit

/-- A number that an int can be. -/
structure I64 where
  v : Int
  h : -9223372036854775808 ≤ v ∧ v ≤ 9223372036854775807
theorem I64.ext' {a b : I64} (h : a.v = b.v) : a = b := by cases a; cases b; simp_all
instance : DecidableEq I64 := fun a b => if h : a.v = b.v then .isTrue (I64.ext' h) else .isFalse (fun e => h (by rw [e]))
def i64Z : I64 := ⟨0, by omega⟩
instance : Inhabited I64 := ⟨i64Z⟩
theorem beqI (a b : I64) : (a.v == b.v) = decide (a = b) := by
  rw [Bool.eq_iff_iff, beq_iff_eq, decide_eq_true_eq]
  exact ⟨I64.ext', fun h => by rw [h]⟩
/-- A number of two bytes. -/
def i64N (n : Nat) : I64 := ⟨((n % 65536 : Nat) : Int), by omega⟩
theorem i64N_v (n : Nat) (h : n < 65536) : (i64N n).v = (n : Int) := by show ((n % 65536 : Nat) : Int) = _; omega
/-- A robot in telemetry. -/
structure Sgt where
  place : I64
  state : UInt8
  order : I64
theorem Sgt.ext' {a b : Sgt} (h1 : a.place = b.place) (h2 : a.state = b.state) (h3 : a.order = b.order) : a = b := by cases a; cases b; simp_all
instance : DecidableEq Sgt := fun a b =>
  if h : a.place = b.place ∧ a.state = b.state ∧ a.order = b.order then .isTrue (Sgt.ext' h.1 h.2.1 h.2.2) else .isFalse (fun e => h (by subst e; exact ⟨rfl, rfl, rfl⟩))
def sgtZ : Sgt := ⟨i64Z, 0, i64Z⟩
instance : Inhabited Sgt := ⟨sgtZ⟩
def sgtL (x : Sgt) : List Value := [.int .i64 x.place.v, .int .u8 (x.state.toNat : Int), .int .i64 x.order.v]
theorem sgtL_length (x : Sgt) : (sgtL x).length = 3 := rfl
theorem sgtL_one (x : Sgt) : (sgtL x).toArray.all (·.oneCell') = true := by simp [sgtL, one_int]
def sgtV (x : Sgt) : Bool := decide (0 ≤ x.place.v ∧ x.place.v ≤ 63 ∧ x.state.toNat ≤ 8 ∧ 0 ≤ x.order.v ∧ x.order.v ≤ 64)
def sgtB (x : Sgt) : List UInt8 := numB x.place.v.toNat 1 ++ numB x.state.toNat 1 ++ numB x.order.v.toNat 2
theorem sgtB_length (x : Sgt) : (sgtB x).length = 4 := by simp [sgtB, numB_length]
/-- A record. -/
structure Rcd where
  tick : UInt64
  kind : UInt8
  code : I64
  link : List UInt8
  len : link.length = 32
theorem Rcd.ext' {a b : Rcd} (h1 : a.tick = b.tick) (h2 : a.kind = b.kind) (h3 : a.code = b.code) (h4 : a.link = b.link) : a = b := by cases a; cases b; simp_all
instance : DecidableEq Rcd := fun a b =>
  if h : a.tick = b.tick ∧ a.kind = b.kind ∧ a.code = b.code ∧ a.link = b.link then .isTrue (Rcd.ext' h.1 h.2.1 h.2.2.1 h.2.2.2) else .isFalse (fun e => h (by subst e; exact ⟨rfl, rfl, rfl, rfl⟩))
def rcdZ : Rcd := ⟨0, 0, i64Z, zs32, rfl⟩
instance : Inhabited Rcd := ⟨rcdZ⟩
def rcdL (x : Rcd) : List Value := [.int .u64 (x.tick.toNat : Int), .int .u8 (x.kind.toNat : Int), .int .i64 x.code.v] ++ x.link.map by8
theorem rcdL_length (x : Rcd) : (rcdL x).length = 35 := by simp [rcdL, x.len]
theorem rcdL_size (x : Rcd) : (rcdL x).toArray.size = 35 := by simp [rcdL, x.len]
theorem rcdL_one (x : Rcd) : (rcdL x).toArray.all (·.oneCell') = true := by
  rw [Array.all_eq_true']
  intro v hv
  simp only [rcdL, List.mem_toArray, List.mem_append, List.mem_cons, List.not_mem_nil, or_false] at hv
  rcases hv with (rfl | rfl | rfl) | hv
  · rfl
  · rfl
  · rfl
  · exact oneCell_u8 _ v hv
theorem rcdL_0 (x : Rcd) : (rcdL x).toArray[0]? = some (.int .u64 (x.tick.toNat : Int)) := rfl
theorem rcdL_1 (x : Rcd) : (rcdL x).toArray[1]? = some (.int .u8 (x.kind.toNat : Int)) := rfl
theorem rcdL_2 (x : Rcd) : (rcdL x).toArray[2]? = some (.int .i64 x.code.v) := rfl
theorem rcdL_link (x : Rcd) : (((rcdL x).toArray.toList.drop 3).take 32).toArray = arr8 x.link := by
  have : (((rcdL x).toArray.toList.drop 3).take 32) = x.link.map by8 := by
    show ((x.link.map by8).take 32) = _
    rw [List.take_of_length_le (by simp [x.len])]
  rw [this]
  rfl
def rcdV (x : Rcd) : Bool := decide (x.tick.toNat ≤ 4611686018427387904 ∧ x.kind.toNat ≤ 6 ∧ 0 ≤ x.code.v ∧ x.code.v ≤ 65535)
def rcdB (x : Rcd) : List UInt8 := numB x.tick.toNat 8 ++ numB x.kind.toNat 1 ++ numB x.code.v.toNat 2 ++ x.link
theorem rcdB_length (x : Rcd) : (rcdB x).length = 43 := by simp [rcdB, numB_length, x.len]
theorem numB_one (x : UInt8) : numB x.toNat 1 = [x] := by simp [numB]
/-- The number in n bytes from an index on, or 0 where there are not as many. -/
def atB (b : List UInt8) (i n : Nat) : Nat := if i + n ≤ b.length then val ((b.drop i).take n) else 0
theorem atB_fit (b : List UInt8) (i n : Nat) (h : i + n ≤ b.length) : atB b i n = val ((b.drop i).take n) := if_pos h
theorem atB_len (b : List UInt8) (i n : Nat) (h : i + n ≤ b.length) : ((b.drop i).take n).length = n := by simp; omega
theorem atB_lt (b : List UInt8) (i n : Nat) : atB b i n < 256 ^ n := by
  unfold atB
  split
  · rename_i h
    have := val_lt ((b.drop i).take n)
    rwa [atB_len b i n h] at this
  · exact Nat.pow_pos (by decide)
/-- The 32 bytes from an index on, or zero bytes. -/
def lkB (b : List UInt8) (i : Nat) : List UInt8 := if i + 32 ≤ b.length then (b.drop i).take 32 else zs32
theorem lkB_length (b : List UInt8) (i : Nat) : (lkB b i).length = 32 := by
  unfold lkB
  split
  · simp; omega
  · rfl
/-- The sight, the record at an index. -/
def sgtAt (b : List UInt8) (i : Nat) : Sgt := ⟨i64N (atB b i 1), UInt8.ofNat (atB b (i + 1) 1), i64N (atB b (i + 2) 2)⟩
def rcdAt (b : List UInt8) (i : Nat) : Rcd := ⟨UInt64.ofNat (atB b i 8), UInt8.ofNat (atB b (i + 8) 1), i64N (atB b (i + 9) 2), lkB b (i + 11), lkB_length _ _⟩
theorem u8_at (b : List UInt8) (i : Nat) : (UInt8.ofNat (atB b i 1)).toNat = atB b i 1 := by
  have := atB_lt b i 1
  rw [UInt8.toNat_ofNat', Nat.mod_eq_of_lt (Nat.lt_of_lt_of_eq this (by decide))]
theorem u64_at (b : List UInt8) (i : Nat) : (UInt64.ofNat (atB b i 8)).toNat = atB b i 8 := by
  have := atB_lt b i 8
  rw [UInt64.toNat_ofNat', Nat.mod_eq_of_lt (Nat.lt_of_lt_of_eq this (by decide))]
theorem u32_at (b : List UInt8) (i : Nat) : (UInt32.ofNat (atB b i 4)).toNat = atB b i 4 := by
  have := atB_lt b i 4
  rw [UInt32.toNat_ofNat', Nat.mod_eq_of_lt (Nat.lt_of_lt_of_eq this (by decide))]
theorem i1_at (b : List UInt8) (i : Nat) : (i64N (atB b i 1)).v = (atB b i 1 : Int) := i64N_v _ (by have := atB_lt b i 1; omega)
theorem i2_at (b : List UInt8) (i : Nat) : (i64N (atB b i 2)).v = (atB b i 2 : Int) := i64N_v _ (by have := atB_lt b i 2; omega)
theorem flatLen {α : Type} (f : α → List UInt8) (m : Nat) (hf : ∀ x, (f x).length = m) : ∀ l : List α, (l.flatMap f).length = m * l.length
  | [] => rfl
  | x :: l => by
    rw [List.flatMap_cons, List.length_append, hf, flatLen f m hf l, List.length_cons, Nat.mul_succ]
    omega
end Go.Proofs.YtfhkmmagpnojmaaDoor

/- Replies in plain words: their cells, which are valid, their encoding, the reply of some bytes. No program, no condition. -/
namespace Go.Proofs.YtfhkmmagpnojmaaDoor
open Go.RowKit

/-- A reply. -/
structure Rp where
  kind : UInt8
  code : I64
  tick : UInt64
  order : I64
  state : UInt8
  done : UInt64
  robots : List Sgt
  queued : I64
  count : UInt32
  records : List Rcd
  tok : Tok
theorem Rp.ext' {a b : Rp} (h1 : a.kind = b.kind) (h2 : a.code = b.code) (h3 : a.tick = b.tick) (h4 : a.order = b.order) (h5 : a.state = b.state) (h6 : a.done = b.done) (h7 : a.robots = b.robots) (h8 : a.queued = b.queued) (h9 : a.count = b.count) (h10 : a.records = b.records) (h11 : a.tok = b.tok) : a = b := by
  cases a; cases b; simp_all
instance : DecidableEq Rp := fun a b =>
  if h : a.kind = b.kind ∧ a.code = b.code ∧ a.tick = b.tick ∧ a.order = b.order ∧ a.state = b.state ∧ a.done = b.done ∧ a.robots = b.robots ∧ a.queued = b.queued ∧ a.count = b.count ∧ a.records = b.records ∧ a.tok = b.tok then
    .isTrue (Rp.ext' h.1 h.2.1 h.2.2.1 h.2.2.2.1 h.2.2.2.2.1 h.2.2.2.2.2.1 h.2.2.2.2.2.2.1 h.2.2.2.2.2.2.2.1 h.2.2.2.2.2.2.2.2.1 h.2.2.2.2.2.2.2.2.2.1 h.2.2.2.2.2.2.2.2.2.2)
  else .isFalse (fun e => h (by subst e; exact ⟨rfl, rfl, rfl, rfl, rfl, rfl, rfl, rfl, rfl, rfl, rfl⟩))
/-- A reply that uses no field but the fixed ones. -/
def rpH (k : UInt8) (c : I64) (t : UInt64) : Rp := ⟨k, c, t, i64Z, 0, 0, [], i64Z, 0, [], tokZ⟩
def rpZ : Rp := rpH 0 i64Z 0
instance : Inhabited Rp := ⟨rpZ⟩
/-- The cells of a reply; its slices by themselves. -/
def rpL (r : Rp) (vr vc : Value) : List Value :=
  [.int .u8 (r.kind.toNat : Int), .int .i64 r.code.v, .int .u64 (r.tick.toNat : Int), .int .i64 r.order.v, .int .u8 (r.state.toNat : Int), .int .u64 (r.done.toNat : Int), vr, .int .i64 r.queued.v, .int .u32 (r.count.toNat : Int), vc] ++ tokL r.tok
theorem rpL_length (r : Rp) (vr vc : Value) : (rpL r vr vc).length = 46 := by simp [rpL, tokL_length]
theorem rpL_size (r : Rp) (vr vc : Value) : (rpL r vr vc).toArray.size = 46 := by simp [rpL, tokL_length]
theorem rpL_one (r : Rp) (vr vc : Value) (h1 : vr.oneCell' = true) (h2 : vc.oneCell' = true) : (rpL r vr vc).toArray.all (·.oneCell') = true := by
  have h := Array.all_eq_true'.1 (tokL_one r.tok)
  rw [Array.all_eq_true']
  intro v hv
  simp only [rpL, List.mem_toArray, List.mem_append, List.mem_cons, List.not_mem_nil, or_false] at hv
  rcases hv with (rfl | rfl | rfl | rfl | rfl | rfl | rfl | rfl | rfl | rfl) | hv
  all_goals first | rfl | assumption | skip
  exact h v (by simpa using hv)
theorem rpL_0 (r : Rp) (vr vc : Value) : (rpL r vr vc).toArray[0]? = some (.int .u8 (r.kind.toNat : Int)) := rfl
theorem rpL_1 (r : Rp) (vr vc : Value) : (rpL r vr vc).toArray[1]? = some (.int .i64 r.code.v) := rfl
theorem rpL_2 (r : Rp) (vr vc : Value) : (rpL r vr vc).toArray[2]? = some (.int .u64 (r.tick.toNat : Int)) := rfl
theorem rpL_3 (r : Rp) (vr vc : Value) : (rpL r vr vc).toArray[3]? = some (.int .i64 r.order.v) := rfl
theorem rpL_4 (r : Rp) (vr vc : Value) : (rpL r vr vc).toArray[4]? = some (.int .u8 (r.state.toNat : Int)) := rfl
theorem rpL_5 (r : Rp) (vr vc : Value) : (rpL r vr vc).toArray[5]? = some (.int .u64 (r.done.toNat : Int)) := rfl
theorem rpL_6 (r : Rp) (vr vc : Value) : (rpL r vr vc).toArray[6]? = some vr := rfl
theorem rpL_7 (r : Rp) (vr vc : Value) : (rpL r vr vc).toArray[7]? = some (.int .i64 r.queued.v) := rfl
theorem rpL_8 (r : Rp) (vr vc : Value) : (rpL r vr vc).toArray[8]? = some (.int .u32 (r.count.toNat : Int)) := rfl
theorem rpL_9 (r : Rp) (vr vc : Value) : (rpL r vr vc).toArray[9]? = some vc := rfl
theorem rpL_tok (r : Rp) (vr vc : Value) : (((rpL r vr vc).toArray.toList.drop 10).take 36).toArray = (tokL r.tok).toArray := by
  have : (((rpL r vr vc).toArray.toList.drop 10).take 36) = tokL r.tok := by
    show ((tokL r.tok).take 36) = _
    rw [List.take_of_length_le (by rw [tokL_length]; exact Nat.le_refl _)]
  rw [this]
/-- A reply with only those fields that its kind and its code use. -/
def usR (r : Rp) : Rp :=
  if r.code.v ≠ 0 then rpH r.kind r.code r.tick
  else if r.kind = 1 ∨ r.kind = 16 then { rpH r.kind r.code r.tick with order := r.order }
  else if r.kind = 3 then { rpH r.kind r.code r.tick with state := r.state, done := r.done }
  else if r.kind = 4 then { rpH r.kind r.code r.tick with robots := r.robots, queued := r.queued }
  else if r.kind = 5 then { rpH r.kind r.code r.tick with count := r.count, records := r.records }
  else if r.kind = 18 then { rpH r.kind r.code r.tick with tok := r.tok }
  else rpH r.kind r.code r.tick
theorem usR_head (r : Rp) : (usR r).kind = r.kind ∧ (usR r).code = r.code ∧ (usR r).tick = r.tick := by
  unfold usR
  repeat' split
  all_goals exact ⟨rfl, rfl, rfl⟩
/-- Whether the fields that a reply uses are those of a valid one. -/
def flR (r : Rp) : Bool :=
  decide (0 ≤ r.order.v ∧ r.order.v ≤ 65535 ∧ r.done.toNat ≤ 4611686018427387904 ∧ r.robots.length ≤ 3 ∧ 0 ≤ r.queued.v ∧ r.queued.v ≤ 8 ∧ r.records.length ≤ 32) &&
  decide (¬ (r.kind = 3 ∧ r.code.v = 0 ∧ (r.state.toNat < 1 ∨ 5 < r.state.toNat))) && r.robots.all sgtV && r.records.all rcdV
/-- Whether a kind and a code go together, and the tick is one. -/
def hdR (r : Rp) : Bool :=
  decide (¬ (6 < r.kind.toNat ∧ r.kind.toNat < 16 ∨ 18 < r.kind.toNat) ∧ 0 ≤ r.code.v ∧ r.code.v ≤ 65535 ∧ r.tick.toNat ≤ 4611686018427387904) &&
  decide (¬ (r.kind = 0 ∧ r.code.v = 0 ∨ r.kind = 16 ∧ r.code.v ≠ 0 ∨ r.kind = 17 ∧ r.code.v ≠ 280))
/-- Whether a reply is valid. -/
def rpV (r : Rp) : Bool := hdR r && (decide (r = usR r) && flR r)
/-- The bytes that follow the fixed fields. -/
def rpB (r : Rp) : List UInt8 :=
  if r.code.v ≠ 0 then []
  else if r.kind = 1 ∨ r.kind = 16 then numB r.order.v.toNat 2
  else if r.kind = 3 then numB r.state.toNat 1 ++ numB r.done.toNat 8
  else if r.kind = 4 then numB r.robots.length 1 ++ r.robots.flatMap sgtB ++ numB r.queued.v.toNat 1
  else if r.kind = 5 then numB r.count.toNat 4 ++ numB r.records.length 1 ++ r.records.flatMap rcdB
  else if r.kind = 18 then encT r.tok
  else []
def inP (r : Rp) : List UInt8 := numB r.kind.toNat 1 ++ numB r.code.v.toNat 2 ++ numB r.tick.toNat 8 ++ rpB r
def encP (r : Rp) : List UInt8 := frm (inP r)
/-- The reply of some bytes, as far as there are any. -/
def rpP (b : List UInt8) : Rp :=
  if atB b 3 2 ≠ 0 then rpH (b.getD 2 0) (i64N (atB b 3 2)) (UInt64.ofNat (atB b 5 8))
  else if b.getD 2 0 = 1 ∨ b.getD 2 0 = 16 then { rpH (b.getD 2 0) (i64N (atB b 3 2)) (UInt64.ofNat (atB b 5 8)) with order := i64N (atB b 13 2) }
  else if b.getD 2 0 = 3 then { rpH (b.getD 2 0) (i64N (atB b 3 2)) (UInt64.ofNat (atB b 5 8)) with state := UInt8.ofNat (atB b 13 1), done := UInt64.ofNat (atB b 14 8) }
  else if b.getD 2 0 = 4 then { rpH (b.getD 2 0) (i64N (atB b 3 2)) (UInt64.ofNat (atB b 5 8)) with robots := (List.range (atB b 13 1)).map fun i => sgtAt b (14 + 4 * i), queued := i64N (atB b (14 + 4 * atB b 13 1) 1) }
  else if b.getD 2 0 = 5 then { rpH (b.getD 2 0) (i64N (atB b 3 2)) (UInt64.ofNat (atB b 5 8)) with count := UInt32.ofNat (atB b 13 4), records := (List.range (atB b 17 1)).map fun i => rcdAt b (18 + 43 * i) }
  else if b.getD 2 0 = 18 then { rpH (b.getD 2 0) (i64N (atB b 3 2)) (UInt64.ofNat (atB b 5 8)) with tok := if b.length = 59 then decT (b.drop 13) else tokZ }
  else rpH (b.getD 2 0) (i64N (atB b 3 2)) (UInt64.ofNat (atB b 5 8))
/-- How many bytes a reply has, by its own bytes. -/
def psz (b : List UInt8) : Nat :=
  13 + (if atB b 3 2 ≠ 0 then 0
  else if b.getD 2 0 = 1 ∨ b.getD 2 0 = 16 then 2
  else if b.getD 2 0 = 3 then 9
  else if b.getD 2 0 = 4 then 2 + 4 * atB b 13 1
  else if b.getD 2 0 = 5 then 5 + 43 * atB b 17 1
  else if b.getD 2 0 = 18 then 46
  else 0)
def dpOk (b : List UInt8) : Bool := decide (psz b = b.length ∧ val (b.take 2) = b.length) && rpV (rpP b)
def dpE (b : List UInt8) : Int := if b.length < 13 then 10 else if dpOk b then 0 else 11
def dpR (b : List UInt8) : Rp := if dpE b = 0 then rpP b else rpZ
end Go.Proofs.YtfhkmmagpnojmaaDoor

/- How a stream is cut into pieces, in plain words. No program, no condition. -/
namespace Go.Proofs.YtfhkmmagpnojmaaDoor
open Go.RowKit

/-- The length that the first two bytes say, or 2 where it is none. -/
def frN (b : List UInt8) : Nat := if 256 * (b.getD 0 0).toNat + (b.getD 1 0).toNat < 2 ∨ 64 < 256 * (b.getD 0 0).toNat + (b.getD 1 0).toNat then 2 else 256 * (b.getD 0 0).toNat + (b.getD 1 0).toNat
theorem frN_pos (b : List UInt8) : 2 ≤ frN b ∧ frN b ≤ 64 := by unfold frN; split <;> omega
def splitF : Nat → List UInt8 → List (List UInt8) × List UInt8
  | 0, b => ([], b)
  | k + 1, b => if b.length < 2 ∨ b.length < frN b then ([], b) else (b.take (frN b) :: (splitF k (b.drop (frN b))).1, (splitF k (b.drop (frN b))).2)
theorem splitF_fuel : ∀ (k m : Nat) (b : List UInt8), b.length ≤ k → b.length ≤ m → splitF k b = splitF m b
  | 0, 0, _, _, _ => rfl
  | 0, m + 1, b, h, _ => by
    have : b.length < 2 ∨ b.length < frN b := by omega
    simp only [splitF, if_pos this]
  | k + 1, 0, b, _, h => by
    have : b.length < 2 ∨ b.length < frN b := by omega
    simp only [splitF, if_pos this]
  | k + 1, m + 1, b, h1, h2 => by
    unfold splitF
    split
    · rfl
    · have := frN_pos b
      have hl : (b.drop (frN b)).length = b.length - frN b := by simp
      rw [splitF_fuel k m (b.drop (frN b)) (by omega) (by omega)]
/-- The pieces of a stream and its rest. -/
def splitB (b : List UInt8) : List (List UInt8) × List UInt8 := splitF b.length b
theorem split_stop (b : List UInt8) (h : b.length < 2 ∨ b.length < frN b) : splitB b = ([], b) := by
  unfold splitB
  cases hb : b.length with
  | zero => rfl
  | succ k => rw [hb] at h; unfold splitF; rw [if_pos (by omega)]
theorem split_step (b : List UInt8) (h : ¬ (b.length < 2 ∨ b.length < frN b)) : splitB b = (b.take (frN b) :: (splitB (b.drop (frN b))).1, (splitB (b.drop (frN b))).2) := by
  have hp := frN_pos b
  unfold splitB
  cases hb : b.length with
  | zero => omega
  | succ k =>
    have hl : (b.drop (frN b)).length = b.length - frN b := by simp
    rw [splitF_fuel (b.drop (frN b)).length k _ (Nat.le_refl _) (by omega)]
    show (if b.length < 2 ∨ b.length < frN b then _ else _) = _
    rw [if_neg h]
/-- Pieces so far and what is left give the whole. -/
theorem split_more (F : List (List UInt8)) (b : List UInt8) (h : ¬ (b.length < 2 ∨ b.length < frN b)) : (F ++ [b.take (frN b)] ++ (splitB (b.drop (frN b))).1, (splitB (b.drop (frN b))).2) = (F ++ (splitB b).1, (splitB b).2) := by
  rw [split_step b h]
  simp
end Go.Proofs.YtfhkmmagpnojmaaDoor

/- Slices of byte slices: as they read, and with arrays of one's own (the row of the slices and, behind it, the row of each); one more of them. No condition. -/
namespace Go.Proofs.YtfhkmmagpnojmaaDoor
open Go.RowKit

/-- v reads as these slices, each of which reads as its bytes. -/
def Fr (w : World) (v : Value) (ps : List (Value × List UInt8)) : Prop := Sl w 1 v ps.length (ps.map (·.1)) ∧ ∀ p ∈ ps, Bs w p.1 p.2
/-- The slices' own arrays. -/
def frs (ps : List (Value × List UInt8)) : List Res := ps.map fun p => row8 p.1 p.2
/-- The row of the slices. -/
abbrev rowF (v : Value) (ps : List (Value × List UInt8)) : Res := row v 25 1 ps.length (ps.map (·.1))
theorem frs_mem {ps : List (Value × List UInt8)} {p : Value × List UInt8} (h : p ∈ ps) : row8 p.1 p.2 ∈ frs ps := List.mem_map.2 ⟨p, h, rfl⟩
theorem Fr.later {w w' : World} {v : Value} {ps : List (Value × List UInt8)} (h : Fr w v ps) (hb : Below w.heap.size w w') : Fr w' v ps := ⟨h.1.below hb, fun p hp => (h.2 p hp).below hb⟩
theorem Has.oldF {w0 w : World} {l : List Res} {v : Value} {ps : List (Value × List UInt8)} (S : Has w0 w l) (h : Fr w0 v ps) : Fr w v ps := h.later S.below
set_option maxRecDepth 100000 in
theorem infoF : (Tryd.prog.info? 25).map (fun i => (i.zero, i.size, i.bytes)) = some (some (.slice none 0 0), 1, 24) := by kernel_rfl
set_option maxRecDepth 100000 in
theorem infoF2 : (Tryd.prog.info? 25).map (fun i => (i.zero, i.size)) = some (some (.slice none 0 0), 1) := by kernel_rfl
theorem one_sl {w : World} {size n : Nat} {v : Value} {xs : List Value} (h : Sl w size v n xs) : v.oneCell' = true ∧ v.cells = #[v] := by
  obtain ⟨a, c, rfl, _⟩ := Sl.shape h
  exact ⟨rfl, rfl⟩
theorem one1 {v : Value} (h : v.oneCell' = true) : ∀ u ∈ [v], u.oneCell' = true := fun u hu => by rw [List.mem_singleton.1 hu]; exact h
theorem clone8_s (v : Value) (xs : List UInt8) (w : World) (hv : Bs w v xs) (hl : xs.length ≤ 140737488355328) : Calls Tryd.prog 47 #[v] w (MadeB w xs) :=
  (clone_any v xs w hv hl).mono fun _ _ h => Fresh.made h
set_option maxRecDepth 100000 in
/-- A new slice of one byte slice. -/
theorem step_buildF1 {ops : Array Oper} {rest : List Oper} {a : Act} {w0 w : World} {l : List Res} {Q : Exit → Act → World → Prop} {dst : Option Tmp} {ty : TypeId} {pos : String} {after : Array Edge} {gd : Option (Nat × Bool)} (S : Has w0 w l) (x : Operand) (v : Value)
    (hx : a.eval x = v) (hc : v.cells = #[v])
    (hw : Region.wanted ⟨dst, .buildSlice 32 1 #[(0, x)], ty, pos, after, gd⟩ (yielded ops a.tmps) = true)
    (h : ∀ v' w', Has w0 w' (row v' 25 1 1 [v] :: l) → wpList Tryd.prog ops Q rest (a.put dst v') w') : wpList Tryd.prog ops Q (⟨dst, .buildSlice 32 1 #[(0, x)], ty, pos, after, gd⟩ :: rest) a w :=
  step_buildL S 32 25 1 #[(0, x)] [v] (.slice none 0 0) Tryd.underlying32 infoF2 rfl (by simp [hx]) rfl (fun u hu => by simp only [List.mem_singleton] at hu; subst hu; exact hc) (by decide) hw h
set_option maxRecDepth 100000 in
theorem step_appendF {ops : Array Oper} {rest : List Oper} {a : Act} {w0 w : World} {l F : List Res} {Q : Exit → Act → World → Prop} {dst : Option Tmp} {ty : TypeId} {pos : String} {after : Array Edge} {gd : Option (Nat × Bool)} (S : Has w0 w l) (s x : Operand) (v : Value) (ps : List (Value × List UInt8))
    (hs : a.eval s = v) (hp : Pick l (rowF v ps) F) (src : Value) (qs : List Value) (hx : a.eval x = src) (hsrc : Sl w 1 src qs.length qs) (h1 : ∀ u ∈ qs, u.oneCell' = true) (hlen : (ps.length + qs.length) * 24 ≤ 140737488355328)
    (hw : Region.wanted ⟨dst, .call { callee := .builtin .append, args := #[s, x], argTypes := #[32, 32] }, ty, pos, after, gd⟩ (yielded ops a.tmps) = true)
    (h : ∀ v' w', Has w0 w' (row v' 25 1 (ps.length + qs.length) (ps.map (·.1) ++ qs) :: F) → wpList Tryd.prog ops Q rest (a.put dst v') w') :
    wpList Tryd.prog ops Q (⟨dst, .call { callee := .builtin .append, args := #[s, x], argTypes := #[32, 32] }, ty, pos, after, gd⟩ :: rest) a w :=
  step_append S s x 32 25 (.slice none 0 0) 1 24 Tryd.underlying32 infoF rfl (by decide) v ps.length (ps.map (·.1)) hs hp src qs.length qs hx hsrc h1 (by unfold maxLen; omega) hlen hw h
/-- One piece more. -/
theorem Has.moreF {w0 w : World} {F : List Res} {v u : Value} {xs : List UInt8} {r : Res} {ps : List (Value × List UInt8)} (S : Has w0 w (row v 25 1 (ps.length + 1) (ps.map (·.1) ++ [u]) :: r :: row8 u xs :: (frs ps ++ F))) : Has w0 w (rowF v (ps ++ [(u, xs)]) :: (frs (ps ++ [(u, xs)]) ++ F)) := by
  have e1 : frs (ps ++ [(u, xs)]) = frs ps ++ [row8 u xs] := by simp [frs]
  have e2 : rowF v (ps ++ [(u, xs)]) = row v 25 1 (ps.length + 1) (ps.map (·.1) ++ [u]) := by simp [rowF]
  rw [e1, e2]
  have S2 := S.drop (Pick.tail (Pick.head _ _))
  refine S2.perm (List.Perm.cons _ ?_)
  rw [List.append_assoc]
  exact (List.perm_middle (a := row8 u xs) (l₁ := frs ps) (l₂ := F)).symm
theorem Has.nilF {w0 w : World} {l : List Res} (S : Has w0 w l) : Has w0 w (rowF (.slice none 0 0) [] :: (frs [] ++ l)) := S.nil_row 25 1
end Go.Proofs.YtfhkmmagpnojmaaDoor

/- Streams cut into pieces: Split of the program and of the specification. No condition but the reach. -/
namespace Go.Proofs.YtfhkmmagpnojmaaDoor
open Go.RowKit

/-- .. and an error. -/
def MadeF3 (w : World) (X : List (List UInt8) × List UInt8) (E : Int) (e : Ending) (w' : World) : Prop := ∃ v1 v2 ps, e = .returned (.tuple #[v1, v2, .int .i64 E]) ∧ ps.map (·.2) = X.1 ∧ Has w w' (rowF v1 ps :: row8 v2 X.2 :: frs ps)
def spX (b : List UInt8) : List (List UInt8) × List UInt8 := if b.length ≤ 4160 then splitB b else ([], [])
def spE (n : Nat) : Int := if n ≤ 4160 then 0 else 4
def lenOf : Value → Nat | .slice _ n _ => n | _ => 0
theorem i64_or_nat (a b : Nat) (ha : a < 9223372036854775808) (hb : b < 9223372036854775808) : bits .or .i64 (a : Int) (b : Int) = ((a ||| b : Nat) : Int) := by
  have h1 : a ||| b < 2 ^ 63 := Nat.or_lt_two_pow (by omega) (by omega)
  have e1 : ((a : Int) % 18446744073709551616).toNat = a := by omega
  have e2 : ((b : Int) % 18446744073709551616).toNat = b := by omega
  have e3 : (BitVec.ofNat 64 a ||| BitVec.ofNat 64 b).toNat = a ||| b := by
    rw [BitVec.toNat_or, BitVec.toNat_ofNat, BitVec.toNat_ofNat, Nat.mod_eq_of_lt (by omega), Nat.mod_eq_of_lt (by omega)]
  unfold bits
  simp only [IntKind.wrap_i64, IntKind.bits]
  simp [e1, e2]
  change (((BitVec.ofNat 64 a ||| BitVec.ofNat 64 b).toNat : Int) + 9223372036854775808) % 18446744073709551616 - 9223372036854775808 = _
  rw [e3]
  clear e3 e1 e2
  generalize a ||| b = c at *
  omega
theorem or_i64 (x y : Nat) (hx : x < 256) (hy : y < 256) : bits .or .i64 ((x : Int) * 256) (y : Int) = ((256 * x + y : Nat) : Int) := by
  have hj : x * 256 ||| y = 256 * x + y := (nat_join 8 (x * 256) y (by omega) (by omega)).trans (by omega)
  have h := i64_or_nat (x * 256) y (by omega) (by omega)
  rw [hj] at h
  rw [← h, Int.natCast_mul]
  rfl
set_option maxRecDepth 100000 in
set_option maxHeartbeats 4000000 in
theorem split_s (v : Value) (b : List UInt8) (w0 : World) (h : Bs w0 v b) :
    Calls Tryd.prog 30 #[v] w0 (MadeF3 w0 (spX b) (spE b.length)) := by
  have S := Has.start w0
  obtain ⟨a0, c0, rfl, k1, k2⟩ := Sl.shape h
  unfold maxLen at k2
  by_cases hbig : 4160 < b.length
  · rw [show spX b = ([], []) from if_neg (by omega), show spE b.length = 4 from if_neg (by omega)]
    have i1 : 4160 < (b.length : Int) := by omega
    have H := Lib.hid h; clear h
    go_enter Tryd.func30, Tryd.ntmps30
    go_wp2
    go_ret3
    exact ⟨_, _, [], rfl, rfl, (S.nil_row 5 1).nilF⟩
  rw [show spX b = splitB b from if_pos (by omega), show spE b.length = 0 from if_pos (by omega)]
  have i1 : ¬ 4160 < (b.length : Int) := by omega
  have i0 : b.length ≤ 4160 := by omega
  have H := Lib.hid h; have I0 := Lib.hid i0; clear h i0
  go_enter Tryd.func30, Tryd.ntmps30
  go_wp2
  go_loopw [0, 2] (fun vb vf wr => ∃ (bs : List UInt8) (a : Option Addr) (c : Nat) (ps : List (Value × List UInt8)), vb = .slice a bs.length c ∧ Bs w0 (.slice a bs.length c) bs ∧ (ps.map (·.2) ++ (splitB bs).1, (splitB bs).2) = splitB b ∧ ps.length + bs.length ≤ b.length ∧ Has w0 wr (rowF vf ps :: frs ps)) (fun vb _ _ => lenOf vb)
  case atStart => exact ⟨b, a0, c0, [], rfl, H.out, by simp, by simp, S.nilF⟩
  case round =>
    obtain ⟨bs, a, c, ps, rfl, hbs, hsp, hle, S⟩ := hrel
    have hi0 := I0.out
    have hcl := fun v w h => clone8_s v bs w h (by omega)
    obtain ⟨hc1, hc2⟩ : bs.length ≤ c ∧ c ≤ 9223372036854775807 := by
      obtain ⟨a', c', e, q1, q⟩ := Sl.shape hbs
      simp only [Value.slice.injEq, true_and] at e
      unfold maxLen at q
      omega
    by_cases hlt : bs.length < 2
    · have j1 : ¬ 2 ≤ (bs.length : Int) := by omega
      rw [split_stop bs (.inl hlt)] at hsp
      have hsp2 : ps.map (·.2) = (splitB b).1 ∧ bs = (splitB b).2 := by rw [← hsp]; simp
      have HBS := Lib.hid hbs; have HCL := Lib.hid hcl; have HSP2 := Lib.hid hsp2; clear hbs hcl hsp2
      clear hsp
      go_wp2_with (first | ((with_reducible refine iO _ (.load 5 _) ?_); refine step_load1 5 _ _ _ rfl (cL) _ Tryd.underlying5 rfl gw ?_) | ((with_reducible refine iO _ (.slice 25 _ _ _ _) ?_); refine step_cutH 25 5 1 _ _ _ _ _ _ _ _ rfl rfl (by first | rfl | omega) (by first | (first | omega | assumption | (exact Hid.out (by assumption)) | (simp only [List.length_append, List.length_cons, List.length_nil]; omega)) | decide) Tryd.underlying25 kR gw ?_) | (go_at_call 47; (with_reducible refine (HCL.out _ _ (S.oldB HBS.out)).mono ?_); rintro e w1 ⟨v44, rfl, T⟩; replace S := S.call T; clear T; (try simp only [z4, z5] at S)) | ((with_reducible refine iO _ (.slice 25 _ _ _ _) ?_); refine step_cutL 25 5 1 _ _ _ _ _ _ _ _ rfl rfl (by first | rfl | omega) (by first | (first | omega | assumption | (exact Hid.out (by assumption)) | (simp only [List.length_append, List.length_cons, List.length_nil]; omega)) | decide) Tryd.underlying25 kR gw ?_) | fail)
      go_ret3
      refine ⟨_, _, ps, rfl, HSP2.out.1, ?_⟩
      rw [← HSP2.out.2]
      exact S.perm (List.Perm.swap _ _ _)
    obtain ⟨bk, off, rfl, hcell⟩ := hbs.atA (by omega)
    have h1 : 1 < bs.length := by omega
    have h0 : 0 < bs.length := by omega
    obtain ⟨x, hxe⟩ : ∃ x, x = bs.getD 0 0 := ⟨_, rfl⟩
    obtain ⟨y, hye⟩ : ∃ y, y = bs.getD 1 0 := ⟨_, rfl⟩
    have hx := hcell 0 (by8 x) (by simp [hxe, List.getD, h0])
    have hy := hcell 1 (by8 y) (by simp [hye, List.getD, h1])
    have x256 := x.toNat_lt
    have y256 := y.toNat_lt
    obtain ⟨N, hN⟩ : ∃ N, N = 256 * x.toNat + y.toNat := ⟨_, rfl⟩
    have hfr : frN bs = if N < 2 ∨ 64 < N then 2 else N := by unfold frN; rw [← hxe, ← hye, ← hN]
    have hor := or_i64 x.toNat y.toNat x256 y256
    rw [← hN] at hor
    have j1 : 2 ≤ (bs.length : Int) := by omega
    have j2 : (0 : Int) < (bs.length : Int) := by omega
    have j3 : (1 : Int) < (bs.length : Int) := by omega
    have HBS := Lib.hid hbs; have HCL := Lib.hid hcl; have HSP := Lib.hid hsp; have HX := Lib.hid hx; have HY := Lib.hid hy; have HOR := Lib.hid hor; have HFR := Lib.hid hfr; have HN := Lib.hid hN; clear hbs hcl hsp hx hy hor hfr hN
    clear hxe hye hcell
    go_wp2_with (first | ((with_reducible refine iO _ (.load 5 _) ?_); refine step_load1 5 _ _ _ rfl (cL) _ Tryd.underlying5 rfl gw ?_) | ((with_reducible refine iO _ (.slice 25 _ _ _ _) ?_); refine step_cutH 25 5 1 _ _ _ _ _ _ _ _ rfl rfl (by first | rfl | omega) (by first | (first | omega | assumption | (exact Hid.out (by assumption)) | (simp only [List.length_append, List.length_cons, List.length_nil]; omega)) | decide) Tryd.underlying25 kR gw ?_) | ((with_reducible refine iO _ (.slice 25 _ _ _ _) ?_); refine step_cutL 25 5 1 _ _ _ _ _ _ _ _ rfl rfl (by first | rfl | omega) (by first | (first | omega | assumption | (exact Hid.out (by assumption)) | (simp only [List.length_append, List.length_cons, List.length_nil]; omega)) | decide) Tryd.underlying25 kR gw ?_) | fail)
    refine wp_rely S [sv [] ((.slice (some ⟨bk, off, none⟩) bs.length c)), sv [0] (.pointer (some ⟨bk, off + 0, none⟩)), sv [0, 1] (by8 x), sv [0, 1, 2] (.int .i64 (x.toNat : Int)), sv [0, 1, 2, 3] (.int .i64 ((x.toNat : Int) * 256)), sv [] ((.slice (some ⟨bk, off, none⟩) bs.length c)), sv [5] (.pointer (some ⟨bk, off + 1, none⟩)), sv [5, 6] (by8 y), sv [5, 6, 7] (.int .i64 (y.toNat : Int)), sv [0, 1, 2, 3, 4, 5, 6, 7, 8] (.int .i64 (N : Int)), sv [0, 1, 2, 3, 4, 5, 6, 7, 8, 9] ((.int .i64 (N : Int)))] ?A1 ?hA1 kR kR kR [0, 1, 2, 3, 4, 5, 6, 7, 8, 9, 10] kR ?hok1 ?fin1
    case hA1 => intro u; simp only [putAll, List.length_cons, List.length_nil, Nat.zero_add, Nat.reduceAdd, dstAt, List.getElem?_toArray, List.getElem?_cons_zero, List.getElem?_cons_succ, Option.bind_some, Act.put, List.setIfInBounds_toArray, List.set_cons_zero, List.set_cons_succ]; rfl
    case hok1 =>
      intro i hi
      obtain rfl | rfl | rfl | rfl | rfl | rfl | rfl | rfl | rfl | rfl | rfl : i = 0 ∨ i = 1 ∨ i = 2 ∨ i = 3 ∨ i = 4 ∨ i = 5 ∨ i = 6 ∨ i = 7 ∨ i = 8 ∨ i = 9 ∨ i = 10 := by simp only [List.length_cons, List.length_nil, Nat.zero_add, Nat.reduceAdd] at hi; omega
      · exact oP []
      · exact oP [0]
      · clear hi
        refine step_of rfl rfl rfl ?_
        intro u G w hf S
        have f1 : u 1 = .pointer (some ⟨bk, off + 0, none⟩) := hf 1 (by simp)
        simp only [fl, z4, z5, z6, z7, ptrBlk] at S ⊢
        simp only [f1]
        refine does_load1 5 (.tmp 13) _ _ rfl (S.old_cell hy) _ Tryd.underlying5 rfl ?_; exact ⟨rfl, S⟩
      · exact oP [2]
      · exact oP [3]
      · exact oP []
      · exact oP [5]
      · clear hi
        refine step_of rfl rfl rfl ?_
        intro u G w hf S
        have f6 : u 6 = .pointer (some ⟨bk, off + 1, none⟩) := hf 6 (by simp)
        simp only [fl, z4, z5, z6, z7, ptrBlk] at S ⊢
        simp only [f6]
        refine does_load1 5 (.tmp 18) _ _ rfl (S.old_cell hy) _ Tryd.underlying5 rfl ?_; exact ⟨rfl, S⟩
      · exact oP [7]
      · clear hi
        refine step_of rfl rfl rfl ?_
        intro u G w hf S
        have f4 : u 4 = .int .i64 ((x.toNat : Int) * 256) := hf 4 (by simp)
        have f8 : u 8 = .int .i64 (y.toNat : Int) := hf 8 (by simp)
        simp only [fl, z4, z5, z6, z7, ptrBlk] at S ⊢
        simp only [f4, f8]
        simp only [does]; go_simp; first | (refine ⟨?_, S⟩; rw [HOR.out]) | (rw [HOR.out])
      · exact oP [9]
    case fin1 =>
      intro u w hf S
      have hvA := allV hf
      simp only [AllV, RSpec.valAt, sv, Nat.zero_add, Nat.reduceAdd] at hvA
      simp only [fl, z4, z5, z6, z7, ptrBlk] at S
      clear hf
      simp only [List.length_cons, List.length_nil, Nat.zero_add, Nat.reduceAdd, List.drop_succ_cons, List.drop_zero, hvA]
      clear hvA
      rcases Nat.lt_or_ge N 2 with hn | hn
      · have e1 : (N : Int) < 2 := by omega
        have e4 : ¬ (bs.length : Int) < 2 := by omega
        replace HFR : Hid (frN bs = 2) := Lib.hid (by rw [HFR.out, if_pos (by omega)])
        have hkc : 2 ≤ c := by omega
        have hb2 := Bs.cutH HBS.out 2 (by omega) rfl
        have hb3 := Bs.cutL HBS.out 2 (by omega) rfl
        have hm := split_more (ps.map (·.2)) bs (by rw [HFR.out]; omega)
        rw [HFR.out, HSP.out] at hm
        have hck := fun v w h => clone8_s v (bs.take 2) w h (by simp; omega)
        have hl2 : (bs.take 2).length = 2 := by simp; omega
        have hl3 : (bs.drop 2).length = bs.length - 2 := by simp
        rw [← hl3] at hb3
        obtain ⟨A, hA⟩ : ∃ A, A = bs.take 2 := ⟨_, rfl⟩
        obtain ⟨B, hB⟩ : ∃ B, B = bs.drop 2 := ⟨_, rfl⟩
        rw [← hA] at hb2 hm hck hl2
        rw [← hB] at hb3 hm hl3
        have hlen : (ps.length + 1) * 24 ≤ 140737488355328 := by have := I0.out; omega
        have HB2 := Lib.hid hb2; have HB3 := Lib.hid hb3; have HM := Lib.hid hm; have HCK := Lib.hid hck; have HL2 := Lib.hid hl2; have HL3 := Lib.hid hl3; have HLEN := Lib.hid hlen; clear hb2 hb3 hm hck hl2 hl3 hlen
        clear hA hB
        go_wp2_with (first | ((with_reducible refine iD 37 (.buildSlice 32 1 _) ?_); refine step_buildF1 S (.tmp 36) v36 rfl (one_sl (S.sl (v := v36) pk)).2 gw ?_; clear S; intro v37 w S) | (at_builtin; refine step_appendF S (.tmp 32) (.tmp 37) _ ps rfl pk v37 [v36] rfl (S.sl (v := v37) pk) (one1 (one_sl (S.sl (v := v36) pk)).1) HLEN.out gw ?_; clear S; intro v38 w S) | ((with_reducible refine iO _ (.load 5 _) ?_); refine step_load1 5 _ _ _ rfl (cL) _ Tryd.underlying5 rfl gw ?_) | ((with_reducible refine iO _ (.slice 25 _ _ _ _) ?_); refine step_cutH 25 5 1 _ _ _ _ _ _ _ _ rfl rfl (by first | rfl | omega) (by first | (first | omega | assumption | (exact Hid.out (by assumption)) | (simp only [List.length_append, List.length_cons, List.length_nil]; omega)) | decide) Tryd.underlying25 kR gw ?_) | (go_at_call 47; (with_reducible refine (HCK.out _ _ (S.oldB HB2.out)).mono ?_); rintro e w1 ⟨v36, rfl, T⟩; replace S := S.call T; clear T; (try simp only [z4, z5] at S)) | ((with_reducible refine iO _ (.slice 25 _ _ _ _) ?_); refine step_cutL 25 5 1 _ _ _ _ _ _ _ _ rfl rfl (by first | rfl | omega) (by first | (first | omega | assumption | (exact Hid.out (by assumption)) | (simp only [List.length_append, List.length_cons, List.length_nil]; omega)) | decide) Tryd.underlying25 kR gw ?_) | fail)
        go_roundw
        case rel =>
          refine ⟨B, cutA (some ⟨bk, off, none⟩) c 2 1, c - 2, ps ++ [(v36, A)], by rw [HL3.out], HB3.out, ?_, ?_, ?_⟩
          · rw [List.map_append, List.map_cons, List.map_nil]; exact HM.out
          · rw [List.length_append, HL3.out, List.length_singleton]; omega
          · have := Has.moreF (F := []) (ps := ps) (u := v36) (xs := A) (by rw [List.append_nil]; exact S)
            simpa only [List.append_nil] using this
        case measure => simp only [lenOf]; omega
      · rcases Nat.lt_or_ge 64 N with hn2 | hn2
        · have e1 : ¬ (N : Int) < 2 := by omega
          have e2 : 64 < (N : Int) := by omega
          replace HFR : Hid (frN bs = 2) := Lib.hid (by rw [HFR.out, if_pos (by omega)])
          have hkc : 2 ≤ c := by omega
          have hb2 := Bs.cutH HBS.out 2 (by omega) rfl
          have hb3 := Bs.cutL HBS.out 2 (by omega) rfl
          have hm := split_more (ps.map (·.2)) bs (by rw [HFR.out]; omega)
          rw [HFR.out, HSP.out] at hm
          have hck := fun v w h => clone8_s v (bs.take 2) w h (by simp; omega)
          have hl2 : (bs.take 2).length = 2 := by simp; omega
          have hl3 : (bs.drop 2).length = bs.length - 2 := by simp
          rw [← hl3] at hb3
          obtain ⟨A, hA⟩ : ∃ A, A = bs.take 2 := ⟨_, rfl⟩
          obtain ⟨B, hB⟩ : ∃ B, B = bs.drop 2 := ⟨_, rfl⟩
          rw [← hA] at hb2 hm hck hl2
          rw [← hB] at hb3 hm hl3
          have hlen : (ps.length + 1) * 24 ≤ 140737488355328 := by have := I0.out; omega
          have HB2 := Lib.hid hb2; have HB3 := Lib.hid hb3; have HM := Lib.hid hm; have HCK := Lib.hid hck; have HL2 := Lib.hid hl2; have HL3 := Lib.hid hl3; have HLEN := Lib.hid hlen; clear hb2 hb3 hm hck hl2 hl3 hlen
          clear hA hB
          go_wp2_with (first | ((with_reducible refine iD 37 (.buildSlice 32 1 _) ?_); refine step_buildF1 S (.tmp 36) v36 rfl (one_sl (S.sl (v := v36) pk)).2 gw ?_; clear S; intro v37 w S) | (at_builtin; refine step_appendF S (.tmp 32) (.tmp 37) _ ps rfl pk v37 [v36] rfl (S.sl (v := v37) pk) (one1 (one_sl (S.sl (v := v36) pk)).1) HLEN.out gw ?_; clear S; intro v38 w S) | ((with_reducible refine iO _ (.load 5 _) ?_); refine step_load1 5 _ _ _ rfl (cL) _ Tryd.underlying5 rfl gw ?_) | ((with_reducible refine iO _ (.slice 25 _ _ _ _) ?_); refine step_cutH 25 5 1 _ _ _ _ _ _ _ _ rfl rfl (by first | rfl | omega) (by first | (first | omega | assumption | (exact Hid.out (by assumption)) | (simp only [List.length_append, List.length_cons, List.length_nil]; omega)) | decide) Tryd.underlying25 kR gw ?_) | (go_at_call 47; (with_reducible refine (HCK.out _ _ (S.oldB HB2.out)).mono ?_); rintro e w1 ⟨v36, rfl, T⟩; replace S := S.call T; clear T; (try simp only [z4, z5] at S)) | ((with_reducible refine iO _ (.slice 25 _ _ _ _) ?_); refine step_cutL 25 5 1 _ _ _ _ _ _ _ _ rfl rfl (by first | rfl | omega) (by first | (first | omega | assumption | (exact Hid.out (by assumption)) | (simp only [List.length_append, List.length_cons, List.length_nil]; omega)) | decide) Tryd.underlying25 kR gw ?_) | fail)
          go_roundw
          case rel =>
            refine ⟨B, cutA (some ⟨bk, off, none⟩) c 2 1, c - 2, ps ++ [(v36, A)], by rw [HL3.out], HB3.out, ?_, ?_, ?_⟩
            · rw [List.map_append, List.map_cons, List.map_nil]; exact HM.out
            · rw [List.length_append, HL3.out, List.length_singleton]; omega
            · have := Has.moreF (F := []) (ps := ps) (u := v36) (xs := A) (by rw [List.append_nil]; exact S)
              simpa only [List.append_nil] using this
          case measure => simp only [lenOf]; omega
        · have e1 : ¬ (N : Int) < 2 := by omega
          have e2 : ¬ 64 < (N : Int) := by omega
          rcases Nat.lt_or_ge bs.length N with hn3 | hn3
          · have e3 : (bs.length : Int) < (N : Int) := by omega
            have hm := HSP.out
            rw [split_stop bs (.inr (by rw [HFR.out, if_neg (by omega)]; exact hn3))] at hm
            have hsp2 : ps.map (·.2) = (splitB b).1 ∧ bs = (splitB b).2 := by rw [← hm]; simp
            have HSP2 := Lib.hid hsp2; clear hsp2
            clear hm
            go_wp2_with (first | ((with_reducible refine iO _ (.load 5 _) ?_); refine step_load1 5 _ _ _ rfl (cL) _ Tryd.underlying5 rfl gw ?_) | ((with_reducible refine iO _ (.slice 25 _ _ _ _) ?_); refine step_cutH 25 5 1 _ _ _ _ _ _ _ _ rfl rfl (by first | rfl | omega) (by first | (first | omega | assumption | (exact Hid.out (by assumption)) | (simp only [List.length_append, List.length_cons, List.length_nil]; omega)) | decide) Tryd.underlying25 kR gw ?_) | (go_at_call 47; (with_reducible refine (HCL.out _ _ (S.oldB HBS.out)).mono ?_); rintro e w1 ⟨v44, rfl, T⟩; replace S := S.call T; clear T; (try simp only [z4, z5] at S)) | ((with_reducible refine iO _ (.slice 25 _ _ _ _) ?_); refine step_cutL 25 5 1 _ _ _ _ _ _ _ _ rfl rfl (by first | rfl | omega) (by first | (first | omega | assumption | (exact Hid.out (by assumption)) | (simp only [List.length_append, List.length_cons, List.length_nil]; omega)) | decide) Tryd.underlying25 kR gw ?_) | fail)
            go_ret3
            refine ⟨_, _, ps, rfl, HSP2.out.1, ?_⟩
            rw [← HSP2.out.2]
            exact S.perm (List.Perm.swap _ _ _)
          · have e3 : ¬ (bs.length : Int) < (N : Int) := by omega
            replace HFR : Hid (frN bs = N) := Lib.hid (by rw [HFR.out, if_neg (by omega)])
            have hkc : N ≤ c := by omega
            have hb2 := Bs.cutH HBS.out N (by omega) rfl
            have hb3 := Bs.cutL HBS.out N (by omega) rfl
            have hm := split_more (ps.map (·.2)) bs (by rw [HFR.out]; omega)
            rw [HFR.out, HSP.out] at hm
            have hck := fun v w h => clone8_s v (bs.take N) w h (by simp; omega)
            have hl2 : (bs.take N).length = N := by simp; omega
            have hl3 : (bs.drop N).length = bs.length - N := by simp
            rw [← hl3] at hb3
            obtain ⟨A, hA⟩ : ∃ A, A = bs.take N := ⟨_, rfl⟩
            obtain ⟨B, hB⟩ : ∃ B, B = bs.drop N := ⟨_, rfl⟩
            rw [← hA] at hb2 hm hck hl2
            rw [← hB] at hb3 hm hl3
            have hlen : (ps.length + 1) * 24 ≤ 140737488355328 := by have := I0.out; omega
            have HB2 := Lib.hid hb2; have HB3 := Lib.hid hb3; have HM := Lib.hid hm; have HCK := Lib.hid hck; have HL2 := Lib.hid hl2; have HL3 := Lib.hid hl3; have HLEN := Lib.hid hlen; clear hb2 hb3 hm hck hl2 hl3 hlen
            clear hA hB
            go_wp2_with (first | ((with_reducible refine iD 37 (.buildSlice 32 1 _) ?_); refine step_buildF1 S (.tmp 36) v36 rfl (one_sl (S.sl (v := v36) pk)).2 gw ?_; clear S; intro v37 w S) | (at_builtin; refine step_appendF S (.tmp 32) (.tmp 37) _ ps rfl pk v37 [v36] rfl (S.sl (v := v37) pk) (one1 (one_sl (S.sl (v := v36) pk)).1) HLEN.out gw ?_; clear S; intro v38 w S) | ((with_reducible refine iO _ (.load 5 _) ?_); refine step_load1 5 _ _ _ rfl (cL) _ Tryd.underlying5 rfl gw ?_) | ((with_reducible refine iO _ (.slice 25 _ _ _ _) ?_); refine step_cutH 25 5 1 _ _ _ _ _ _ _ _ rfl rfl (by first | rfl | omega) (by first | (first | omega | assumption | (exact Hid.out (by assumption)) | (simp only [List.length_append, List.length_cons, List.length_nil]; omega)) | decide) Tryd.underlying25 kR gw ?_) | (go_at_call 47; (with_reducible refine (HCK.out _ _ (S.oldB HB2.out)).mono ?_); rintro e w1 ⟨v36, rfl, T⟩; replace S := S.call T; clear T; (try simp only [z4, z5] at S)) | ((with_reducible refine iO _ (.slice 25 _ _ _ _) ?_); refine step_cutL 25 5 1 _ _ _ _ _ _ _ _ rfl rfl (by first | rfl | omega) (by first | (first | omega | assumption | (exact Hid.out (by assumption)) | (simp only [List.length_append, List.length_cons, List.length_nil]; omega)) | decide) Tryd.underlying25 kR gw ?_) | fail)
            go_roundw
            case rel =>
              refine ⟨B, cutA (some ⟨bk, off, none⟩) c N 1, c - N, ps ++ [(v36, A)], by rw [HL3.out], HB3.out, ?_, ?_, ?_⟩
              · rw [List.map_append, List.map_cons, List.map_nil]; exact HM.out
              · rw [List.length_append, HL3.out, List.length_singleton]; omega
              · have := Has.moreF (F := []) (ps := ps) (u := v36) (xs := A) (by rw [List.append_nil]; exact S)
                simpa only [List.append_nil] using this
            case measure => simp only [lenOf]; omega
end Go.Proofs.YtfhkmmagpnojmaaDoor
