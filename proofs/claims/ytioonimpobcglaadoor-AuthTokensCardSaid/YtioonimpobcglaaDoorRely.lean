/- A region that draws its order, told operation by operation: what each leaves, whatever stands beside it. No condition. -/
import Derived.Test.YtioonimpobcglaaDoorSt
import Derived.StillTail
set_option linter.unusedSimpArgs false
set_option linter.unusedVariables false
namespace Go.Proofs.YtioonimpobcglaaDoor
open Go.RowKit

/-- What an operation does: its value and the world behind it. -/
def does (P : Program) (ρ : Operand → Value) (o : Oper) (w : World) (Post : Value → World → Prop) : Prop :=
  match (execOp ρ o).run P w with
  | .ok (.value v) w' => Post v w'
  | .ok .skip w' => Post undef w'
  | .ok (.enter f args) w' => Calls P f args w' fun e w'' => match e with | .returned v => Post v w'' | _ => False
  | _ => False

theorem does_wp {P : Program} {o : Oper} {a : Act} {w : World} {Post : Value → World → Prop} {K : Act → World → Prop} {Q : Exit → Act → World → Prop}
    (h : does P a.eval o w Post) (hk : ∀ v w', Post v w' → K (a.put o.dst v) w') : o.wp P a w K Q := by
  unfold does at h
  unfold Oper.wp
  generalize (execOp a.eval o).run P w = r at *
  cases r with
  | ok n w' =>
    cases n <;> simp only [Oper.upon] at h ⊢
    case value v => exact hk _ _ h
    case skip => exact hk _ _ h
    case enter f args =>
      refine Calls.mono h fun e w'' he => ?_
      cases e with
      | returned v => exact hk _ _ he
      | panicked c => exact he.elim
      | outgrown => exact he.elim
  | halt x w' => simp only at h

/-- What is told of one operation: the operations of which it speaks, the things that it takes away, the things that it looks at; what its value is; the things that it leaves. -/
structure RSpec where
  deps : List Nat
  eats : List Nat
  keeps : List Nat
  val : (Nat → Value) → Value → Prop
  res : (Nat → Value) → Value → List Res

instance : Inhabited RSpec := ⟨⟨[], [], [], fun _ _ => True, fun _ _ => []⟩⟩

def mask (d : List Nat) (u : Nat → Value) : Nat → Value := fun j => if d.contains j then u j else undef

theorem mask_eq {d : List Nat} {u u' : Nat → Value} (h : ∀ j ∈ d, u j = u' j) : mask d u = mask d u' := by
  funext j
  unfold mask
  by_cases hj : d.contains j = true
  · rw [if_pos hj, if_pos hj, h j (by simpa using hj)]
  · rw [if_neg hj, if_neg hj]

def RSpec.valAt (s : RSpec) (u : Nat → Value) (i : Nat) : Prop := s.val (mask s.deps u) (u i)
def RSpec.resAt (s : RSpec) (u : Nat → Value) (i : Nat) : List Res := s.res (mask s.deps u) (u i)

section
variable (ops : Array Oper) (sp : List RSpec)

def spec (i : Nat) : RSpec := sp.getD i default
def dstAt (i : Nat) : Option Tmp := (ops[i]?).bind (·.dst)

/-- The frame where all operations of the head have left their values. -/
def putAll (a : Act) (u : Nat → Value) : Nat → Act
  | 0 => a
  | n + 1 => (putAll a u n).put (dstAt ops n) (u n)

/-- The head is told rightly: what is spoken of comes before; nothing is taken twice, or looked at by one who may come later. -/
def relyB : Bool :=
  Region.noSelect ops &&
  (List.range sp.length).all fun i =>
    let s := spec sp i
    (match ops[i]? with
     | none => false
     | some o =>
       (o.after.all fun e => !Region.binds .any e || decide (e.on < i)) &&
       (s.deps.all fun j => decide (j < i) && (Region.waitsFor .any ops i j || s.deps.any fun k => Region.waitsFor .any ops i k && (spec sp k).deps.contains j)) &&
       ((o.looksAt ops).all fun t => (List.range sp.length).all fun j => dstAt ops j != some t || s.deps.contains j)) &&
    (s.eats ++ s.keeps).all (fun j => s.deps.contains j) && decide (s.eats ++ s.keeps).Nodup &&
    ((List.range sp.length).all fun k => k == i || ((s.eats.all fun j => !(spec sp k).eats.contains j) && (s.keeps.all fun j => !(spec sp k).eats.contains j || (spec sp k).deps.contains i))) &&
    ((List.range sp.length).all fun j => j == i || match dstAt ops i with | some d => dstAt ops j != some d | none => true)

end

/-- The numbers of the operations whose things are still there. -/
def liveIds (sp : List RSpec) (L : Nat → Bool) : List Nat :=
  (List.range sp.length).filter fun i => L i && (List.range sp.length).all fun k => !(L k && (spec sp k).eats.contains i)

def resOf (sp : List RSpec) (u : Nat → Value) (l : List Nat) : List Res := l.flatMap fun i => (spec sp i).resAt u i

/-- What is to be shown of operation i. -/
def StepOK2 (P : Program) (ops : Array Oper) (sp : List RSpec) (w0 : World) (l1 l2 : List Res) (A : (Nat → Value) → Act) (i : Nat) : Prop :=
  match ops[i]? with
  | none => True
  | some o => ∀ (u : Nat → Value) (G : List Res) (w : World), (∀ j ∈ (spec sp i).deps, (spec sp j).valAt u j) →
      Has w0 w (resOf sp u (spec sp i).eats ++ (resOf sp u (spec sp i).keeps ++ (l1 ++ G))) →
      if Region.wanted o (yielded ops (A u).tmps) = true then
        does P (A u).eval o w fun v w' => (spec sp i).val (mask (spec sp i).deps u) v ∧ Has w0 w' ((spec sp i).res (mask (spec sp i).deps u) v ++ (resOf sp u (spec sp i).keeps ++ (l2 ++ G)))
      else (spec sp i).val (mask (spec sp i).deps u) undef ∧ Has w0 w ((spec sp i).res (mask (spec sp i).deps u) undef ++ (resOf sp u (spec sp i).keeps ++ (l2 ++ G)))

def StepOK (P : Program) (ops : Array Oper) (sp : List RSpec) (w0 : World) (l : List Res) (A : (Nat → Value) → Act) (i : Nat) : Prop := StepOK2 P ops sp w0 l l A i

section
variable {P : Program} {ops : Array Oper} {sp : List RSpec}

/-- What the check says of operation i. -/
structure Told (ops : Array Oper) (sp : List RSpec) (i : Nat) (o : Oper) : Prop where
  op : ops[i]? = some o
  back : ∀ e ∈ o.after, Region.binds .any e = true → e.on < i
  lt : ∀ j ∈ (spec sp i).deps, j < i
  way : ∀ j ∈ (spec sp i).deps, Region.waitsFor .any ops i j = true ∨ ∃ k ∈ (spec sp i).deps, Region.waitsFor .any ops i k = true ∧ j ∈ (spec sp k).deps
  looks : ∀ t ∈ o.looksAt ops, ∀ j, j < sp.length → dstAt ops j = some t → j ∈ (spec sp i).deps
  sub : ∀ j ∈ (spec sp i).eats ++ (spec sp i).keeps, j ∈ (spec sp i).deps
  nodup : ((spec sp i).eats ++ (spec sp i).keeps).Nodup
  eat : ∀ k, k < sp.length → k ≠ i → ∀ j ∈ (spec sp i).eats, j ∉ (spec sp k).eats
  kept : ∀ k, k < sp.length → k ≠ i → ∀ j ∈ (spec sp i).keeps, j ∈ (spec sp k).eats → i ∈ (spec sp k).deps
  alone : ∀ j, j < sp.length → j ≠ i → ∀ d, dstAt ops i = some d → dstAt ops j ≠ some d

theorem relyB_told (h : relyB ops sp = true) (i : Nat) (hi : i < sp.length) : ∃ o, Told ops sp i o := by
  simp only [relyB, Bool.and_eq_true] at h
  have h1 := List.all_eq_true.1 h.2 i (List.mem_range.2 hi)
  simp only [Bool.and_eq_true] at h1
  obtain ⟨⟨⟨⟨hop, hsub⟩, hnd⟩, hec⟩, hal⟩ := h1
  cases ho : ops[i]? with
  | none => rw [ho] at hop; cases hop
  | some o =>
    rw [ho] at hop
    simp only [Bool.and_eq_true] at hop
    obtain ⟨⟨hb, hd⟩, hl⟩ := hop
    refine ⟨o, ⟨ho, ?_, ?_, ?_, ?_, ?_, by simpa using hnd, ?_, ?_, ?_⟩⟩
    · intro e he hbi
      have := Array.all_eq_true'.1 hb e he
      simpa [hbi] using this
    · intro j hj
      have := List.all_eq_true.1 hd j hj
      simp only [Bool.and_eq_true, decide_eq_true_eq] at this
      exact this.1
    · intro j hj
      have := List.all_eq_true.1 hd j hj
      simp only [Bool.and_eq_true, Bool.or_eq_true] at this
      rcases this.2 with h2 | h2
      · exact .inl h2
      · obtain ⟨k, hk, h3⟩ := List.any_eq_true.1 h2
        simp only [Bool.and_eq_true] at h3
        exact .inr ⟨k, hk, h3.1, by simpa using h3.2⟩
    · intro t ht j hj hdj
      have := List.all_eq_true.1 (List.all_eq_true.1 hl t ht) j (List.mem_range.2 hj)
      simpa [hdj] using this
    · intro j hj
      simpa using List.all_eq_true.1 hsub j hj
    · intro k hk hki j hj
      have := List.all_eq_true.1 hec k (List.mem_range.2 hk)
      simp only [Bool.or_eq_true, beq_iff_eq, hki, false_or, Bool.and_eq_true] at this
      simpa using List.all_eq_true.1 this.1 j hj
    · intro k hk hki j hj hjk
      have := List.all_eq_true.1 hec k (List.mem_range.2 hk)
      simp only [Bool.or_eq_true, beq_iff_eq, hki, false_or, Bool.and_eq_true] at this
      have := List.all_eq_true.1 this.2 j hj
      simpa [hjk] using this
    · intro j hj hji d hdi
      have := List.all_eq_true.1 hal j (List.mem_range.2 hj)
      simp only [Bool.or_eq_true, beq_iff_eq, hji, false_or, hdi] at this
      simpa using this

/-- What holds on the way. -/
structure RInv (ops : Array Oper) (sp : List RSpec) (w0 : World) (lf : Bool → List Res) (k0 : Nat) (a : Act) (listed : Array Bool) (a' : Act) (w : World) (u : Nat → Value) : Prop where
  head : HeadInv .any ops sp.length listed
  vals : ∀ i, i < sp.length → listed.getD i false = true → (spec sp i).valAt u i
  st : Has w0 w (resOf sp u (liveIds sp fun i => listed.getD i false) ++ lf (listed.getD k0 false))
  defers : a'.defers = a.defers
  size : a'.tmps.size = a.tmps.size
  set : ∀ i, i < sp.length → listed.getD i false = true → ∀ d, dstAt ops i = some d → d < a.tmps.size → a'.tmps[d]? = some (u i)
  same : ∀ t, (∀ i, i < sp.length → listed.getD i false = true → dstAt ops i ≠ some t) → a'.tmps[t]? = a.tmps[t]?

theorem deps_listed (h : relyB ops sp = true) {listed : Array Bool} (hd : HeadInv .any ops sp.length listed) : ∀ i, i < sp.length → (∀ o, ops[i]? = some o → ∀ e ∈ o.after, Region.binds .any e = true → listed.getD e.on false = true) →
    ∀ j ∈ (spec sp i).deps, listed.getD j false = true := by
  intro i
  induction i using Nat.strongRecOn with
  | _ i ih =>
    intro hi hc j hj
    obtain ⟨o, T⟩ := relyB_told h i hi
    have direct : ∀ k, Region.waitsFor .any ops i k = true → listed.getD k false = true := fun k hk => by
      obtain ⟨o', ho', e, he, hb, rfl⟩ := Region.waitsFor_spec hk
      exact hc o' ho' e he hb
    rcases T.way j hj with h1 | ⟨k, hk, h1, h2⟩
    · exact direct j h1
    · have hkl := direct k h1
      exact ih k (T.lt k hk) (Nat.lt_trans (T.lt k hk) hi) (fun o' ho' e he hb => hd.closed k o' ho' hkl e he hb) j h2

theorem liveIds_mem {L : Nat → Bool} {i : Nat} : i ∈ liveIds sp L ↔ i < sp.length ∧ L i = true ∧ ∀ k, k < sp.length → L k = true → i ∉ (spec sp k).eats := by
  unfold liveIds
  rw [List.mem_filter, List.mem_range]
  simp only [Bool.and_eq_true, List.all_eq_true, List.mem_range, Bool.not_eq_true']
  constructor
  · rintro ⟨h1, h2, h3⟩
    refine ⟨h1, h2, fun k hk hLk hm => ?_⟩
    have := h3 k hk
    rw [hLk] at this
    simp [hm] at this
  · rintro ⟨h1, h2, h3⟩
    refine ⟨h1, h2, fun k hk => ?_⟩
    cases hLk : L k with
    | false => rfl
    | true => simpa using h3 k hk hLk

theorem liveIds_nodup (sp : List RSpec) (L : Nat → Bool) : (liveIds sp L).Nodup := (List.nodup_range).filter _

theorem perm_of_mem {l k : List Nat} (hl : l.Nodup) (hk : k.Nodup) (h : ∀ x, x ∈ l ↔ x ∈ k) : l.Perm k := (List.perm_ext_iff_of_nodup hl hk).2 h

theorem resOf_perm {u : Nat → Value} {l k : List Nat} (h : l.Perm k) : (resOf sp u l).Perm (resOf sp u k) := h.flatMap_right _
theorem resOf_append {u : Nat → Value} {l k : List Nat} : resOf sp u (l ++ k) = resOf sp u l ++ resOf sp u k := List.flatMap_append
theorem resOf_congr {u u' : Nat → Value} {l : List Nat} (h : ∀ i ∈ l, (spec sp i).resAt u i = (spec sp i).resAt u' i) : resOf sp u l = resOf sp u' l := by
  unfold resOf
  induction l with
  | nil => rfl
  | cons x l ih => rw [List.flatMap_cons, List.flatMap_cons, h x (by simp), ih (fun i hi => h i (by simp [hi]))]

/-- What the frame of an operation shows of the frame where all have left their values. -/
structure Agree (ops : Array Oper) (o : Oper) (a' a'' : Act) : Prop where
  at' : ∀ t ∈ o.looksAt ops, a'.tmps[t]? = a''.tmps[t]?

theorem Agree.eval {o : Oper} {a' a'' : Act} (h : Agree ops o a' a'') : ∀ x ∈ o.op.operands, a'.eval x = a''.eval x := by
  intro x hx
  cases x with
  | tmp t =>
    have ht : t ∈ o.looksAt ops := List.mem_append_left _ (List.mem_filterMap.2 ⟨.tmp t, by simpa using hx, rfl⟩)
    have := h.at' t ht
    simp [Act.eval, this]
  | _ => rfl

theorem Agree.wanted {o : Oper} {a' a'' : Act} (h : Agree ops o a' a'') : Region.wanted o (yielded ops a'.tmps) = Region.wanted o (yielded ops a''.tmps) := by
  unfold Region.wanted
  cases hg : o.guard with
  | none => rfl
  | some gw =>
    obtain ⟨g, want⟩ := gw
    have hy : yielded ops a'.tmps g = yielded ops a''.tmps g := by
      unfold yielded
      cases ht : (ops[g]?).bind (·.dst) with
      | none => rfl
      | some t =>
        have := h.at' t (by simp [Oper.looksAt, hg, ht])
        simp only [Option.bind_some, this]
    simp only [hy]

theorem putAll_size (a : Act) (u : Nat → Value) : ∀ n, (putAll ops a u n).tmps.size = a.tmps.size
  | 0 => rfl
  | n + 1 => by
    unfold putAll Act.put
    cases dstAt ops n with
    | none => exact putAll_size a u n
    | some d => simp [putAll_size a u n]

theorem putAll_defers (a : Act) (u : Nat → Value) : ∀ n, (putAll ops a u n).defers = a.defers
  | 0 => rfl
  | n + 1 => by
    unfold putAll Act.put
    cases dstAt ops n with
    | none => exact putAll_defers a u n
    | some d => exact putAll_defers a u n

theorem put_other {a : Act} {x : Option Tmp} {v : Value} {t : Nat} (h : x ≠ some t) : (a.put x v).tmps[t]? = a.tmps[t]? := by
  cases x with
  | none => rfl
  | some d => simp only [Act.put]; exact Array.getElem?_setIfInBounds_ne (fun e => h (by rw [e]))

theorem put_same {a : Act} {v : Value} {d : Nat} (h : d < a.tmps.size) : (a.put (some d) v).tmps[d]? = some v := by
  simp only [Act.put]
  rw [Array.getElem?_setIfInBounds_self_of_lt h]

theorem putAll_same (a : Act) (u : Nat → Value) (t : Nat) : ∀ n, (∀ i, i < n → dstAt ops i ≠ some t) → (putAll ops a u n).tmps[t]? = a.tmps[t]?
  | 0, _ => rfl
  | n + 1, h => by
    unfold putAll
    rw [put_other (h n (by omega)), putAll_same a u t n (fun i hi => h i (by omega))]

theorem putAll_set (a : Act) (u : Nat → Value) (d : Nat) (hd : d < a.tmps.size) : ∀ n i, i < n → dstAt ops i = some d → (∀ j, j < n → j ≠ i → dstAt ops j ≠ some d) → (putAll ops a u n).tmps[d]? = some (u i)
  | 0, _, hi, _, _ => by omega
  | n + 1, i, hi, hdi, hu => by
    unfold putAll
    by_cases hin : i = n
    · subst hin
      rw [hdi, put_same (by rw [putAll_size]; exact hd)]
    · rw [put_other (hu n (by omega) (Ne.symm hin)), putAll_set a u d hd n i (by omega) hdi (fun j hj => hu j (by omega))]

theorem getElem?_none_size {xs ys : Array Value} (h : xs.size = ys.size) {t : Nat} (ht : ¬ t < ys.size) : xs[t]? = ys[t]? := by
  rw [Array.getElem?_eq_none (by omega), Array.getElem?_eq_none (by omega)]

/-- One operation that may come up comes up. -/
theorem rely_step {w0 : World} {lf : Bool → List Res} {k0 : Nat} {a : Act} {A : (Nat → Value) → Act} {Q : Exit → Act → World → Prop} (h : relyB ops sp = true) (hA : ∀ u, putAll ops a u sp.length = A u) (hok : ∀ i, i < sp.length → if i = k0 then StepOK2 P ops sp w0 (lf false) (lf true) A i else ∀ b, StepOK2 P ops sp w0 (lf b) (lf b) A i)
    {listed : Array Bool} {a' : Act} {w : World} {u : Nat → Value} (I : RInv ops sp w0 lf k0 a listed a' w u) {i : Nat} (hi : i < sp.length) (hr : i ∈ Region.ready .any ops listed) :
    wpOp P ops Q i (fun a'' w' => ∃ u', RInv ops sp w0 lf k0 a (listed.setIfInBounds i true) a'' w' u') a' w := by
  obtain ⟨o, T⟩ := relyB_told h i hi
  obtain ⟨hun, o', ho', hall⟩ := mem_ready.1 hr
  obtain rfl : o' = o := Option.some.inj (ho'.symm.trans T.op)
  have hunF : listed.getD i false = false := getD_both hun
  have hdep := deps_listed h I.head i hi (fun o'' ho'' e he hb => by
    obtain rfl : o'' = o' := Option.some.inj (ho''.symm.trans T.op)
    exact hall e he hb)
  have hdn : ∀ j ∈ (spec sp i).deps, j < sp.length := fun j hj => Nat.lt_trans (T.lt j hj) hi
  -- who is listed speaks of nobody who is not
  have hnot : ∀ j, j < sp.length → listed.getD j false = true → i ∉ (spec sp j).deps := fun j hj hl hm => by
    have hcl := deps_listed h I.head j hj (fun o'' ho'' e he hb => I.head.closed j o'' ho'' hl e he hb) i hm
    rw [hunF] at hcl
    cases hcl
  -- what the frame shows
  have hag : Agree ops o' a' (A u) := by
    refine ⟨fun t ht => ?_⟩
    rw [← hA u]
    by_cases hex : ∃ j, j < sp.length ∧ dstAt ops j = some t
    · obtain ⟨j, hj, hdj⟩ := hex
      have hjd := T.looks t ht j hj hdj
      obtain ⟨oj, Tj⟩ := relyB_told h j hj
      by_cases hts : t < a.tmps.size
      · rw [I.set j hj (hdep j hjd) t hdj hts, putAll_set a u t hts _ j hj hdj (fun k hk hkj => Tj.alone k hk hkj t hdj)]
      · exact getElem?_none_size (by rw [I.size, putAll_size]) (by rw [putAll_size]; exact hts)
    · rw [I.same t (fun j hj _ hdj => hex ⟨j, hj, hdj⟩), putAll_same a u t _ (fun j hj hdj => hex ⟨j, hj, hdj⟩)]
  -- the things
  have hlv : ∀ j ∈ (spec sp i).eats ++ (spec sp i).keeps, j ∈ liveIds sp (fun k => listed.getD k false) := fun j hj => by
    have hjd := T.sub j hj
    refine liveIds_mem.2 ⟨hdn j hjd, hdep j hjd, fun k hk hlk hm => ?_⟩
    have hki : k ≠ i := fun e => by rw [e, hunF] at hlk; cases hlk
    rcases List.mem_append.1 hj with h1 | h1
    · exact T.eat k hk hki j h1 hm
    · exact hnot k hk hlk (T.kept k hk hki j h1 hm)
  obtain ⟨rest, hrest⟩ : ∃ rest, rest = (liveIds sp (fun k => listed.getD k false)).filter (fun j => !((spec sp i).eats ++ (spec sp i).keeps).contains j) := ⟨_, rfl⟩
  have hrm : ∀ j, j ∈ rest ↔ j ∈ liveIds sp (fun k => listed.getD k false) ∧ j ∉ (spec sp i).eats ++ (spec sp i).keeps := fun j => by
    rw [hrest, List.mem_filter]
    simp
  have hrn : rest.Nodup := by rw [hrest]; exact (liveIds_nodup _ _).filter _
  have hperm : (liveIds sp (fun k => listed.getD k false)).Perm (((spec sp i).eats ++ (spec sp i).keeps) ++ rest) := by
    refine perm_of_mem (liveIds_nodup _ _) (List.nodup_append.2 ⟨T.nodup, hrn, fun x hx y hy e => ?_⟩) (fun j => ?_)
    · subst e
      exact ((hrm x).1 hy).2 hx
    · rw [List.mem_append, hrm]
      constructor
      · intro hj
        by_cases hm : j ∈ (spec sp i).eats ++ (spec sp i).keeps
        · exact .inl hm
        · exact .inr ⟨hj, hm⟩
      · rintro (hj | hj)
        · exact hlv j hj
        · exact hj.1
  obtain ⟨l1, hl1⟩ : ∃ l1, l1 = lf (listed.getD k0 false) := ⟨_, rfl⟩
  obtain ⟨l2, hl2⟩ : ∃ l2, l2 = lf ((listed.setIfInBounds i true).getD k0 false) := ⟨_, rfl⟩
  have hst := I.st
  rw [← hl1] at hst
  have hS : Has w0 w (resOf sp u (spec sp i).eats ++ (resOf sp u (spec sp i).keeps ++ (l1 ++ resOf sp u rest))) := by
    refine hst.perm (((resOf_perm hperm).append_right l1).trans ?_)
    rw [resOf_append, resOf_append]
    simp only [List.append_assoc]
    exact (List.Perm.refl _).append ((List.Perm.refl _).append List.perm_append_comm)
  have hstep : StepOK2 P ops sp w0 l1 l2 A i := by
    have h0 := hok i hi
    by_cases hk : i = k0
    · rw [if_pos hk] at h0
      have hszi : i < listed.size := by rw [I.head.size]; exact (Array.getElem?_eq_some_iff.1 T.op).1
      rw [hl1, hl2, ← hk, hunF, show (listed.setIfInBounds i true).getD i false = true by simp [hszi]]
      exact h0
    · rw [if_neg hk] at h0
      rw [hl1, hl2, getD_set_ne false hk]
      exact h0 _
  unfold StepOK2 at hstep
  rw [T.op] at hstep
  simp only at hstep
  have hfin := hstep u (resOf sp u rest) w (fun j hj => I.vals j (hdn j hj) (hdep j hj)) hS
  -- what is left
  have hnext : ∀ v w', ((spec sp i).val (mask (spec sp i).deps u) v ∧ Has w0 w' ((spec sp i).res (mask (spec sp i).deps u) v ++ (resOf sp u (spec sp i).keeps ++ (l2 ++ resOf sp u rest)))) →
      ∃ u', RInv ops sp w0 lf k0 a (listed.setIfInBounds i true) (a'.put o'.dst v) w' u' := by
    rintro v w' ⟨hv, hS'⟩
    obtain ⟨u', hu'⟩ : ∃ u' : Nat → Value, u' = fun j => if j = i then v else u j := ⟨_, rfl⟩
    have hui : u' i = v := by rw [hu']; simp
    have huj : ∀ j, j ≠ i → u' j = u j := fun j hj => by rw [hu']; simp [hj]
    have hmi : mask (spec sp i).deps u' = mask (spec sp i).deps u := mask_eq fun j hj => huj j (by have := T.lt j hj; omega)
    have hmj : ∀ j, j < sp.length → listed.getD j false = true → mask (spec sp j).deps u' = mask (spec sp j).deps u := fun j hj hl => mask_eq fun k hk => huj k (fun e => hnot j hj hl (e ▸ hk))
    have hold : ∀ j, (listed.setIfInBounds i true).getD j false = true → j ≠ i → listed.getD j false = true := fun j hj hji => by rw [getD_set_ne false (Ne.symm hji)] at hj; exact hj
    have hsz : i < listed.size := by rw [I.head.size]; exact (Array.getElem?_eq_some_iff.1 T.op).1
    have hnew : (listed.setIfInBounds i true).getD i false = true := by simp [hsz]
    have hrj : ∀ j, j < sp.length → listed.getD j false = true → j ≠ i → (spec sp j).resAt u' j = (spec sp j).resAt u j := fun j hj hl hji => by
      unfold RSpec.resAt
      rw [hmj j hj hl, huj j hji]
    have hdi : o'.dst = dstAt ops i := by unfold dstAt; rw [T.op]; rfl
    refine ⟨u', ⟨I.head.set hr hi, ?_, ?_, ?_, ?_, ?_, ?_⟩⟩
    · intro j hj hl
      by_cases hji : j = i
      · subst hji
        unfold RSpec.valAt
        rw [hmi, hui]
        exact hv
      · have := I.vals j hj (hold j hl hji)
        unfold RSpec.valAt at this ⊢
        rw [hmj j hj (hold j hl hji), huj j hji]
        exact this
    · have hp2 : (liveIds sp (fun k => (listed.setIfInBounds i true).getD k false)).Perm (i :: ((spec sp i).keeps ++ rest)) := by
        have hkr : ∀ j, j ∈ (spec sp i).keeps ++ rest ↔ j ∈ liveIds sp (fun k => listed.getD k false) ∧ j ∉ (spec sp i).eats := fun j => by
          rw [List.mem_append, hrm, List.mem_append]
          have hdis : j ∈ (spec sp i).keeps → j ∉ (spec sp i).eats := fun h1 h2 => (List.nodup_append.1 T.nodup).2.2 j h2 j h1 rfl
          constructor
          · rintro (h1 | h1)
            · exact ⟨hlv j (List.mem_append_right _ h1), hdis h1⟩
            · exact ⟨h1.1, fun h2 => h1.2 (.inl h2)⟩
          · rintro ⟨h1, h2⟩
            by_cases hk : j ∈ (spec sp i).keeps
            · exact .inl hk
            · exact .inr ⟨h1, fun h3 => h3.elim h2 hk⟩
        have hin : i ∉ (spec sp i).keeps ++ rest := fun hm => by
          have := (liveIds_mem.1 ((hkr i).1 hm).1).2.1
          rw [hunF] at this
          cases this
        refine perm_of_mem (liveIds_nodup _ _) (List.nodup_cons.2 ⟨hin, ?_⟩) (fun j => ?_)
        · refine List.nodup_append.2 ⟨(List.nodup_append.1 T.nodup).2.1, hrn, fun x hx y hy e => ?_⟩
          subst e
          exact ((hrm x).1 hy).2 (List.mem_append_right _ hx)
        · rw [List.mem_cons, hkr, liveIds_mem, liveIds_mem]
          constructor
          · rintro ⟨h1, h2, h3⟩
            by_cases hji : j = i
            · exact .inl hji
            · refine .inr ⟨⟨h1, hold j h2 hji, fun k hk hlk => h3 k hk (getD_set_true hlk)⟩, h3 i hi hnew⟩
          · rintro (rfl | ⟨⟨h1, h2, h3⟩, h4⟩)
            · refine ⟨hi, hnew, fun k hk hlk hm => ?_⟩
              by_cases hkj : k = j
              · subst hkj
                obtain ⟨ok, Tk⟩ := relyB_told h k hk
                have := Tk.lt k (Tk.sub k (List.mem_append_left _ hm))
                omega
              · obtain ⟨ok, Tk⟩ := relyB_told h k hk
                exact hnot k hk (hold k hlk hkj) (Tk.sub j (List.mem_append_left _ hm))
            · refine ⟨h1, getD_set_true h2, fun k hk hlk hm => ?_⟩
              by_cases hki : k = i
              · subst hki; exact h4 hm
              · exact h3 k hk (hold k hlk hki) hm
      have hres : resOf sp u' (i :: ((spec sp i).keeps ++ rest)) = (spec sp i).res (mask (spec sp i).deps u) v ++ (resOf sp u (spec sp i).keeps ++ resOf sp u rest) := by
        have h1 : (spec sp i).resAt u' i = (spec sp i).res (mask (spec sp i).deps u) v := by unfold RSpec.resAt; rw [hmi, hui]
        have h2 : resOf sp u' ((spec sp i).keeps ++ rest) = resOf sp u ((spec sp i).keeps ++ rest) := resOf_congr fun j hj => by
          have hjl : j ∈ liveIds sp (fun k => listed.getD k false) := by
            rcases List.mem_append.1 hj with h3 | h3
            · exact hlv j (List.mem_append_right _ h3)
            · exact ((hrm j).1 h3).1
          have hjm := liveIds_mem.1 hjl
          exact hrj j hjm.1 hjm.2.1 (fun e => by have := hjm.2.1; rw [e, hunF] at this; cases this)
        unfold resOf at h2 ⊢
        rw [List.flatMap_cons, h1, h2, List.flatMap_append]
      rw [← hl2]
      refine hS'.perm ?_
      refine List.Perm.trans ?_ (((resOf_perm hp2).append_right l2).symm)
      rw [hres]
      simp only [List.append_assoc]
      exact (List.Perm.refl _).append ((List.Perm.refl _).append List.perm_append_comm)
    · cases o'.dst <;> exact I.defers
    · cases o'.dst with
      | none => exact I.size
      | some d => simp only [Act.put, Array.size_setIfInBounds]; exact I.size
    · intro j hj hl d hd hds
      by_cases hji : j = i
      · subst hji
        rw [hdi, hd, put_same (by rw [I.size]; exact hds), hui]
      · have hne : o'.dst ≠ some d := by rw [hdi]; exact fun e => (T.alone j hj hji d e) hd
        rw [put_other hne, huj j hji]
        exact I.set j hj (hold j hl hji) d hd hds
    · intro t ht
      have hne : o'.dst ≠ some t := by rw [hdi]; exact ht i hi hnew
      rw [put_other hne]
      exact I.same t fun j hj hl => ht j hj (getD_set_true hl)
  unfold wpOp
  rw [T.op]
  simp only
  rw [hag.wanted]
  by_cases hw : Region.wanted o' (yielded ops (A u).tmps) = true
  · rw [if_pos hw] at hfin ⊢
    refine .inl (does_wp (Post := fun v w' => (spec sp i).val (mask (spec sp i).deps u) v ∧ Has w0 w' ((spec sp i).res (mask (spec sp i).deps u) v ++ (resOf sp u (spec sp i).keeps ++ (l2 ++ resOf sp u rest)))) ?_ hnext)
    unfold does at hfin ⊢
    rw [execOp_congr o' (fun cs b => Region.noSelect_spec (by simp only [relyB, Bool.and_eq_true] at h; exact h.1) i o' cs b T.op) hag.eval]
    exact hfin
  · rw [if_neg hw] at hfin ⊢
    exact hnext _ _ hfin

/-- The head is followed by operations that come one after the other, behind all of the head. -/
def relyTailB (ops : Array Oper) (n : Nat) : Bool :=
  (decide (n = ops.size) || (decide (n < ops.size) && Region.sinkB .any ops n && Region.chainB .any ops n)) &&
  Region.seqB .any ops (ops.size - n) n (List.replicate n true ++ List.replicate (ops.size - n) false).toArray

def cntU (n : Nat) (listed : Array Bool) : Nat := ((List.range n).filter fun i => !listed.getD i false).length

theorem cntU_set {n : Nat} {listed : Array Bool} {i : Nat} (hi : i < n) (hs : i < listed.size) (h : listed.getD i false = false) : cntU n (listed.setIfInBounds i true) + 1 = cntU n listed := by
  have hp : ((List.range n).filter fun j => !listed.getD j false).Perm (i :: (List.range n).filter fun j => !(listed.setIfInBounds i true).getD j false) := by
    have hin : i ∉ (List.range n).filter fun j => !(listed.setIfInBounds i true).getD j false := by
      rw [List.mem_filter]
      rintro ⟨_, h2⟩
      simp [hs] at h2
    refine perm_of_mem (List.nodup_range.filter _) (List.nodup_cons.2 ⟨hin, List.nodup_range.filter _⟩) (fun j => ?_)
    rw [List.mem_cons, List.mem_filter, List.mem_filter, List.mem_range]
    constructor
    · rintro ⟨h1, h2⟩
      by_cases hji : j = i
      · exact .inl hji
      · exact .inr ⟨h1, by rw [getD_set_ne false (Ne.symm hji)]; exact h2⟩
    · rintro (rfl | ⟨h1, h2⟩)
      · exact ⟨hi, by rw [h]; rfl⟩
      · refine ⟨h1, ?_⟩
        cases hj : listed.getD j false with
        | false => rfl
        | true => rw [getD_set_true hj] at h2; exact h2
  have := hp.length_eq
  simp only [List.length_cons] at this
  exact this.symm

theorem rely_run {w0 : World} {lf : Bool → List Res} {k0 : Nat} {a : Act} {A : (Nat → Value) → Act} {Q : Exit → Act → World → Prop} (h : relyB ops sp = true) (ht : relyTailB ops sp.length = true) (hA : ∀ u, putAll ops a u sp.length = A u) (hok : ∀ i, i < sp.length → if i = k0 then StepOK2 P ops sp w0 (lf false) (lf true) A i else ∀ b, StepOK2 P ops sp w0 (lf b) (lf b) A i)
    (fin : ∀ u w, (∀ i, i < sp.length → (spec sp i).valAt u i) → Has w0 w (resOf sp u (liveIds sp fun _ => true) ++ lf (decide (k0 < sp.length))) → wpList P ops Q (ops.toList.drop sp.length) (A u) w) :
    ∀ (f : Nat) (listed : Array Bool) (a' : Act) (w : World) (u : Nat → Value), RInv ops sp w0 lf k0 a listed a' w u → cntU sp.length listed = f → wpAny P .any ops Q (f + (ops.size - sp.length)) listed a' w
  | 0, listed, a', w, u, I, hc => by
    have hall : ∀ i, i < sp.length → listed.getD i false = true := fun i hi => by
      cases hl : listed.getD i false with
      | true => rfl
      | false =>
        have hm : i ∈ (List.range sp.length).filter fun i => !listed.getD i false := List.mem_filter.2 ⟨List.mem_range.2 hi, by rw [hl]; rfl⟩
        rw [List.eq_nil_of_length_eq_zero hc] at hm
        cases hm
    have hn : sp.length ≤ ops.size := by
      rcases Nat.lt_or_ge ops.size sp.length with h1 | h1
      · obtain ⟨o, T⟩ := relyB_told h ops.size h1
        have := (Array.getElem?_eq_some_iff.1 T.op).1
        omega
      · exact h1
    have hlist : listed = (List.replicate sp.length true ++ List.replicate (ops.size - sp.length) false).toArray := by
      apply Array.ext
      · rw [I.head.size]; simp; omega
      · intro j h1 h2
        rw [I.head.size] at h1
        by_cases hj : j < sp.length
        · have := hall j hj
          simp [I.head.size, h1] at this
          simp [this, List.getElem_append, hj]
        · have := I.head.tail j (by omega) h1
          simp [I.head.size, h1] at this
          simp [this, List.getElem_append, hj]
    have hact : a' = A u := by
      rw [← hA u]
      have hd : a'.defers = (putAll ops a u sp.length).defers := by rw [I.defers, putAll_defers]
      have htm : a'.tmps = (putAll ops a u sp.length).tmps := by
        apply Array.ext_getElem?
        intro t
        by_cases hex : ∃ j, j < sp.length ∧ dstAt ops j = some t
        · obtain ⟨j, hj, hdj⟩ := hex
          obtain ⟨oj, Tj⟩ := relyB_told h j hj
          by_cases hts : t < a.tmps.size
          · rw [I.set j hj (hall j hj) t hdj hts, putAll_set a u t hts _ j hj hdj (fun k hk hkj => Tj.alone k hk hkj t hdj)]
          · exact getElem?_none_size (by rw [I.size, putAll_size]) (by rw [putAll_size]; exact hts)
        · rw [I.same t (fun j hj _ hdj => hex ⟨j, hj, hdj⟩), putAll_same a u t _ (fun j hj hdj => hex ⟨j, hj, hdj⟩)]
      cases a'
      cases hpa : putAll ops a u sp.length
      rw [hpa] at hd htm
      simp only at hd htm
      rw [hd, htm]
    have hlv : (liveIds sp fun i => listed.getD i false) = liveIds sp fun _ => true := by
      unfold liveIds
      refine List.filter_congr fun i hi => ?_
      dsimp only
      rw [hall i (List.mem_range.1 hi)]
      congr 1
      rw [Bool.eq_iff_iff]
      simp only [List.all_eq_true]
      exact forall_congr' fun k => forall_congr' fun hk => by rw [hall k (List.mem_range.1 hk)]
    have hS := I.st
    rw [hlv] at hS
    have hk0 : listed.getD k0 false = decide (k0 < sp.length) := by
      by_cases hk : k0 < sp.length
      · rw [hall k0 hk, decide_eq_true hk]
      · rw [decide_eq_false hk]
        by_cases hk2 : k0 < ops.size
        · have := I.head.tail k0 (by omega) hk2
          exact getD_both this
        · rw [Array.getD_eq_getD_getElem?, Array.getElem?_eq_none (by rw [I.head.size]; omega)]
          rfl
    rw [hk0] at hS
    have hW := fin u w (fun i hi => I.vals i hi (hall i hi)) hS
    have hlen : (ops.toList.drop sp.length).length = ops.size - sp.length := by simp
    rw [Nat.zero_add, ← hlen, hact]
    refine wpAny_of_seq (ops.toList.drop sp.length) sp.length listed (A u) w (fun j => by rw [List.getElem?_drop, Array.getElem?_toList]) ?_ hW
    simp only [relyTailB, Bool.and_eq_true] at ht
    rw [hlen, hlist]
    exact ht.2
  | f + 1, listed, a', w, u, I, hc => by
    rw [show f + 1 + (ops.size - sp.length) = (f + (ops.size - sp.length)) + 1 by omega]
    have hex : ∃ i, i < sp.length ∧ listed.getD i false = false := by
      have : (List.range sp.length).filter (fun i => !listed.getD i false) ≠ [] := fun e => by
        unfold cntU at hc
        rw [e] at hc
        cases hc
      obtain ⟨i, hi⟩ := List.exists_mem_of_ne_nil _ this
      rw [List.mem_filter, List.mem_range] at hi
      exact ⟨i, hi.1, by simpa using hi.2⟩
    have hlt : ∀ i, i < sp.length → i < ops.size := fun i hi => by
      obtain ⟨o, T⟩ := relyB_told h i hi
      exact (Array.getElem?_eq_some_iff.1 T.op).1
    have hready : ∃ i, i ∈ Region.ready .any ops listed := by
      have key : ∀ i, i < sp.length → listed.getD i false = false → ∃ j, j ∈ Region.ready .any ops listed := by
        intro i
        induction i using Nat.strongRecOn with
        | _ i ih =>
          intro hi hl
          obtain ⟨o, T⟩ := relyB_told h i hi
          by_cases hc2 : ∃ e ∈ o.after, Region.binds .any e = true ∧ listed.getD e.on false = false
          · obtain ⟨e, he, hb, hel⟩ := hc2
            exact ih e.on (T.back e he hb) (Nat.lt_trans (T.back e he hb) hi) hel
          · refine ⟨i, mem_ready.2 ⟨getD_in (by rw [I.head.size]; exact hlt i hi) hl, o, T.op, fun e he hb => ?_⟩⟩
            cases hel : listed.getD e.on false with
            | true => rfl
            | false => exact absurd ⟨e, he, hb, hel⟩ hc2
      obtain ⟨i, hi, hl⟩ := hex
      exact key i hi hl
    obtain ⟨i0, hi0, hl0⟩ := hex
    have hhead : ∀ i, i ∈ Region.ready .any ops listed → i < sp.length := fun i hi => by
      simp only [relyTailB, Bool.and_eq_true, Bool.or_eq_true, decide_eq_true_eq] at ht
      rcases ht.1 with h1 | ⟨⟨h1, h2⟩, h3⟩
      · obtain ⟨_, o, ho, _⟩ := mem_ready.1 hi
        have := (Array.getElem?_eq_some_iff.1 ho).1
        omega
      · rcases Nat.lt_or_ge i sp.length with h4 | h4
        · exact h4
        · exact absurd hi (tail_waits h2 h3 h1 I.head _ i0 rfl hi0 (getD_in (by rw [I.head.size]; exact hlt i0 hi0) hl0) i h4)
    refine ⟨fun h0 => ?_, fun i hi => ?_⟩
    · obtain ⟨i, hi⟩ := hready
      rw [h0] at hi
      cases hi
    · have hin := hhead i hi
      have hun : listed.getD i false = false := getD_both (mem_ready.1 hi).1
      refine wpOp_mono (fun a'' w' h1 => ?_) (rely_step h hA hok I hin hi)
      obtain ⟨u', I'⟩ := h1
      refine rely_run h ht hA hok fin f _ a'' w' u' I' ?_
      have := cntU_set hin (by rw [I.head.size]; exact hlt i hin) hun
      omega

/-- A region that draws its order: each operation of its head told by itself, the rest in order. -/
theorem wp_rely2 {id : Nat} {w0 w : World} {lf : Bool → List Res} (k0 : Nat) {a : Act} {Q : Exit → Act → World → Prop} (S : Has w0 w (lf false)) (sp : List RSpec) (A : (Nat → Value) → Act) (hA : ∀ u, putAll ops a u sp.length = A u) (hm : P.follows .mixedOrders = true) (h : relyB ops sp = true) (ht : relyTailB ops sp.length = true)
    (live : List Nat) (hlive : liveIds sp (fun _ => true) = live) (hok : ∀ i, i < sp.length → if i = k0 then StepOK2 P ops sp w0 (lf false) (lf true) A i else ∀ b, StepOK2 P ops sp w0 (lf b) (lf b) A i)
    (fin : ∀ u w, (∀ i, i < sp.length → (spec sp i).valAt u i) → Has w0 w (resOf sp u live ++ lf (decide (k0 < sp.length))) → wpList P ops Q (ops.toList.drop sp.length) (A u) w) : (Code.region id ops true).wp P Q a w := by
  subst hlive
  refine wp_region_any hm ?_
  have hn : sp.length ≤ ops.size := by
    rcases Nat.lt_or_ge ops.size sp.length with h1 | h1
    · obtain ⟨o, T⟩ := relyB_told h ops.size h1
      have := (Array.getElem?_eq_some_iff.1 T.op).1
      omega
    · exact h1
  have hnone : ∀ i, ¬ (Array.replicate ops.size false).getD i false = true := fun i => by
    rw [getD_replicate_false]
    simp
  have hcnt : cntU sp.length (Array.replicate ops.size false) = sp.length := by
    unfold cntU
    rw [List.filter_eq_self.2 (fun i _ => by rw [getD_replicate_false]; rfl), List.length_range]
  have hrun := rely_run (Q := Q) h ht hA hok fin sp.length (Array.replicate ops.size false) a { w with drawn := w.drawn + 1 } (fun _ => undef) ?_ hcnt
  · rw [show sp.length + (ops.size - sp.length) = ops.size by omega] at hrun
    exact hrun
  · refine ⟨⟨by simp, fun j oj _ hl => absurd hl (hnone j), fun t _ htl => by simp [htl]⟩, fun i _ hl => absurd hl (hnone i), ?_, rfl, rfl, fun i _ hl => absurd hl (hnone i), fun t _ => rfl⟩
    have hlv : (liveIds sp fun i => (Array.replicate ops.size false).getD i false) = [] := by
      unfold liveIds
      rw [List.filter_eq_nil_iff]
      intro i _
      dsimp only
      rw [getD_replicate_false]
      simp
    rw [hlv, getD_replicate_false]
    exact S.drew

/-- .. where nothing else is written. -/
theorem wp_rely {id : Nat} {w0 w : World} {l : List Res} {a : Act} {Q : Exit → Act → World → Prop} (S : Has w0 w l) (sp : List RSpec) (A : (Nat → Value) → Act) (hA : ∀ u, putAll ops a u sp.length = A u) (hm : P.follows .mixedOrders = true) (h : relyB ops sp = true) (ht : relyTailB ops sp.length = true)
    (live : List Nat) (hlive : liveIds sp (fun _ => true) = live) (hok : ∀ i, i < sp.length → StepOK P ops sp w0 l A i)
    (fin : ∀ u w, (∀ i, i < sp.length → (spec sp i).valAt u i) → Has w0 w (resOf sp u live ++ l) → wpList P ops Q (ops.toList.drop sp.length) (A u) w) : (Code.region id ops true).wp P Q a w :=
  wp_rely2 (lf := fun _ => l) sp.length S sp A hA hm h ht live hlive (fun i hi => by rw [if_neg (by omega)]; exact fun _ => hok i hi) fin

/-- .. where operation k0 writes the first thing. -/
theorem wp_relyW {id : Nat} {w0 w : World} {e0 e1 : Res} {F : List Res} {a : Act} {Q : Exit → Act → World → Prop} (k0 : Nat) (S : Has w0 w (e0 :: F)) (sp : List RSpec) (A : (Nat → Value) → Act) (hA : ∀ u, putAll ops a u sp.length = A u) (hm : P.follows .mixedOrders = true) (h : relyB ops sp = true) (ht : relyTailB ops sp.length = true)
    (live : List Nat) (hlive : liveIds sp (fun _ => true) = live) (hk : k0 < sp.length) (hok : ∀ i, i < sp.length → if i = k0 then StepOK2 P ops sp w0 (e0 :: F) (e1 :: F) A i else ∀ r : Res, StepOK P ops sp w0 (r :: F) A i)
    (fin : ∀ u w, (∀ i, i < sp.length → (spec sp i).valAt u i) → Has w0 w (resOf sp u live ++ (e1 :: F)) → wpList P ops Q (ops.toList.drop sp.length) (A u) w) : (Code.region id ops true).wp P Q a w :=
  wp_rely2 (lf := fun b => if b then e1 :: F else e0 :: F) k0 S sp A hA hm h ht live hlive (fun i hi => by
    have := hok i hi
    by_cases hik : i = k0
    · rw [if_pos hik] at this ⊢
      exact this
    · rw [if_neg hik] at this ⊢
      intro b
      cases b
      · exact this e0
      · exact this e1) (by rw [decide_eq_true hk]; exact fin)
end

/-- The block that a pointer points into. -/
def ptrBlk : Value → Nat
  | .pointer (some a) => a.block
  | _ => 0

theorem does_val {P : Program} {ρ : Operand → Value} {o : Oper} {w w' : World} {v : Value} {Post : Value → World → Prop} (hr : (execOp ρ o).run P w = .ok (.value v) w') (h : Post v w') : does P ρ o w Post := by
  unfold does
  rw [hr]
  exact h

theorem does_unit {P : Program} {ρ : Operand → Value} {o : Oper} {w w' : World} {Post : Value → World → Prop} (hr : (execOp ρ o).run P w = .ok .skip w') (h : Post undef w') : does P ρ o w Post := by
  unfold does
  rw [hr]
  exact h

theorem does_call {P : Program} {ρ : Operand → Value} {o : Oper} {w w' : World} {f : FuncId} {args : Array Value} {R : Ending → World → Prop} {Post : Value → World → Prop} (hr : (execOp ρ o).run P w = .ok (.enter f args) w') (hc : Calls P f args w' R)
    (h : ∀ e w'', R e w'' → ∃ v, e = .returned v ∧ Post v w'') : does P ρ o w Post := by
  unfold does
  rw [hr]
  refine hc.mono fun e w'' he => ?_
  obtain ⟨v, rfl, hp⟩ := h e w'' he
  exact hp

theorem step_of {P : Program} {ops : Array Oper} {sp : List RSpec} {w0 : World} {l : List Res} {A : (Nat → Value) → Act} {i : Nat} {o : Oper} {deps eats keeps : List Nat} {val : (Nat → Value) → Value → Prop} {res : (Nat → Value) → Value → List Res}
    (hs : spec sp i = ⟨deps, eats, keeps, val, res⟩) (ho : ops[i]? = some o) (hg : o.guard = none)
    (h : ∀ (u : Nat → Value) (G : List Res) (w : World), (∀ j ∈ deps, (spec sp j).valAt u j) → Has w0 w (resOf sp u eats ++ (resOf sp u keeps ++ (l ++ G))) →
      does P (A u).eval o w fun v w' => val (mask deps u) v ∧ Has w0 w' (res (mask deps u) v ++ (resOf sp u keeps ++ (l ++ G)))) : StepOK P ops sp w0 l A i := by
  unfold StepOK StepOK2
  rw [ho, hs]
  intro u G w hf S
  rw [if_pos (by simp [Region.wanted, hg])]
  exact h u G w hf S

theorem step_of_g {P : Program} {ops : Array Oper} {sp : List RSpec} {w0 : World} {l : List Res} {A : (Nat → Value) → Act} {i : Nat} {o : Oper} {deps eats keeps : List Nat} {val : (Nat → Value) → Value → Prop} {res : (Nat → Value) → Value → List Res}
    (hs : spec sp i = ⟨deps, eats, keeps, val, res⟩) (ho : ops[i]? = some o)
    (h : ∀ (u : Nat → Value) (G : List Res) (w : World), (∀ j ∈ deps, (spec sp j).valAt u j) → Has w0 w (resOf sp u eats ++ (resOf sp u keeps ++ (l ++ G))) →
      Region.wanted o (yielded ops (A u).tmps) = true ∧ does P (A u).eval o w fun v w' => val (mask deps u) v ∧ Has w0 w' (res (mask deps u) v ++ (resOf sp u keeps ++ (l ++ G)))) : StepOK P ops sp w0 l A i := by
  unfold StepOK StepOK2
  rw [ho, hs]
  intro u G w hf S
  obtain ⟨h1, h2⟩ := h u G w hf S
  dsimp only
  rw [if_pos h1]
  exact h2

theorem step_ofW {P : Program} {ops : Array Oper} {sp : List RSpec} {w0 : World} {l l' : List Res} {A : (Nat → Value) → Act} {i : Nat} {o : Oper} {deps eats keeps : List Nat} {val : (Nat → Value) → Value → Prop} {res : (Nat → Value) → Value → List Res}
    (hs : spec sp i = ⟨deps, eats, keeps, val, res⟩) (ho : ops[i]? = some o) (hg : o.guard = none)
    (h : ∀ (u : Nat → Value) (G : List Res) (w : World), (∀ j ∈ deps, (spec sp j).valAt u j) → Has w0 w (resOf sp u eats ++ (resOf sp u keeps ++ (l ++ G))) →
      does P (A u).eval o w fun v w' => val (mask deps u) v ∧ Has w0 w' (res (mask deps u) v ++ (resOf sp u keeps ++ (l' ++ G)))) : StepOK2 P ops sp w0 l l' A i := by
  unfold StepOK2
  rw [ho, hs]
  intro u G w hf S
  rw [if_pos (by simp [Region.wanted, hg])]
  exact h u G w hf S

theorem step_of_gW {P : Program} {ops : Array Oper} {sp : List RSpec} {w0 : World} {l l' : List Res} {A : (Nat → Value) → Act} {i : Nat} {o : Oper} {deps eats keeps : List Nat} {val : (Nat → Value) → Value → Prop} {res : (Nat → Value) → Value → List Res}
    (hs : spec sp i = ⟨deps, eats, keeps, val, res⟩) (ho : ops[i]? = some o)
    (h : ∀ (u : Nat → Value) (G : List Res) (w : World), (∀ j ∈ deps, (spec sp j).valAt u j) → Has w0 w (resOf sp u eats ++ (resOf sp u keeps ++ (l ++ G))) →
      Region.wanted o (yielded ops (A u).tmps) = true ∧ does P (A u).eval o w fun v w' => val (mask deps u) v ∧ Has w0 w' (res (mask deps u) v ++ (resOf sp u keeps ++ (l' ++ G)))) : StepOK2 P ops sp w0 l l' A i := by
  unfold StepOK2
  rw [ho, hs]
  intro u G w hf S
  obtain ⟨h1, h2⟩ := h u G w hf S
  dsimp only
  rw [if_pos h1]
  exact h2

theorem does_append {P : Program} {a : Act} {w0 w : World} {F : List Res} {dst : Option Tmp} {ty : TypeId} {pos : String} {after : Array Edge} {guard : Option (Nat × Bool)} {Post : Value → World → Prop} (s x : Operand) (t : TypeId) (e : TypeId) (z : Value) (size bytes : Nat) (ht : P.underlying t = some (.slice e)) (hinfo : (P.info? e).map (fun i => (i.zero, i.size, i.bytes)) = some (some z, size, bytes)) (hzs : z.cells.size = size) (hsz : 0 < size)
    (v : Value) (n : Nat) (xs : List Value) (hs : a.eval s = v) (S : Has w0 w (row v e size n xs :: F)) (src : Value) (m : Nat) (news : List Value) (hx : a.eval x = src) (hsrc : Sl w size src m news) (h1 : ∀ u ∈ news, u.oneCell' = true)
    (h63 : n + m ≤ maxLen) (hbytes : (n + m) * bytes ≤ 140737488355328)
    (h : ∀ v' w', Has w0 w' (row v' e size (n + m) (xs ++ news) :: F) → Post v' w') :
    does P a.eval ⟨dst, .call { callee := .builtin .append, args := #[s, x], argTypes := #[t, t] }, ty, pos, after, guard⟩ w Post := by
  obtain ⟨i, hi, hz, hsize, hby⟩ := info_parts hinfo
  have hown : w.ownsRow 0 e size v n xs := S.holds (row v e size n xs) (by simp)
  obtain ⟨v', w', hr, ho, hg⟩ := run_append_grew (P := P) w 0 t ty e i z size bytes ht hi hz hsize hby hzs hsz v n xs hown src m news hsrc h1 h63 hbytes (Nat.zero_le _)
  refine does_val (v := v') (w' := w') ?_ (h v' w' ?_)
  · simp [execOp, resolve, invoke, builtin, hs, hx, hr, Result.andThen]
  · refine S.write hg.g.os hg.g.tape hg.g.output hg.g.size (fun k hk hkr => hg.g.block k hk (fun he => hkr (by simp [row, ← he]))) ho (fun g hgm => ?_)
    rcases hg.at' with h2 | h2 | ⟨k, h2, h3⟩
    · exact absurd hgm (by simp [row, h2])
    · exact .inl (by simpa only [row, h2] using hgm)
    · have : g = k := by simpa [row, h2] using hgm
      exact .inr (by omega)

theorem run_fn {P : Program} {a : Act} {w : World} {dst : Option Tmp} {ty : TypeId} {pos : String} {after : Array Edge} {guard : Option (Nat × Bool)} {f : FuncId} {fn : Func} {xs : List Operand} {ts : Array TypeId} {args : List Value}
    (hf : P.funcs[f]? = some fn) (hn : (fn.name == "runtime.NumGoroutine") = false) (hb : fn.body.isNone = false) (hx : xs.map a.eval = args) :
    (execOp a.eval ⟨dst, .call { callee := .value (.func f), args := xs.toArray, argTypes := ts }, ty, pos, after, guard⟩).run P w = .ok (.enter f args.toArray) w := by
  subst hx
  obtain ⟨b, hb'⟩ : ∃ b, fn.body = some b := by
    cases h : fn.body with
    | none => rw [h] at hb; cases hb
    | some b => exact ⟨b, rfl⟩
  have hn' : ¬ fn.name = "runtime.NumGoroutine" := by simpa using hn
  simp [execOp, resolve, Act.eval, Deferred.ofValue, invoke, callFunc, hf, hn', hb', Result.andThen]

theorem does_fn {P : Program} {a : Act} {w : World} {dst : Option Tmp} {ty : TypeId} {pos : String} {after : Array Edge} {guard : Option (Nat × Bool)} {f : FuncId} {fn : Func} {xs : List Operand} {ts : Array TypeId} {args : List Value} {R : Ending → World → Prop} {Post : Value → World → Prop}
    (hf : P.funcs[f]? = some fn) (hn : (fn.name == "runtime.NumGoroutine") = false) (hb : fn.body.isNone = false) (hc : Calls P f args.toArray w R) (hx : xs.map a.eval = args)
    (h : ∀ e w'', R e w'' → ∃ v, e = .returned v ∧ Post v w'') : does P a.eval ⟨dst, .call { callee := .value (.func f), args := xs.toArray, argTypes := ts }, ty, pos, after, guard⟩ w Post :=
  does_call (run_fn hf hn hb hx) hc h

theorem does_alloc {P : Program} {a : Act} {w0 w : World} {l : List Res} {dst : Option Tmp} {ty : TypeId} {pos : String} {after : Array Edge} {guard : Option (Nat × Bool)} {Post : Value → World → Prop} (S : Has w0 w l) (t : TypeId) (z : Value) (cs : Array Value) (hz : (P.info? t).map (·.zero) = some (some z)) (hc : z.cells = cs)
    (h : ∀ g w', Has w0 w' (blk g (.cells cs t (0, 0)) :: l) → Post (.pointer (some ⟨g, 0, none⟩)) w') : does P a.eval ⟨dst, .alloc t, ty, pos, after, guard⟩ w Post := by
  subst hc
  refine does_val (v := .pointer (some ⟨w.heap.size, 0, none⟩)) (w' := w.alloc (.cells z.cells t)) ?_ (h _ _ (S.alloc _ _))
  simp only [execOp, Sem.run_bind, run_alloc t z hz, Result.andThen_ok, Sem.run_pure]
end Go.Proofs.YtioonimpobcglaaDoor
