/- Several texts under one header: what the claim needs of RcM, RelyD, RpR. No condition but those that each names. -/
import Derived.Test.YtfhkmmagpnojmaaDoorYE1
import Derived.Test.YtfhkmmagpnojmaaDoorYE5
import Derived.Test.YtfhkmmagpnojmaaDoorYE4
import Derived.Test.YtfhkmmagpnojmaaDoorYE7
import Derived.ArgAppend
import Derived.Deep.Cut
import Derived.Test.YtfhkmmagpnojmaaDoorYE6
import Derived.Test.YtfhkmmagpnojmaaDoorYE9
set_option linter.unusedSimpArgs false
set_option linter.unusedVariables false

/- Records in memory of one's own: parts, append, copies, equality. No condition. -/
namespace Go.Proofs.YtfhkmmagpnojmaaDoor
open Go.RowKit

section
variable {P : Program} {ops : Array Oper} {rest : List Oper} {a : Act} {w0 w : World} {l F : List Res} {Q : Exit → Act → World → Prop} {dst : Option Tmp} {ty : TypeId} {pos : String} {after : Array Edge} {gd : Option (Nat × Bool)} {Post : Value → World → Prop}

/-- append onto a slice that has no room, of somebody else. -/
theorem run_append_full (w : World) (t ty e : TypeId) (z : Value) (size bytes : Nat) (ht : P.underlying t = some (.slice e)) (hinfo : (P.info? e).map (fun i => (i.zero, i.size, i.bytes)) = some (some z, size, bytes)) (hzs : z.cells.size = size) (hsz : 0 < size)
    (ao : Option Addr) (n : Nat) (xs : List Value) (h : Sl w size (.slice ao n n) n xs) (src : Value) (m : Nat) (news : List Value) (hsrc : Sl w size src m news) (hm : 0 < m) (h1 : ∀ u ∈ news, u.oneCell' = true)
    (h63 : n + m ≤ maxLen) (hbytes : (n + m) * bytes ≤ 140737488355328) :
    ∃ v' w', (Builtin.append_ #[t, t] ty #[.slice ao n n, src]).run P w = .ok v' w' ∧ w'.ownsRow w.heap.size e size v' (n + m) (xs ++ news) ∧ Below w.heap.size w w' := by
  obtain ⟨i, hi, hz, hsize, hby⟩ := info_parts hinfo
  obtain ⟨a1, c1, rfl, hmc, hcm⟩ := hsrc.shape
  cases ao with
  | none =>
    obtain ⟨rfl, _, rfl⟩ := h.empty
    obtain ⟨v', w', hr, ho, hg⟩ := run_append_grew (P := P) w w.heap.size t ty e i z size bytes ht hi hz hsize hby hzs hsz (.slice none 0 0) 0 [] (World.ownsRow_nil w _ e size) _ m news hsrc h1 h63 hbytes (Nat.le_refl _)
    exact ⟨v', w', hr, ho, hg.below (Nat.le_refl _) (fun k hk => by cases hk)⟩
  | some b =>
    cases a1 with
    | none =>
      obtain ⟨rfl, _, _⟩ := hsrc.empty
      omega
    | some ad =>
      obtain ⟨v', w', hr, ho, hg⟩ := run_append_arg_grows (P := P) w t ty e i z size bytes ht hi hz hsize hby hzs hsz b n n xs h.1 h.cellsAt ad m c1 news hsrc.1 hsrc.cellsAt (by omega) h63 hbytes
      exact ⟨v', w', hr, ho, (Below.refl _ w).grown hg (Nat.le_refl _) (fun k hk => by cases hk)⟩
theorem does_appendX (S : Has w0 w l) (s x : Operand) (t : TypeId) (e : TypeId) (z : Value) (size bytes : Nat) (ht : P.underlying t = some (.slice e)) (hinfo : (P.info? e).map (fun i => (i.zero, i.size, i.bytes)) = some (some z, size, bytes)) (hzs : z.cells.size = size) (hsz : 0 < size)
    (ao : Option Addr) (n : Nat) (xs : List Value) (hs : a.eval s = .slice ao n n) (hv : Sl w size (.slice ao n n) n xs) (src : Value) (m : Nat) (news : List Value) (hx : a.eval x = src) (hsrc : Sl w size src m news) (hm : 0 < m) (h1 : ∀ u ∈ news, u.oneCell' = true)
    (h63 : n + m ≤ maxLen) (hbytes : (n + m) * bytes ≤ 140737488355328)
    (h : ∀ v' w', Has w0 w' (row v' e size (n + m) (xs ++ news) :: l) → Post v' w') :
    does P a.eval ⟨dst, .call { callee := .builtin .append, args := #[s, x], argTypes := #[t, t] }, ty, pos, after, gd⟩ w Post := by
  obtain ⟨v', w', hr, ho, hb⟩ := run_append_full (P := P) w t ty e z size bytes ht hinfo hzs hsz ao n xs hv src m news hsrc hm h1 h63 hbytes
  refine does_val (v := v') (w' := w') ?_ (h v' w' (S.call (Has.of_own hb ho)))
  simp [execOp, resolve, invoke, builtin, hs, hx, hr, Result.andThen]
theorem run_cutLHM (t e s : Nat) (ht : P.underlying t = some (.slice e)) (hs : (P.info? e).map (·.size) = some s) (a0 : Option Addr) (n c : Nat) (k k' k2 : IntKind) (i j m : Int) (lo hi' mx : Nat) (hi : i = (lo : Int)) (hj : j = (hi' : Int)) (hm : m = (mx : Int)) (h1 : lo ≤ hi') (h2 : hi' ≤ mx) (hl : mx ≤ c) (w : World) :
    (Instr.sliceAt t (.slice a0 n c) (some (.int k i)) (some (.int k' j)) (some (.int k2 m))).run P w = .ok (.slice (cutA a0 mx lo s) (hi' - lo) (mx - lo)) w := by
  subst hi
  subst hj
  subst hm
  have he : P.elem t = e := by simp [Program.elem, ht]
  have ht' : P.underlying t = some (.slice (P.elem t)) := by rw [he]; exact ht
  cases hq : P.info? e with
  | none => simp [hq] at hs
  | some i =>
    have h2 : i.size = s := by simpa [hq] using hs
    rw [run_sliceAt_slice (w := w) t _ _ _ _ ht', run_slice_lhm (w := w) t a0 n c ht' k k' k2 lo hi' mx (by omega) (by omega) (by omega) (by omega)]
    simp [sizeOf, typeInfo, he, hq, h2, sliced, cutA]
/-- 's[l:h:m]' -/
theorem step_cutLHM (t e s : Nat) (x y z u : Operand) (a0 : Option Addr) (n c : Nat) (k k' k2 : IntKind) (i j m : Int) (lo hi' mx : Nat) (hx : a.eval x = .slice a0 n c) (hy : a.eval y = .int k i) (hz : a.eval z = .int k' j) (hu : a.eval u = .int k2 m) (hi : i = (lo : Int)) (hj : j = (hi' : Int)) (hm : m = (mx : Int)) (h1 : lo ≤ hi') (h2 : hi' ≤ mx) (hl : mx ≤ c) (ht : P.underlying t = some (.slice e)) (hs : (P.info? e).map (·.size) = some s)
    (hw : Region.wanted ⟨dst, .slice t x (some y) (some z) (some u), ty, pos, after, gd⟩ (yielded ops a.tmps) = true)
    (h : wpList P ops Q rest (a.put dst (.slice (cutA a0 mx lo s) (hi' - lo) (mx - lo))) w) : wpList P ops Q (⟨dst, .slice t x (some y) (some z) (some u), ty, pos, after, gd⟩ :: rest) a w := by
  refine step_val (v := .slice (cutA a0 mx lo s) (hi' - lo) (mx - lo)) hw ?_ h
  have := run_cutLHM (P := P) t e s ht hs a0 n c k k' k2 i j m lo hi' mx hi hj hm h1 h2 hl w
  simp only [execOp, hx, hy, hz, hu, Option.map_some, Option.map_none, Sem.run_bind, this, Result.andThen_ok, Sem.run_pure]
theorem Sl.cutM {w : World} {size n c : Nat} {a : Option Addr} {xs : List Value} (h : Sl w size (.slice a n c) n xs) (lo : Nat) (hn : lo ≤ n) :
    Sl w size (.slice (cutA a n lo size) (n - lo) (n - lo)) (n - lo) (xs.drop (lo * size)) := by
  have hx := h.1
  have hle : lo * size ≤ n * size := Nat.mul_le_mul_right _ hn
  rcases h.2 with ⟨a0, hv, hn0⟩ | ⟨b, off, cap, hv, h1, h2, hc⟩
  · simp only [Value.slice.injEq] at hv
    obtain ⟨rfl, rfl, rfl⟩ := hv
    obtain rfl : lo = 0 := by omega
    refine ⟨by simp [hx], .inl ⟨_, rfl, rfl⟩⟩
  · simp only [Value.slice.injEq] at hv
    obtain ⟨rfl, _, rfl⟩ := hv
    have hl : (xs.drop (lo * size)).length = (n - lo) * size := by rw [List.length_drop, hx, Nat.sub_mul]
    by_cases hcl : n = lo
    · subst hcl
      refine ⟨hl, .inl ⟨_, by rw [Nat.sub_self], by rw [Nat.sub_self]⟩⟩
    · refine ⟨hl, .inr ⟨b, off + lo * size, n - lo, ?_, Nat.le_refl _, by omega, fun i hi => ?_⟩⟩
      · unfold cutA
        rw [if_neg hcl, Option.map_some]
        unfold Addr.add
        split <;> simp_all
      · rw [hl] at hi
        have := hc (lo * size + i) (by rw [hx]; rw [Nat.sub_mul] at hi; omega)
        rw [Nat.add_assoc, this]
        simp
end

theorem drop_flat {α : Type} (f : α → List Value) (s : Nat) (hf : ∀ x, (f x).length = s) : ∀ (xs : List α) (i : Nat), (xs.flatMap f).drop (i * s) = (xs.drop i).flatMap f
  | _, 0 => by simp
  | [], i + 1 => by simp
  | x :: xs, i + 1 => by
    rw [List.flatMap_cons, List.drop_succ_cons, ← drop_flat f s hf xs i, List.drop_append, hf, List.drop_of_length_le (by rw [hf, Nat.add_mul]; omega), List.nil_append]
    congr 1
    rw [Nat.add_mul]
    omega
theorem Rs.cutM {w : World} {n c : Nat} {a : Option Addr} {l : List Rcd} (h : Sl w 35 (.slice a n c) n (l.flatMap rcdL)) (hl : l.length = n) (lo : Nat) (hn : lo ≤ n) :
    Sl w 35 (.slice (cutA a n lo 35) (n - lo) (n - lo)) (n - lo) ((l.drop lo).flatMap rcdL) := by
  have := Sl.cutM h lo hn
  rwa [drop_flat rcdL 35 rcdL_length] at this
abbrev rowRc (v : Value) (l : List Rcd) : Res := row v 50 35 l.length (l.flatMap rcdL)
theorem rcdL_all (l : List Rcd) : ∀ u ∈ l.flatMap rcdL, u.oneCell' = true := by
  intro u hu
  obtain ⟨m, _, hm⟩ := List.mem_flatMap.1 hu
  have := rcdL_one m
  rw [Array.all_eq_true'] at this
  exact this u (by simpa using hm)
set_option maxRecDepth 100000 in
theorem infoRc : (Tryd.prog.info? 50).map (fun i => (i.zero, i.size, i.bytes)) = some (some (.agg (rcdL rcdZ).toArray), 35, 56) := by kernel_rfl
set_option maxRecDepth 100000 in
theorem infoRc2 : (Tryd.prog.info? 50).map (fun i => (i.zero, i.size)) = some (some (.agg (rcdL rcdZ).toArray), 35) := by kernel_rfl
/-- append of records onto records of one's own. -/
theorem step_appendRc {ops : Array Oper} {rest : List Oper} {a : Act} {w0 w : World} {l F : List Res} {Q : Exit → Act → World → Prop} {dst : Option Tmp} {ty : TypeId} {pos : String} {after : Array Edge} {gd : Option (Nat × Bool)} (S : Has w0 w l) (s x : Operand)
    (v : Value) (xs : List Rcd) (hs : a.eval s = v) (hp : Pick l (rowRc v xs) F) (src : Value) (ys : List Rcd) (hx : a.eval x = src) (hsrc : Sl w 35 src ys.length (ys.flatMap rcdL)) (hlen : (xs.length + ys.length) * 56 ≤ 140737488355328)
    (hw : Region.wanted ⟨dst, .call { callee := .builtin .append, args := #[s, x], argTypes := #[31, 31] }, ty, pos, after, gd⟩ (yielded ops a.tmps) = true)
    (h : ∀ v' w', Has w0 w' (rowRc v' (xs ++ ys) :: F) → wpList Tryd.prog ops Q rest (a.put dst v') w') :
    wpList Tryd.prog ops Q (⟨dst, .call { callee := .builtin .append, args := #[s, x], argTypes := #[31, 31] }, ty, pos, after, gd⟩ :: rest) a w := by
  refine step_append S s x 31 50 (.agg (rcdL rcdZ).toArray) 35 56 Tryd.underlying31 infoRc rfl (by decide) v xs.length (xs.flatMap rcdL) hs hp src ys.length (ys.flatMap rcdL) hx hsrc (rcdL_all _) (by unfold maxLen; omega) hlen hw ?_
  intro v' w' S'
  refine h v' w' ?_
  rw [← List.flatMap_append, ← List.length_append] at S'
  exact S'
theorem does_appendRc {a : Act} {w0 w : World} {F : List Res} {dst : Option Tmp} {ty : TypeId} {pos : String} {after : Array Edge} {guard : Option (Nat × Bool)} {Post : Value → World → Prop} (s x : Operand)
    (v : Value) (xs : List Rcd) (hs : a.eval s = v) (S : Has w0 w (rowRc v xs :: F)) (src : Value) (ys : List Rcd) (hx : a.eval x = src) (hsrc : Sl w 35 src ys.length (ys.flatMap rcdL)) (hlen : (xs.length + ys.length) * 56 ≤ 140737488355328)
    (h : ∀ v' w', Has w0 w' (rowRc v' (xs ++ ys) :: F) → Post v' w') :
    does Tryd.prog a.eval ⟨dst, .call { callee := .builtin .append, args := #[s, x], argTypes := #[31, 31] }, ty, pos, after, guard⟩ w Post := by
  refine does_append s x 31 50 (.agg (rcdL rcdZ).toArray) 35 56 Tryd.underlying31 infoRc rfl (by decide) v xs.length (xs.flatMap rcdL) hs S src ys.length (ys.flatMap rcdL) hx hsrc (rcdL_all _) (by unfold maxLen; omega) hlen ?_
  intro v' w' S'
  refine h v' w' ?_
  rw [← List.flatMap_append, ← List.length_append] at S'
  exact S'
/-- append of records onto somebody else's records, that have no room. -/
theorem does_appendRcX {a : Act} {w0 w : World} {l : List Res} {dst : Option Tmp} {ty : TypeId} {pos : String} {after : Array Edge} {guard : Option (Nat × Bool)} {Post : Value → World → Prop} (S : Has w0 w l) (s x : Operand)
    (ao : Option Addr) (n : Nat) (xs : List Rcd) (hs : a.eval s = .slice ao n n) (hn : xs.length = n) (hv : Sl w 35 (.slice ao n n) n (xs.flatMap rcdL)) (src : Value) (ys : List Rcd) (hx : a.eval x = src) (hsrc : Sl w 35 src ys.length (ys.flatMap rcdL)) (hy : 0 < ys.length) (hlen : (n + ys.length) * 56 ≤ 140737488355328)
    (h : ∀ v' w', Has w0 w' (rowRc v' (xs ++ ys) :: l) → Post v' w') :
    does Tryd.prog a.eval ⟨dst, .call { callee := .builtin .append, args := #[s, x], argTypes := #[31, 31] }, ty, pos, after, guard⟩ w Post := by
  refine does_appendX S s x 31 50 (.agg (rcdL rcdZ).toArray) 35 56 Tryd.underlying31 infoRc rfl (by decide) ao n (xs.flatMap rcdL) hs hv src ys.length (ys.flatMap rcdL) hx hsrc hy (rcdL_all _) (by unfold maxLen; omega) hlen ?_
  intro v' w' S'
  refine h v' w' ?_
  subst hn
  rw [← List.flatMap_append, ← List.length_append] at S'
  exact S'
set_option maxRecDepth 100000 in
theorem eqRc (a b : Rcd) (w : World) : (Op.equalIn 10000 50 (.agg (rcdL a).toArray) (.agg (rcdL b).toArray)).run Tryd.prog w = .ok (decide (a = b)) w := by
  have hp : Tryd.prog.stoodInHeld 50 = false := by kernel_rfl
  have hf : Tryd.prog.underlying 50 = some (.struct (Tryd.prog.fieldsOf 50)) := by kernel_rfl
  have e : decide (a = b) = (((a.tick.toNat : Int) == (b.tick.toNat : Int)) && (((a.kind.toNat : Int) == (b.kind.toNat : Int)) && ((a.code.v == b.code.v) && (decide (a.link = b.link) && true)))) := by
    rw [beqU8, beqU64, beqI, Bool.eq_iff_iff]
    simp only [decide_eq_true_eq, Bool.and_eq_true, and_true]
    constructor
    · rintro rfl; exact ⟨rfl, rfl, rfl, rfl⟩
    · rintro ⟨h1, h2, h3, h4⟩
      exact Rcd.ext' h1 h2 h3 h4
  have htag : ∀ t : Rcd, (rcdL t).toArray.extract 3 (3 + 32) = (t.link.map by8).toArray := fun t => by
    have : (t.link.map by8).length = 32 := by simp [t.len]
    apply Array.ext'
    simp only [rcdL, Array.toList_extract, List.extract_eq_take_drop]
    show ((t.link.map by8).take 32) = _
    rw [List.take_of_length_le (by omega)]
  rw [e, run_equalIn_agg (P := Tryd.prog) w 9999 50 _ _ hf hp]
  unfold Program.fieldsOf
  rw [Tryd.underlying50]
  exact eqFields_step w 9999 _ _ _ _ rfl _ _ (run_part1 w _ _ _ _ _ Tryd.underlying23 rfl rfl) (run_part1 w _ _ _ _ _ Tryd.underlying23 rfl rfl) _ _ (run_equalIn_int w 9998 _ _ _ _ _ Tryd.underlying23)
    (eqFields_step w 9999 _ _ _ _ rfl _ _ (run_part1 w _ _ _ _ _ Tryd.underlying5 rfl rfl) (run_part1 w _ _ _ _ _ Tryd.underlying5 rfl rfl) _ _ (run_equalIn_int w 9998 _ _ _ _ _ Tryd.underlying5)
    (eqFields_step w 9999 _ _ _ _ rfl _ _ (run_part1 w _ _ _ _ _ Tryd.underlying24 rfl rfl) (run_part1 w _ _ _ _ _ Tryd.underlying24 rfl rfl) _ _ (run_equalIn_int w 9998 _ _ _ _ _ Tryd.underlying24)
    (eqFields_step w 9999 _ _ _ _ rfl _ _ (run_partA w _ _ _ 32 _ _ Tryd.underlying22 rfl kR (htag a)) (run_partA w _ _ _ 32 _ _ Tryd.underlying22 rfl kR (htag b)) _ _
      (run_equalIn_map by8 w 9998 _ _ 32 Tryd.underlying22 kR (isAgg_int Tryd.underlying5) (fun a b w => eqIn_by8 9997 _ Tryd.underlying5 a b w) a.link b.link a.len b.len)
    (eqFields_nil w 9999 _ _))))
theorem neqRc (a b : Rcd) (w : World) : (binOp .neq 50 (.agg (rcdL a).toArray) (.agg (rcdL b).toArray)).run Tryd.prog w = .ok (.bool (!decide (a = b))) w := by
  rw [run_neq_struct, eqRc, Result.andThen_ok]
theorem eqGuardRc : Tryd.prog.eqGuardType Tryd.prog.depth 50 = false := by kernel_rfl
def MadeRc (w : World) (l : List Rcd) (e : Ending) (w' : World) : Prop := ∃ v, e = .returned v ∧ Has w w' [rowRc v l]
theorem Has.nilRc {w0 w : World} {l : List Res} (S : Has w0 w l) : Has w0 w (rowRc (.slice none 0 0) [] :: l) := S.nil_row _ _
end Go.Proofs.YtfhkmmagpnojmaaDoor

/- A region that draws in which two operations take outer things of their own. No condition. -/
namespace Go.Proofs.YtfhkmmagpnojmaaDoor
open Go.RowKit

structure RInvD (ops : Array Oper) (sp : List RSpec) (w0 : World) (lf : Array Bool → List Res) (a : Act) (listed : Array Bool) (a' : Act) (w : World) (u : Nat → Value) : Prop where
  head : HeadInv .any ops sp.length listed
  vals : ∀ i, i < sp.length → listed.getD i false = true → (spec sp i).valAt u i
  st : Has w0 w (resOf sp u (liveIds sp fun i => listed.getD i false) ++ lf listed)
  defers : a'.defers = a.defers
  size : a'.tmps.size = a.tmps.size
  set : ∀ i, i < sp.length → listed.getD i false = true → ∀ d, dstAt ops i = some d → d < a.tmps.size → a'.tmps[d]? = some (u i)
  same : ∀ t, (∀ i, i < sp.length → listed.getD i false = true → dstAt ops i ≠ some t) → a'.tmps[t]? = a.tmps[t]?
section
variable {P : Program} {Bad : List PanicEntry → World → Prop} {ops : Array Oper} {sp : List RSpec}

/-- One operation that may come up comes up. -/
theorem rely_stepD {w0 : World} {lf : Array Bool → List Res} {a : Act} {A : (Nat → Value) → Act} {Q : Exit → Act → World → Prop} (hBad : ∀ c a2 w2, a2.defers = a.defers → Bad c w2 → Q (.panic c) a2 w2) (h : relyB ops sp = true) (hA : ∀ u, putAll ops a u sp.length = A u) (hok : ∀ i, i < sp.length → ∀ q : Array Bool, q.size = ops.size → q.getD i false = false → StepOKB P Bad ops sp w0 (lf q) (lf (q.setIfInBounds i true)) A i)
    {listed : Array Bool} {a' : Act} {w : World} {u : Nat → Value} (I : RInvD ops sp w0 lf a listed a' w u) {i : Nat} (hi : i < sp.length) (hr : i ∈ Region.ready .any ops listed) :
    wpOp P ops Q i (fun a'' w' => ∃ u', RInvD ops sp w0 lf a (listed.setIfInBounds i true) a'' w' u') a' w := by
  obtain ⟨o, T⟩ := relyB_told h i hi
  obtain ⟨hun, o', ho', hall⟩ := mem_ready.1 hr
  obtain rfl : o' = o := Option.some.inj (ho'.symm.trans T.op)
  have hunF : listed.getD i false = false := getD_both hun
  have hdep := deps_listed h I.head i hi (fun o'' ho'' e he hb => by
    obtain rfl : o'' = o' := Option.some.inj (ho''.symm.trans T.op)
    exact hall e he hb)
  have hdn : ∀ j ∈ (spec sp i).deps, j < sp.length := fun j hj => Nat.lt_trans (T.lt j hj) hi
  -- who is listed speaks of nobody who is not
  have hnot : ∀ j, j < sp.length → listed.getD j false = true → i ∉ (spec sp j).deps := fun j hj hl hm => by
    have hcl := deps_listed h I.head j hj (fun o'' ho'' e he hb => I.head.closed j o'' ho'' hl e he hb) i hm
    rw [hunF] at hcl
    cases hcl
  -- what the frame shows
  have hag : Agree ops o' a' (A u) := by
    refine ⟨fun t ht => ?_⟩
    rw [← hA u]
    by_cases hex : ∃ j, j < sp.length ∧ dstAt ops j = some t
    · obtain ⟨j, hj, hdj⟩ := hex
      have hjd := T.looks t ht j hj hdj
      obtain ⟨oj, Tj⟩ := relyB_told h j hj
      by_cases hts : t < a.tmps.size
      · rw [I.set j hj (hdep j hjd) t hdj hts, putAll_set a u t hts _ j hj hdj (fun k hk hkj => Tj.alone k hk hkj t hdj)]
      · exact getElem?_none_size (by rw [I.size, putAll_size]) (by rw [putAll_size]; exact hts)
    · rw [I.same t (fun j hj _ hdj => hex ⟨j, hj, hdj⟩), putAll_same a u t _ (fun j hj hdj => hex ⟨j, hj, hdj⟩)]
  -- the things
  have hlv : ∀ j ∈ (spec sp i).eats ++ (spec sp i).keeps, j ∈ liveIds sp (fun k => listed.getD k false) := fun j hj => by
    have hjd := T.sub j hj
    refine liveIds_mem.2 ⟨hdn j hjd, hdep j hjd, fun k hk hlk hm => ?_⟩
    have hki : k ≠ i := fun e => by rw [e, hunF] at hlk; cases hlk
    rcases List.mem_append.1 hj with h1 | h1
    · exact T.eat k hk hki j h1 hm
    · exact hnot k hk hlk (T.kept k hk hki j h1 hm)
  obtain ⟨rest, hrest⟩ : ∃ rest, rest = (liveIds sp (fun k => listed.getD k false)).filter (fun j => !((spec sp i).eats ++ (spec sp i).keeps).contains j) := ⟨_, rfl⟩
  have hrm : ∀ j, j ∈ rest ↔ j ∈ liveIds sp (fun k => listed.getD k false) ∧ j ∉ (spec sp i).eats ++ (spec sp i).keeps := fun j => by
    rw [hrest, List.mem_filter]
    simp
  have hrn : rest.Nodup := by rw [hrest]; exact (liveIds_nodup _ _).filter _
  have hperm : (liveIds sp (fun k => listed.getD k false)).Perm (((spec sp i).eats ++ (spec sp i).keeps) ++ rest) := by
    refine perm_of_mem (liveIds_nodup _ _) (List.nodup_append.2 ⟨T.nodup, hrn, fun x hx y hy e => ?_⟩) (fun j => ?_)
    · subst e
      exact ((hrm x).1 hy).2 hx
    · rw [List.mem_append, hrm]
      constructor
      · intro hj
        by_cases hm : j ∈ (spec sp i).eats ++ (spec sp i).keeps
        · exact .inl hm
        · exact .inr ⟨hj, hm⟩
      · rintro (hj | hj)
        · exact hlv j hj
        · exact hj.1
  obtain ⟨l1, hl1⟩ : ∃ l1, l1 = lf listed := ⟨_, rfl⟩
  obtain ⟨l2, hl2⟩ : ∃ l2, l2 = lf (listed.setIfInBounds i true) := ⟨_, rfl⟩
  have hst := I.st
  rw [← hl1] at hst
  have hS : Has w0 w (resOf sp u (spec sp i).eats ++ (resOf sp u (spec sp i).keeps ++ (l1 ++ resOf sp u rest))) := by
    refine hst.perm (((resOf_perm hperm).append_right l1).trans ?_)
    rw [resOf_append, resOf_append]
    simp only [List.append_assoc]
    exact (List.Perm.refl _).append ((List.Perm.refl _).append List.perm_append_comm)
  have hstep : StepOKB P Bad ops sp w0 l1 l2 A i := by
    rw [hl1, hl2]
    exact hok i hi listed I.head.size hunF
  unfold StepOKB at hstep
  rw [T.op] at hstep
  simp only at hstep
  have hfin := hstep u (resOf sp u rest) w (fun j hj => I.vals j (hdn j hj) (hdep j hj)) hS
  -- what is left
  have hnext : ∀ v w', ((spec sp i).val (mask (spec sp i).deps u) v ∧ Has w0 w' ((spec sp i).res (mask (spec sp i).deps u) v ++ (resOf sp u (spec sp i).keeps ++ (l2 ++ resOf sp u rest)))) →
      ∃ u', RInvD ops sp w0 lf a (listed.setIfInBounds i true) (a'.put o'.dst v) w' u' := by
    rintro v w' ⟨hv, hS'⟩
    obtain ⟨u', hu'⟩ : ∃ u' : Nat → Value, u' = fun j => if j = i then v else u j := ⟨_, rfl⟩
    have hui : u' i = v := by rw [hu']; simp
    have huj : ∀ j, j ≠ i → u' j = u j := fun j hj => by rw [hu']; simp [hj]
    have hmi : mask (spec sp i).deps u' = mask (spec sp i).deps u := mask_eq fun j hj => huj j (by have := T.lt j hj; omega)
    have hmj : ∀ j, j < sp.length → listed.getD j false = true → mask (spec sp j).deps u' = mask (spec sp j).deps u := fun j hj hl => mask_eq fun k hk => huj k (fun e => hnot j hj hl (e ▸ hk))
    have hold : ∀ j, (listed.setIfInBounds i true).getD j false = true → j ≠ i → listed.getD j false = true := fun j hj hji => by rw [getD_set_ne false (Ne.symm hji)] at hj; exact hj
    have hsz : i < listed.size := by rw [I.head.size]; exact (Array.getElem?_eq_some_iff.1 T.op).1
    have hnew : (listed.setIfInBounds i true).getD i false = true := by simp [hsz]
    have hrj : ∀ j, j < sp.length → listed.getD j false = true → j ≠ i → (spec sp j).resAt u' j = (spec sp j).resAt u j := fun j hj hl hji => by
      unfold RSpec.resAt
      rw [hmj j hj hl, huj j hji]
    have hdi : o'.dst = dstAt ops i := by unfold dstAt; rw [T.op]; rfl
    refine ⟨u', ⟨I.head.set hr hi, ?_, ?_, ?_, ?_, ?_, ?_⟩⟩
    · intro j hj hl
      by_cases hji : j = i
      · subst hji
        unfold RSpec.valAt
        rw [hmi, hui]
        exact hv
      · have := I.vals j hj (hold j hl hji)
        unfold RSpec.valAt at this ⊢
        rw [hmj j hj (hold j hl hji), huj j hji]
        exact this
    · have hp2 : (liveIds sp (fun k => (listed.setIfInBounds i true).getD k false)).Perm (i :: ((spec sp i).keeps ++ rest)) := by
        have hkr : ∀ j, j ∈ (spec sp i).keeps ++ rest ↔ j ∈ liveIds sp (fun k => listed.getD k false) ∧ j ∉ (spec sp i).eats := fun j => by
          rw [List.mem_append, hrm, List.mem_append]
          have hdis : j ∈ (spec sp i).keeps → j ∉ (spec sp i).eats := fun h1 h2 => (List.nodup_append.1 T.nodup).2.2 j h2 j h1 rfl
          constructor
          · rintro (h1 | h1)
            · exact ⟨hlv j (List.mem_append_right _ h1), hdis h1⟩
            · exact ⟨h1.1, fun h2 => h1.2 (.inl h2)⟩
          · rintro ⟨h1, h2⟩
            by_cases hk : j ∈ (spec sp i).keeps
            · exact .inl hk
            · exact .inr ⟨h1, fun h3 => h3.elim h2 hk⟩
        have hin : i ∉ (spec sp i).keeps ++ rest := fun hm => by
          have := (liveIds_mem.1 ((hkr i).1 hm).1).2.1
          rw [hunF] at this
          cases this
        refine perm_of_mem (liveIds_nodup _ _) (List.nodup_cons.2 ⟨hin, ?_⟩) (fun j => ?_)
        · refine List.nodup_append.2 ⟨(List.nodup_append.1 T.nodup).2.1, hrn, fun x hx y hy e => ?_⟩
          subst e
          exact ((hrm x).1 hy).2 (List.mem_append_right _ hx)
        · rw [List.mem_cons, hkr, liveIds_mem, liveIds_mem]
          constructor
          · rintro ⟨h1, h2, h3⟩
            by_cases hji : j = i
            · exact .inl hji
            · refine .inr ⟨⟨h1, hold j h2 hji, fun k hk hlk => h3 k hk (getD_set_true hlk)⟩, h3 i hi hnew⟩
          · rintro (rfl | ⟨⟨h1, h2, h3⟩, h4⟩)
            · refine ⟨hi, hnew, fun k hk hlk hm => ?_⟩
              by_cases hkj : k = j
              · subst hkj
                obtain ⟨ok, Tk⟩ := relyB_told h k hk
                have := Tk.lt k (Tk.sub k (List.mem_append_left _ hm))
                omega
              · obtain ⟨ok, Tk⟩ := relyB_told h k hk
                exact hnot k hk (hold k hlk hkj) (Tk.sub j (List.mem_append_left _ hm))
            · refine ⟨h1, getD_set_true h2, fun k hk hlk hm => ?_⟩
              by_cases hki : k = i
              · subst hki; exact h4 hm
              · exact h3 k hk (hold k hlk hki) hm
      have hres : resOf sp u' (i :: ((spec sp i).keeps ++ rest)) = (spec sp i).res (mask (spec sp i).deps u) v ++ (resOf sp u (spec sp i).keeps ++ resOf sp u rest) := by
        have h1 : (spec sp i).resAt u' i = (spec sp i).res (mask (spec sp i).deps u) v := by unfold RSpec.resAt; rw [hmi, hui]
        have h2 : resOf sp u' ((spec sp i).keeps ++ rest) = resOf sp u ((spec sp i).keeps ++ rest) := resOf_congr fun j hj => by
          have hjl : j ∈ liveIds sp (fun k => listed.getD k false) := by
            rcases List.mem_append.1 hj with h3 | h3
            · exact hlv j (List.mem_append_right _ h3)
            · exact ((hrm j).1 h3).1
          have hjm := liveIds_mem.1 hjl
          exact hrj j hjm.1 hjm.2.1 (fun e => by have := hjm.2.1; rw [e, hunF] at this; cases this)
        unfold resOf at h2 ⊢
        rw [List.flatMap_cons, h1, h2, List.flatMap_append]
      rw [← hl2]
      refine hS'.perm ?_
      refine List.Perm.trans ?_ (((resOf_perm hp2).append_right l2).symm)
      rw [hres]
      simp only [List.append_assoc]
      exact (List.Perm.refl _).append ((List.Perm.refl _).append List.perm_append_comm)
    · cases o'.dst <;> exact I.defers
    · cases o'.dst with
      | none => exact I.size
      | some d => simp only [Act.put, Array.size_setIfInBounds]; exact I.size
    · intro j hj hl d hd hds
      by_cases hji : j = i
      · subst hji
        rw [hdi, hd, put_same (by rw [I.size]; exact hds), hui]
      · have hne : o'.dst ≠ some d := by rw [hdi]; exact fun e => (T.alone j hj hji d e) hd
        rw [put_other hne, huj j hji]
        exact I.set j hj (hold j hl hji) d hd hds
    · intro t ht
      have hne : o'.dst ≠ some t := by rw [hdi]; exact ht i hi hnew
      rw [put_other hne]
      exact I.same t fun j hj hl => ht j hj (getD_set_true hl)
  unfold wpOp
  rw [T.op]
  simp only
  rw [hag.wanted]
  by_cases hw : Region.wanted o' (yielded ops (A u).tmps) = true
  · rw [if_pos hw] at hfin ⊢
    refine .inl (doesB_wp (Post := fun v w' => (spec sp i).val (mask (spec sp i).deps u) v ∧ Has w0 w' ((spec sp i).res (mask (spec sp i).deps u) v ++ (resOf sp u (spec sp i).keeps ++ (l2 ++ resOf sp u rest)))) ?_ hnext (fun c w2 => hBad c _ w2 I.defers))
    unfold doesB at hfin ⊢
    rw [execOp_congr o' (fun cs b => Region.noSelect_spec (by simp only [relyB, Bool.and_eq_true] at h; exact h.1) i o' cs b T.op) hag.eval]
    exact hfin
  · rw [if_neg hw] at hfin ⊢
    exact hnext _ _ hfin
theorem rely_runD {w0 : World} {lf : Array Bool → List Res} {a : Act} {A : (Nat → Value) → Act} {Q : Exit → Act → World → Prop} (hBad : ∀ c a2 w2, a2.defers = a.defers → Bad c w2 → Q (.panic c) a2 w2) (h : relyB ops sp = true) (ht : relyTailB ops sp.length = true) (hA : ∀ u, putAll ops a u sp.length = A u) (hok : ∀ i, i < sp.length → ∀ q : Array Bool, q.size = ops.size → q.getD i false = false → StepOKB P Bad ops sp w0 (lf q) (lf (q.setIfInBounds i true)) A i)
    (fin : ∀ u w, (∀ i, i < sp.length → (spec sp i).valAt u i) → Has w0 w (resOf sp u (liveIds sp fun _ => true) ++ lf (List.replicate sp.length true ++ List.replicate (ops.size - sp.length) false).toArray) → wpList P ops Q (ops.toList.drop sp.length) (A u) w) :
    ∀ (f : Nat) (listed : Array Bool) (a' : Act) (w : World) (u : Nat → Value), RInvD ops sp w0 lf a listed a' w u → cntU sp.length listed = f → wpAny P .any ops Q (f + (ops.size - sp.length)) listed a' w
  | 0, listed, a', w, u, I, hc => by
    have hall : ∀ i, i < sp.length → listed.getD i false = true := fun i hi => by
      cases hl : listed.getD i false with
      | true => rfl
      | false =>
        have hm : i ∈ (List.range sp.length).filter fun i => !listed.getD i false := List.mem_filter.2 ⟨List.mem_range.2 hi, by rw [hl]; rfl⟩
        rw [List.eq_nil_of_length_eq_zero hc] at hm
        cases hm
    have hn : sp.length ≤ ops.size := by
      rcases Nat.lt_or_ge ops.size sp.length with h1 | h1
      · obtain ⟨o, T⟩ := relyB_told h ops.size h1
        have := (Array.getElem?_eq_some_iff.1 T.op).1
        omega
      · exact h1
    have hlist : listed = (List.replicate sp.length true ++ List.replicate (ops.size - sp.length) false).toArray := by
      apply Array.ext
      · rw [I.head.size]; simp; omega
      · intro j h1 h2
        rw [I.head.size] at h1
        by_cases hj : j < sp.length
        · have := hall j hj
          simp [I.head.size, h1] at this
          simp [this, List.getElem_append, hj]
        · have := I.head.tail j (by omega) h1
          simp [I.head.size, h1] at this
          simp [this, List.getElem_append, hj]
    have hact : a' = A u := by
      rw [← hA u]
      have hd : a'.defers = (putAll ops a u sp.length).defers := by rw [I.defers, putAll_defers]
      have htm : a'.tmps = (putAll ops a u sp.length).tmps := by
        apply Array.ext_getElem?
        intro t
        by_cases hex : ∃ j, j < sp.length ∧ dstAt ops j = some t
        · obtain ⟨j, hj, hdj⟩ := hex
          obtain ⟨oj, Tj⟩ := relyB_told h j hj
          by_cases hts : t < a.tmps.size
          · rw [I.set j hj (hall j hj) t hdj hts, putAll_set a u t hts _ j hj hdj (fun k hk hkj => Tj.alone k hk hkj t hdj)]
          · exact getElem?_none_size (by rw [I.size, putAll_size]) (by rw [putAll_size]; exact hts)
        · rw [I.same t (fun j hj _ hdj => hex ⟨j, hj, hdj⟩), putAll_same a u t _ (fun j hj hdj => hex ⟨j, hj, hdj⟩)]
      cases a'
      cases hpa : putAll ops a u sp.length
      rw [hpa] at hd htm
      simp only at hd htm
      rw [hd, htm]
    have hlv : (liveIds sp fun i => listed.getD i false) = liveIds sp fun _ => true := by
      unfold liveIds
      refine List.filter_congr fun i hi => ?_
      dsimp only
      rw [hall i (List.mem_range.1 hi)]
      congr 1
      rw [Bool.eq_iff_iff]
      simp only [List.all_eq_true]
      exact forall_congr' fun k => forall_congr' fun hk => by rw [hall k (List.mem_range.1 hk)]
    have hS := I.st
    rw [hlv] at hS
    rw [hlist] at hS
    have hW := fin u w (fun i hi => I.vals i hi (hall i hi)) hS
    have hlen : (ops.toList.drop sp.length).length = ops.size - sp.length := by simp
    rw [Nat.zero_add, ← hlen, hact]
    refine wpAny_of_seq (ops.toList.drop sp.length) sp.length listed (A u) w (fun j => by rw [List.getElem?_drop, Array.getElem?_toList]) ?_ hW
    simp only [relyTailB, Bool.and_eq_true] at ht
    rw [hlen, hlist]
    exact ht.2
  | f + 1, listed, a', w, u, I, hc => by
    rw [show f + 1 + (ops.size - sp.length) = (f + (ops.size - sp.length)) + 1 by omega]
    have hex : ∃ i, i < sp.length ∧ listed.getD i false = false := by
      have : (List.range sp.length).filter (fun i => !listed.getD i false) ≠ [] := fun e => by
        unfold cntU at hc
        rw [e] at hc
        cases hc
      obtain ⟨i, hi⟩ := List.exists_mem_of_ne_nil _ this
      rw [List.mem_filter, List.mem_range] at hi
      exact ⟨i, hi.1, by simpa using hi.2⟩
    have hlt : ∀ i, i < sp.length → i < ops.size := fun i hi => by
      obtain ⟨o, T⟩ := relyB_told h i hi
      exact (Array.getElem?_eq_some_iff.1 T.op).1
    have hready : ∃ i, i ∈ Region.ready .any ops listed := by
      have key : ∀ i, i < sp.length → listed.getD i false = false → ∃ j, j ∈ Region.ready .any ops listed := by
        intro i
        induction i using Nat.strongRecOn with
        | _ i ih =>
          intro hi hl
          obtain ⟨o, T⟩ := relyB_told h i hi
          by_cases hc2 : ∃ e ∈ o.after, Region.binds .any e = true ∧ listed.getD e.on false = false
          · obtain ⟨e, he, hb, hel⟩ := hc2
            exact ih e.on (T.back e he hb) (Nat.lt_trans (T.back e he hb) hi) hel
          · refine ⟨i, mem_ready.2 ⟨getD_in (by rw [I.head.size]; exact hlt i hi) hl, o, T.op, fun e he hb => ?_⟩⟩
            cases hel : listed.getD e.on false with
            | true => rfl
            | false => exact absurd ⟨e, he, hb, hel⟩ hc2
      obtain ⟨i, hi, hl⟩ := hex
      exact key i hi hl
    obtain ⟨i0, hi0, hl0⟩ := hex
    have hhead : ∀ i, i ∈ Region.ready .any ops listed → i < sp.length := fun i hi => by
      simp only [relyTailB, Bool.and_eq_true, Bool.or_eq_true, decide_eq_true_eq] at ht
      rcases ht.1 with h1 | ⟨⟨h1, h2⟩, h3⟩
      · obtain ⟨_, o, ho, _⟩ := mem_ready.1 hi
        have := (Array.getElem?_eq_some_iff.1 ho).1
        omega
      · rcases Nat.lt_or_ge i sp.length with h4 | h4
        · exact h4
        · exact absurd hi (tail_waits h2 h3 h1 I.head _ i0 rfl hi0 (getD_in (by rw [I.head.size]; exact hlt i0 hi0) hl0) i h4)
    refine ⟨fun h0 => ?_, fun i hi => ?_⟩
    · obtain ⟨i, hi⟩ := hready
      rw [h0] at hi
      cases hi
    · have hin := hhead i hi
      have hun : listed.getD i false = false := getD_both (mem_ready.1 hi).1
      refine wpOp_mono (fun a'' w' h1 => ?_) (rely_stepD hBad h hA hok I hin hi)
      obtain ⟨u', I'⟩ := h1
      refine rely_runD hBad h ht hA hok fin f _ a'' w' u' I' ?_
      have := cntU_set hin (by rw [I.head.size]; exact hlt i hin) hun
      omega
/-- A region that draws its order: each operation of its head told by itself, the rest in order; one that panics ends it. -/
theorem wp_relyD2 {id : Nat} {w0 w : World} {lf : Array Bool → List Res} {a : Act} {Q : Exit → Act → World → Prop} (hBad : ∀ c a2 w2, a2.defers = a.defers → Bad c w2 → Q (.panic c) a2 w2) (S : Has w0 w (lf (Array.replicate ops.size false))) (sp : List RSpec) (A : (Nat → Value) → Act) (hA : ∀ u, putAll ops a u sp.length = A u) (hm : P.follows .mixedOrders = true) (h : relyB ops sp = true) (ht : relyTailB ops sp.length = true)
    (live : List Nat) (hlive : liveIds sp (fun _ => true) = live) (hok : ∀ i, i < sp.length → ∀ q : Array Bool, q.size = ops.size → q.getD i false = false → StepOKB P Bad ops sp w0 (lf q) (lf (q.setIfInBounds i true)) A i)
    (fin : ∀ u w, (∀ i, i < sp.length → (spec sp i).valAt u i) → Has w0 w (resOf sp u live ++ lf (List.replicate sp.length true ++ List.replicate (ops.size - sp.length) false).toArray) → wpList P ops Q (ops.toList.drop sp.length) (A u) w) : (Code.region id ops true).wp P Q a w := by
  subst hlive
  refine wp_region_any hm ?_
  have hn : sp.length ≤ ops.size := by
    rcases Nat.lt_or_ge ops.size sp.length with h1 | h1
    · obtain ⟨o, T⟩ := relyB_told h ops.size h1
      have := (Array.getElem?_eq_some_iff.1 T.op).1
      omega
    · exact h1
  have hnone : ∀ i, ¬ (Array.replicate ops.size false).getD i false = true := fun i => by
    rw [getD_replicate_false]
    simp
  have hcnt : cntU sp.length (Array.replicate ops.size false) = sp.length := by
    unfold cntU
    rw [List.filter_eq_self.2 (fun i _ => by rw [getD_replicate_false]; rfl), List.length_range]
  have hrun := rely_runD (Q := Q) hBad h ht hA hok fin sp.length (Array.replicate ops.size false) a { w with drawn := w.drawn + 1 } (fun _ => undef) ?_ hcnt
  · rw [show sp.length + (ops.size - sp.length) = ops.size by omega] at hrun
    exact hrun
  · refine ⟨⟨by simp, fun j oj _ hl => absurd hl (hnone j), fun t _ htl => by simp [htl]⟩, fun i _ hl => absurd hl (hnone i), ?_, rfl, rfl, fun i _ hl => absurd hl (hnone i), fun t _ => rfl⟩
    have hlv : (liveIds sp fun i => (Array.replicate ops.size false).getD i false) = [] := by
      unfold liveIds
      rw [List.filter_eq_nil_iff]
      intro i _
      dsimp only
      rw [getD_replicate_false]
      simp
    rw [hlv]
    exact S.drew
/-- .. where operation k0 takes the first thing and operation k1 the second. -/
theorem wp_relyBW2 {id : Nat} {w0 w : World} {e0 e1 : Res} {F : List Res} {a : Act} {Q : Exit → Act → World → Prop} (k0 k1 : Nat) (hBad : ∀ c a2 w2, a2.defers = a.defers → Bad c w2 → Q (.panic c) a2 w2) (S : Has w0 w (e0 :: e1 :: F)) (sp : List RSpec) (A : (Nat → Value) → Act) (hA : ∀ u, putAll ops a u sp.length = A u) (hm : P.follows .mixedOrders = true) (h : relyB ops sp = true) (ht : relyTailB ops sp.length = true)
    (live : List Nat) (hlive : liveIds sp (fun _ => true) = live) (hk : k0 < sp.length ∧ k1 < sp.length ∧ k0 ≠ k1 ∧ sp.length ≤ ops.size) (hok : ∀ i, i < sp.length → if i = k0 then ∀ r : Res, StepOKB P Bad ops sp w0 (e0 :: r :: F) (noRes :: r :: F) A i else if i = k1 then ∀ r : Res, StepOKB P Bad ops sp w0 (r :: e1 :: F) (r :: noRes :: F) A i else ∀ r s : Res, StepOKB P Bad ops sp w0 (r :: s :: F) (r :: s :: F) A i)
    (fin : ∀ u w, (∀ i, i < sp.length → (spec sp i).valAt u i) → Has w0 w (resOf sp u live ++ (noRes :: noRes :: F)) → wpList P ops Q (ops.toList.drop sp.length) (A u) w) : (Code.region id ops true).wp P Q a w := by
  obtain ⟨k0l, k1l, kne, hsz⟩ := hk
  refine wp_relyD2 (lf := fun q => (if q.getD k0 false then noRes else e0) :: (if q.getD k1 false then noRes else e1) :: F) hBad (by rw [getD_replicate_false, getD_replicate_false]; exact S) sp A hA hm h ht live hlive (fun i hi q hq hqi => ?_) (fun u w h1 h2 => fin u w h1 ?_)
  · have := hok i hi
    have hin : i < q.size := by rw [hq]; omega
    have hset : (q.setIfInBounds i true).getD i false = true := by simp [hin]
    by_cases h0 : i = k0
    · subst h0
      rw [if_pos rfl] at this
      have e : (q.setIfInBounds i true).getD k1 false = q.getD k1 false := getD_set_ne false kne
      simp only [hqi, hset, e, if_true, Bool.false_eq_true, if_false]
      exact this _
    · rw [if_neg h0] at this
      have e0' : (q.setIfInBounds i true).getD k0 false = q.getD k0 false := getD_set_ne false h0
      by_cases h1 : i = k1
      · subst h1
        rw [if_pos rfl] at this
        simp only [hqi, hset, e0', if_true, Bool.false_eq_true, if_false]
        exact this _
      · rw [if_neg h1] at this
        have e1' : (q.setIfInBounds i true).getD k1 false = q.getD k1 false := getD_set_ne false h1
        simp only [e0', e1']
        exact this _ _
  · have g : ∀ k, k < sp.length → ((List.replicate sp.length true ++ List.replicate (ops.size - sp.length) false).toArray).getD k false = true := fun k hk => by
      rw [Array.getD_eq_getD_getElem?, List.getElem?_toArray, List.getElem?_append_left (by simpa using hk), List.getElem?_replicate, if_pos hk]
      rfl
    simp only [g k0 k0l, g k1 k1l, if_true] at h2
    exact h2
end
end Go.Proofs.YtfhkmmagpnojmaaDoor

/- The method 'read' of orders, states, tokens; rows of sights. No condition but the reach. -/
namespace Go.Proofs.YtfhkmmagpnojmaaDoor
open Go.RowKit

abbrev rowSg (v : Value) (l : List Sgt) : Res := row v 95 3 l.length (l.flatMap sgtL)
set_option maxRecDepth 100000 in
set_option maxHeartbeats 4000000 in
theorem orderRead_s (v : Value) (g : Nat) (bv : Value) (b : List UInt8) (p : Nat) (w0 w1 : World) (F : List Res) (S : Has w0 w1 (rdr g bv p :: F)) (hb : Bs w0 bv b) (hp : p ≤ b.length) (hl : b.length ≤ 140737488355328) :
    Calls Tryd.prog 140 #[v, .pointer (some ⟨g, 0, none⟩)] w1 fun e w' =>
      (p + 2 ≤ b.length ∧ e = .returned (.iface 160 (.int .i64 (atB b p 2 : Int))) ∧ Has w0 w' (rdr g bv (p + 2) :: F)) ∨ (b.length < p + 2 ∧ e = .panicked [erl] ∧ ∃ q, Has w0 w' (rdr g bv q :: F)) := by
  have p1 := fun w F S => ruint_i 2 2 rfl g bv b p w0 w F S hb (by decide) (by decide) hp hl
  have hlt := atB_lt b p 2
  have e1 : IntKind.i64.wrap (atB b p 2 : Int) = (atB b p 2 : Int) := by rw [IntKind.wrap_i64]; omega
  have HB := Lib.hid hb; have P1 := Lib.hid p1; clear hb p1
  clear hlt
  go_enter Tryd.func140, Tryd.ntmps140
  go_wp2_with (first | (go_at_call 61; (with_reducible refine (P1.out _ _ (S.pick pk)).mono ?_); rintro e w1 (⟨hf, rfl, S1⟩ | ⟨hf, rfl, S1⟩); rotate_left; exact ⟨rfl, .inr ⟨by omega, rfl, _, S1⟩⟩; clear S; have S := S1; clear S1) | fail)
  go_ret
  exact .inl ⟨hf, rfl, S⟩
set_option maxRecDepth 100000 in
set_option maxHeartbeats 4000000 in
theorem stateRead_s (cs : Array Value) (g : Nat) (bv : Value) (b : List UInt8) (p : Nat) (w0 w1 : World) (F : List Res) (S : Has w0 w1 (rdr g bv p :: F)) (hb : Bs w0 bv b) (hp : p ≤ b.length) (hl : b.length ≤ 140737488355328) :
    Calls Tryd.prog 143 #[.agg cs, .pointer (some ⟨g, 0, none⟩)] w1 fun e w' =>
      (p + 9 ≤ b.length ∧ e = .returned (.iface 162 (.agg #[.int .u8 (atB b p 1 : Int), .int .u64 (atB b (p + 1) 8 : Int)])) ∧ Has w0 w' (rdr g bv (p + 9) :: F)) ∨ (b.length < p + 9 ∧ e = .panicked [erl] ∧ ∃ q, Has w0 w' (rdr g bv q :: F)) := by
  have p1 := fun w F S => ruint_i 1 1 rfl g bv b p w0 w F S hb (by decide) (by decide) hp hl
  have p2 := fun w F S h => ruint_i 8 8 rfl g bv b (p + 1) w0 w F S hb (by decide) (by decide) h hl
  have hlt := atB_lt b p 1
  have e1 : IntKind.u8.wrap (atB b p 1 : Int) = (atB b p 1 : Int) := by rw [IntKind.wrap_u8]; omega
  have e2 : (atB b p 1 : Int) % 256 = (atB b p 1 : Int) := by omega
  have b1 := build_st
  have HB := Lib.hid hb; have P1 := Lib.hid p1; have P2 := Lib.hid p2; clear hb p1 p2
  clear hlt
  go_enter Tryd.func143, Tryd.ntmps143
  go_wp2_with (first | (go_at_call 61; (with_reducible refine (P1.out _ _ (S.pick pk)).mono ?_); rintro e w1 (⟨hf, rfl, S1⟩ | ⟨hf, rfl, S1⟩); rotate_left; exact ⟨rfl, .inr ⟨by omega, rfl, _, S1.drop (Pick.tail (Pick.head _ _))⟩⟩; clear S; have S := S1; clear S1; have _t := P1; clear P1) | (go_at_call 61; (with_reducible refine (P2.out _ _ (S.pick pk) hf).mono ?_); rintro e w1 (⟨hf2, rfl, S1⟩ | ⟨hf2, rfl, S1⟩); rotate_left; exact ⟨rfl, .inr ⟨by omega, rfl, _, S1.drop (Pick.tail (Pick.head _ _))⟩⟩; clear S; have S := S1; clear S1) | ((with_reducible refine iD 2 (.box 162 (.tmp 0)) ?_); refine step_boxA (dst := some 2) S 162 (.tmp 0) _ rfl rfl ?_; clear S; intro g2 w S) | fail)
  go_ret
  exact .inl ⟨hf2, rfl, S.drop (Pick.tail (Pick.head _ _))⟩
set_option maxRecDepth 100000 in
set_option maxHeartbeats 4000000 in
theorem ticketRead_s (cs : Array Value) (g : Nat) (bv : Value) (b : List UInt8) (p : Nat) (w0 w1 : World) (F : List Res) (S : Has w0 w1 (rdr g bv p :: F)) (hb : Bs w0 bv b) (hp : p ≤ b.length) (hl : b.length ≤ 140737488355328) :
    Calls Tryd.prog 126 #[.agg cs, .pointer (some ⟨g, 0, none⟩)] w1 fun e w' =>
      (p + 46 ≤ b.length ∧ e = .returned (.iface 114 (.agg (tokL (decT ((b.drop p).take 46))).toArray)) ∧ Has w0 w' (rdr g bv (p + 46) :: F)) ∨ (b.length < p + 46 ∧ e = .panicked [erl] ∧ ∃ q, Has w0 w' (rdr g bv q :: F)) := by
  have p2 := fun w F S => rbytes_i 46 46 rfl g bv b p w0 w F S hb (by decide) hp hl
  obtain ⟨T46, hT⟩ : ∃ T, T = (b.drop p).take 46 := ⟨_, rfl⟩
  have p3 := fun v w h => dec_s v T46 w h
  rw [← hT] at p2 ⊢
  have HB := Lib.hid hb; have P2 := Lib.hid p2; have P3 := Lib.hid p3; clear hb p2 p3
  clear hT
  go_enter Tryd.func126, Tryd.ntmps126
  go_wp2_with (first | (go_at_call 63; (with_reducible refine (P2.out _ _ (S.pick (r := rdr g bv p) pk)).mono ?_); rintro e w1 (⟨hf2, v9, rfl, S1⟩ | ⟨hf2, rfl, S1⟩); rotate_left; exact ⟨rfl, .inr ⟨by omega, rfl, _, S1.drop (Pick.tail (Pick.head _ _))⟩⟩; clear S; have S := S1; clear S1) | ((with_reducible refine iD 2 (.box 114 (.tmp 0)) ?_); refine step_boxA (dst := some 2) S 114 (.tmp 0) _ rfl rfl ?_; clear S; intro g2 w S) | (go_at_call 62; (with_reducible refine (P3.out _ _ (S.bs (xs := T46) pk)).mono ?_); rintro e w1 ⟨rfl, T⟩; replace S := S.call T; clear T; (try simp only [z4, z5] at S)) | ((with_reducible refine iD 5 (.alloc 67) ?_); refine step_alloc (dst := some 5) S 67 (.agg ((tokL tokZ).toArray)) ((tokL tokZ).toArray) kR rfl rfl ?_; clear S; intro g5 w S) | ((with_reducible refine iO none (.store 67 (.tmp 5) (.tmp 11)) ?_); refine step_store S 67 (.tmp 5) (.tmp 11) _ _ rfl rfl _ _ pk 36 kR lN lN on1 rfl ?_; clear S; intro w S) | ((with_reducible refine iO _ (.load 67 _) ?_); first | (refine step_load S 67 _ _ rfl _ _ _ pk _ Tryd.underlying67 rfl 36 kR lN rfl ?_) | (refine step_loadO 67 _ _ rfl _ _ _ (S.old_heap (Hid.out (by assumption))) _ Tryd.underlying67 rfl 36 kR lN rfl ?_) | (refine step_loadR 67 _ _ _ rfl _ (S.old_range hy) _ Tryd.underlying67 rfl 36 kR lN _ rfl rfl ?_)) | fail)
  go_ret
  exact .inl ⟨hf2, rfl, ((S.drop (Pick.head _ _)).drop (Pick.tail (Pick.head _ _))).drop (Pick.tail (Pick.head _ _))⟩
end Go.Proofs.YtfhkmmagpnojmaaDoor
