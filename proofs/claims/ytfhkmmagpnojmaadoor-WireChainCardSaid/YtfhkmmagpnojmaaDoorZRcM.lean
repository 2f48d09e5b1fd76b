/- Records in memory of one's own: parts, append, copies, equality. No condition. -/
import Derived.Test.YtfhkmmagpnojmaaDoorZBd
import Derived.Test.YtfhkmmagpnojmaaDoorZLgF
import Derived.ArgAppend
set_option linter.unusedSimpArgs false
set_option linter.unusedVariables false
namespace Go.Proofs.YtfhkmmagpnojmaaDoor
open Go.RowKit

section
variable {P : Program} {ops : Array Oper} {rest : List Oper} {a : Act} {w0 w : World} {l F : List Res} {Q : Exit → Act → World → Prop} {dst : Option Tmp} {ty : TypeId} {pos : String} {after : Array Edge} {gd : Option (Nat × Bool)} {Post : Value → World → Prop}

/-- append onto a slice that has no room, of somebody else. -/
theorem run_append_full (w : World) (t ty e : TypeId) (z : Value) (size bytes : Nat) (ht : P.underlying t = some (.slice e)) (hinfo : (P.info? e).map (fun i => (i.zero, i.size, i.bytes)) = some (some z, size, bytes)) (hzs : z.cells.size = size) (hsz : 0 < size)
    (ao : Option Addr) (n : Nat) (xs : List Value) (h : Sl w size (.slice ao n n) n xs) (src : Value) (m : Nat) (news : List Value) (hsrc : Sl w size src m news) (hm : 0 < m) (h1 : ∀ u ∈ news, u.oneCell' = true)
    (h63 : n + m ≤ maxLen) (hbytes : (n + m) * bytes ≤ 140737488355328) :
    ∃ v' w', (Builtin.append_ #[t, t] ty #[.slice ao n n, src]).run P w = .ok v' w' ∧ w'.ownsRow w.heap.size e size v' (n + m) (xs ++ news) ∧ Below w.heap.size w w' := by
  obtain ⟨i, hi, hz, hsize, hby⟩ := info_parts hinfo
  obtain ⟨a1, c1, rfl, hmc, hcm⟩ := hsrc.shape
  cases ao with
  | none =>
    obtain ⟨rfl, _, rfl⟩ := h.empty
    obtain ⟨v', w', hr, ho, hg⟩ := run_append_grew (P := P) w w.heap.size t ty e i z size bytes ht hi hz hsize hby hzs hsz (.slice none 0 0) 0 [] (World.ownsRow_nil w _ e size) _ m news hsrc h1 h63 hbytes (Nat.le_refl _)
    exact ⟨v', w', hr, ho, hg.below (Nat.le_refl _) (fun k hk => by cases hk)⟩
  | some b =>
    cases a1 with
    | none =>
      obtain ⟨rfl, _, _⟩ := hsrc.empty
      omega
    | some ad =>
      obtain ⟨v', w', hr, ho, hg⟩ := run_append_arg_grows (P := P) w t ty e i z size bytes ht hi hz hsize hby hzs hsz b n n xs h.1 h.cellsAt ad m c1 news hsrc.1 hsrc.cellsAt (by omega) h63 hbytes
      exact ⟨v', w', hr, ho, (Below.refl _ w).grown hg (Nat.le_refl _) (fun k hk => by cases hk)⟩
theorem does_appendX (S : Has w0 w l) (s x : Operand) (t : TypeId) (e : TypeId) (z : Value) (size bytes : Nat) (ht : P.underlying t = some (.slice e)) (hinfo : (P.info? e).map (fun i => (i.zero, i.size, i.bytes)) = some (some z, size, bytes)) (hzs : z.cells.size = size) (hsz : 0 < size)
    (ao : Option Addr) (n : Nat) (xs : List Value) (hs : a.eval s = .slice ao n n) (hv : Sl w size (.slice ao n n) n xs) (src : Value) (m : Nat) (news : List Value) (hx : a.eval x = src) (hsrc : Sl w size src m news) (hm : 0 < m) (h1 : ∀ u ∈ news, u.oneCell' = true)
    (h63 : n + m ≤ maxLen) (hbytes : (n + m) * bytes ≤ 140737488355328)
    (h : ∀ v' w', Has w0 w' (row v' e size (n + m) (xs ++ news) :: l) → Post v' w') :
    does P a.eval ⟨dst, .call { callee := .builtin .append, args := #[s, x], argTypes := #[t, t] }, ty, pos, after, gd⟩ w Post := by
  obtain ⟨v', w', hr, ho, hb⟩ := run_append_full (P := P) w t ty e z size bytes ht hinfo hzs hsz ao n xs hv src m news hsrc hm h1 h63 hbytes
  refine does_val (v := v') (w' := w') ?_ (h v' w' (S.call (Has.of_own hb ho)))
  simp [execOp, resolve, invoke, builtin, hs, hx, hr, Result.andThen]
theorem run_cutLHM (t e s : Nat) (ht : P.underlying t = some (.slice e)) (hs : (P.info? e).map (·.size) = some s) (a0 : Option Addr) (n c : Nat) (k k' k2 : IntKind) (i j m : Int) (lo hi' mx : Nat) (hi : i = (lo : Int)) (hj : j = (hi' : Int)) (hm : m = (mx : Int)) (h1 : lo ≤ hi') (h2 : hi' ≤ mx) (hl : mx ≤ c) (w : World) :
    (Instr.sliceAt t (.slice a0 n c) (some (.int k i)) (some (.int k' j)) (some (.int k2 m))).run P w = .ok (.slice (cutA a0 mx lo s) (hi' - lo) (mx - lo)) w := by
  subst hi
  subst hj
  subst hm
  have he : P.elem t = e := by simp [Program.elem, ht]
  have ht' : P.underlying t = some (.slice (P.elem t)) := by rw [he]; exact ht
  cases hq : P.info? e with
  | none => simp [hq] at hs
  | some i =>
    have h2 : i.size = s := by simpa [hq] using hs
    rw [run_sliceAt_slice (w := w) t _ _ _ _ ht', run_slice_lhm (w := w) t a0 n c ht' k k' k2 lo hi' mx (by omega) (by omega) (by omega) (by omega)]
    simp [sizeOf, typeInfo, he, hq, h2, sliced, cutA]
/-- 's[l:h:m]' -/
theorem step_cutLHM (t e s : Nat) (x y z u : Operand) (a0 : Option Addr) (n c : Nat) (k k' k2 : IntKind) (i j m : Int) (lo hi' mx : Nat) (hx : a.eval x = .slice a0 n c) (hy : a.eval y = .int k i) (hz : a.eval z = .int k' j) (hu : a.eval u = .int k2 m) (hi : i = (lo : Int)) (hj : j = (hi' : Int)) (hm : m = (mx : Int)) (h1 : lo ≤ hi') (h2 : hi' ≤ mx) (hl : mx ≤ c) (ht : P.underlying t = some (.slice e)) (hs : (P.info? e).map (·.size) = some s)
    (hw : Region.wanted ⟨dst, .slice t x (some y) (some z) (some u), ty, pos, after, gd⟩ (yielded ops a.tmps) = true)
    (h : wpList P ops Q rest (a.put dst (.slice (cutA a0 mx lo s) (hi' - lo) (mx - lo))) w) : wpList P ops Q (⟨dst, .slice t x (some y) (some z) (some u), ty, pos, after, gd⟩ :: rest) a w := by
  refine step_val (v := .slice (cutA a0 mx lo s) (hi' - lo) (mx - lo)) hw ?_ h
  have := run_cutLHM (P := P) t e s ht hs a0 n c k k' k2 i j m lo hi' mx hi hj hm h1 h2 hl w
  simp only [execOp, hx, hy, hz, hu, Option.map_some, Option.map_none, Sem.run_bind, this, Result.andThen_ok, Sem.run_pure]
theorem Sl.cutM {w : World} {size n c : Nat} {a : Option Addr} {xs : List Value} (h : Sl w size (.slice a n c) n xs) (lo : Nat) (hn : lo ≤ n) :
    Sl w size (.slice (cutA a n lo size) (n - lo) (n - lo)) (n - lo) (xs.drop (lo * size)) := by
  have hx := h.1
  have hle : lo * size ≤ n * size := Nat.mul_le_mul_right _ hn
  rcases h.2 with ⟨a0, hv, hn0⟩ | ⟨b, off, cap, hv, h1, h2, hc⟩
  · simp only [Value.slice.injEq] at hv
    obtain ⟨rfl, rfl, rfl⟩ := hv
    obtain rfl : lo = 0 := by omega
    refine ⟨by simp [hx], .inl ⟨_, rfl, rfl⟩⟩
  · simp only [Value.slice.injEq] at hv
    obtain ⟨rfl, _, rfl⟩ := hv
    have hl : (xs.drop (lo * size)).length = (n - lo) * size := by rw [List.length_drop, hx, Nat.sub_mul]
    by_cases hcl : n = lo
    · subst hcl
      refine ⟨hl, .inl ⟨_, by rw [Nat.sub_self], by rw [Nat.sub_self]⟩⟩
    · refine ⟨hl, .inr ⟨b, off + lo * size, n - lo, ?_, Nat.le_refl _, by omega, fun i hi => ?_⟩⟩
      · unfold cutA
        rw [if_neg hcl, Option.map_some]
        unfold Addr.add
        split <;> simp_all
      · rw [hl] at hi
        have := hc (lo * size + i) (by rw [hx]; rw [Nat.sub_mul] at hi; omega)
        rw [Nat.add_assoc, this]
        simp
end

theorem drop_flat {α : Type} (f : α → List Value) (s : Nat) (hf : ∀ x, (f x).length = s) : ∀ (xs : List α) (i : Nat), (xs.flatMap f).drop (i * s) = (xs.drop i).flatMap f
  | _, 0 => by simp
  | [], i + 1 => by simp
  | x :: xs, i + 1 => by
    rw [List.flatMap_cons, List.drop_succ_cons, ← drop_flat f s hf xs i, List.drop_append, hf, List.drop_of_length_le (by rw [hf, Nat.add_mul]; omega), List.nil_append]
    congr 1
    rw [Nat.add_mul]
    omega
theorem Rs.cutM {w : World} {n c : Nat} {a : Option Addr} {l : List Rcd} (h : Sl w 35 (.slice a n c) n (l.flatMap rcdL)) (hl : l.length = n) (lo : Nat) (hn : lo ≤ n) :
    Sl w 35 (.slice (cutA a n lo 35) (n - lo) (n - lo)) (n - lo) ((l.drop lo).flatMap rcdL) := by
  have := Sl.cutM h lo hn
  rwa [drop_flat rcdL 35 rcdL_length] at this
abbrev rowRc (v : Value) (l : List Rcd) : Res := row v 50 35 l.length (l.flatMap rcdL)
theorem rcdL_all (l : List Rcd) : ∀ u ∈ l.flatMap rcdL, u.oneCell' = true := by
  intro u hu
  obtain ⟨m, _, hm⟩ := List.mem_flatMap.1 hu
  have := rcdL_one m
  rw [Array.all_eq_true'] at this
  exact this u (by simpa using hm)
set_option maxRecDepth 100000 in
theorem infoRc : (Tryd.prog.info? 50).map (fun i => (i.zero, i.size, i.bytes)) = some (some (.agg (rcdL rcdZ).toArray), 35, 56) := by kernel_rfl
set_option maxRecDepth 100000 in
theorem infoRc2 : (Tryd.prog.info? 50).map (fun i => (i.zero, i.size)) = some (some (.agg (rcdL rcdZ).toArray), 35) := by kernel_rfl
/-- append of records onto records of one's own. -/
theorem step_appendRc {ops : Array Oper} {rest : List Oper} {a : Act} {w0 w : World} {l F : List Res} {Q : Exit → Act → World → Prop} {dst : Option Tmp} {ty : TypeId} {pos : String} {after : Array Edge} {gd : Option (Nat × Bool)} (S : Has w0 w l) (s x : Operand)
    (v : Value) (xs : List Rcd) (hs : a.eval s = v) (hp : Pick l (rowRc v xs) F) (src : Value) (ys : List Rcd) (hx : a.eval x = src) (hsrc : Sl w 35 src ys.length (ys.flatMap rcdL)) (hlen : (xs.length + ys.length) * 56 ≤ 140737488355328)
    (hw : Region.wanted ⟨dst, .call { callee := .builtin .append, args := #[s, x], argTypes := #[31, 31] }, ty, pos, after, gd⟩ (yielded ops a.tmps) = true)
    (h : ∀ v' w', Has w0 w' (rowRc v' (xs ++ ys) :: F) → wpList Tryd.prog ops Q rest (a.put dst v') w') :
    wpList Tryd.prog ops Q (⟨dst, .call { callee := .builtin .append, args := #[s, x], argTypes := #[31, 31] }, ty, pos, after, gd⟩ :: rest) a w := by
  refine step_append S s x 31 50 (.agg (rcdL rcdZ).toArray) 35 56 Tryd.underlying31 infoRc rfl (by decide) v xs.length (xs.flatMap rcdL) hs hp src ys.length (ys.flatMap rcdL) hx hsrc (rcdL_all _) (by unfold maxLen; omega) hlen hw ?_
  intro v' w' S'
  refine h v' w' ?_
  rw [← List.flatMap_append, ← List.length_append] at S'
  exact S'
theorem does_appendRc {a : Act} {w0 w : World} {F : List Res} {dst : Option Tmp} {ty : TypeId} {pos : String} {after : Array Edge} {guard : Option (Nat × Bool)} {Post : Value → World → Prop} (s x : Operand)
    (v : Value) (xs : List Rcd) (hs : a.eval s = v) (S : Has w0 w (rowRc v xs :: F)) (src : Value) (ys : List Rcd) (hx : a.eval x = src) (hsrc : Sl w 35 src ys.length (ys.flatMap rcdL)) (hlen : (xs.length + ys.length) * 56 ≤ 140737488355328)
    (h : ∀ v' w', Has w0 w' (rowRc v' (xs ++ ys) :: F) → Post v' w') :
    does Tryd.prog a.eval ⟨dst, .call { callee := .builtin .append, args := #[s, x], argTypes := #[31, 31] }, ty, pos, after, guard⟩ w Post := by
  refine does_append s x 31 50 (.agg (rcdL rcdZ).toArray) 35 56 Tryd.underlying31 infoRc rfl (by decide) v xs.length (xs.flatMap rcdL) hs S src ys.length (ys.flatMap rcdL) hx hsrc (rcdL_all _) (by unfold maxLen; omega) hlen ?_
  intro v' w' S'
  refine h v' w' ?_
  rw [← List.flatMap_append, ← List.length_append] at S'
  exact S'
/-- append of records onto somebody else's records, that have no room. -/
theorem does_appendRcX {a : Act} {w0 w : World} {l : List Res} {dst : Option Tmp} {ty : TypeId} {pos : String} {after : Array Edge} {guard : Option (Nat × Bool)} {Post : Value → World → Prop} (S : Has w0 w l) (s x : Operand)
    (ao : Option Addr) (n : Nat) (xs : List Rcd) (hs : a.eval s = .slice ao n n) (hn : xs.length = n) (hv : Sl w 35 (.slice ao n n) n (xs.flatMap rcdL)) (src : Value) (ys : List Rcd) (hx : a.eval x = src) (hsrc : Sl w 35 src ys.length (ys.flatMap rcdL)) (hy : 0 < ys.length) (hlen : (n + ys.length) * 56 ≤ 140737488355328)
    (h : ∀ v' w', Has w0 w' (rowRc v' (xs ++ ys) :: l) → Post v' w') :
    does Tryd.prog a.eval ⟨dst, .call { callee := .builtin .append, args := #[s, x], argTypes := #[31, 31] }, ty, pos, after, guard⟩ w Post := by
  refine does_appendX S s x 31 50 (.agg (rcdL rcdZ).toArray) 35 56 Tryd.underlying31 infoRc rfl (by decide) ao n (xs.flatMap rcdL) hs hv src ys.length (ys.flatMap rcdL) hx hsrc hy (rcdL_all _) (by unfold maxLen; omega) hlen ?_
  intro v' w' S'
  refine h v' w' ?_
  subst hn
  rw [← List.flatMap_append, ← List.length_append] at S'
  exact S'
set_option maxRecDepth 100000 in
theorem eqRc (a b : Rcd) (w : World) : (Op.equalIn 10000 50 (.agg (rcdL a).toArray) (.agg (rcdL b).toArray)).run Tryd.prog w = .ok (decide (a = b)) w := by
  have hp : Tryd.prog.stoodInHeld 50 = false := by kernel_rfl
  have hf : Tryd.prog.underlying 50 = some (.struct (Tryd.prog.fieldsOf 50)) := by kernel_rfl
  have e : decide (a = b) = (((a.tick.toNat : Int) == (b.tick.toNat : Int)) && (((a.kind.toNat : Int) == (b.kind.toNat : Int)) && ((a.code.v == b.code.v) && (decide (a.link = b.link) && true)))) := by
    rw [beqU8, beqU64, beqI, Bool.eq_iff_iff]
    simp only [decide_eq_true_eq, Bool.and_eq_true, and_true]
    constructor
    · rintro rfl; exact ⟨rfl, rfl, rfl, rfl⟩
    · rintro ⟨h1, h2, h3, h4⟩
      exact Rcd.ext' h1 h2 h3 h4
  have htag : ∀ t : Rcd, (rcdL t).toArray.extract 3 (3 + 32) = (t.link.map by8).toArray := fun t => by
    have : (t.link.map by8).length = 32 := by simp [t.len]
    apply Array.ext'
    simp only [rcdL, Array.toList_extract, List.extract_eq_take_drop]
    show ((t.link.map by8).take 32) = _
    rw [List.take_of_length_le (by omega)]
  rw [e, run_equalIn_agg (P := Tryd.prog) w 9999 50 _ _ hf hp]
  unfold Program.fieldsOf
  rw [Tryd.underlying50]
  exact eqFields_step w 9999 _ _ _ _ rfl _ _ (run_part1 w _ _ _ _ _ Tryd.underlying23 rfl rfl) (run_part1 w _ _ _ _ _ Tryd.underlying23 rfl rfl) _ _ (run_equalIn_int w 9998 _ _ _ _ _ Tryd.underlying23)
    (eqFields_step w 9999 _ _ _ _ rfl _ _ (run_part1 w _ _ _ _ _ Tryd.underlying5 rfl rfl) (run_part1 w _ _ _ _ _ Tryd.underlying5 rfl rfl) _ _ (run_equalIn_int w 9998 _ _ _ _ _ Tryd.underlying5)
    (eqFields_step w 9999 _ _ _ _ rfl _ _ (run_part1 w _ _ _ _ _ Tryd.underlying24 rfl rfl) (run_part1 w _ _ _ _ _ Tryd.underlying24 rfl rfl) _ _ (run_equalIn_int w 9998 _ _ _ _ _ Tryd.underlying24)
    (eqFields_step w 9999 _ _ _ _ rfl _ _ (run_partA w _ _ _ 32 _ _ Tryd.underlying22 rfl kR (htag a)) (run_partA w _ _ _ 32 _ _ Tryd.underlying22 rfl kR (htag b)) _ _
      (run_equalIn_map by8 w 9998 _ _ 32 Tryd.underlying22 kR (isAgg_int Tryd.underlying5) (fun a b w => eqIn_by8 9997 _ Tryd.underlying5 a b w) a.link b.link a.len b.len)
    (eqFields_nil w 9999 _ _))))
theorem neqRc (a b : Rcd) (w : World) : (binOp .neq 50 (.agg (rcdL a).toArray) (.agg (rcdL b).toArray)).run Tryd.prog w = .ok (.bool (!decide (a = b))) w := by
  rw [run_neq_struct, eqRc, Result.andThen_ok]
theorem eqGuardRc : Tryd.prog.eqGuardType Tryd.prog.depth 50 = false := by kernel_rfl
def MadeRc (w : World) (l : List Rcd) (e : Ending) (w' : World) : Prop := ∃ v, e = .returned v ∧ Has w w' [rowRc v l]
theorem Has.nilRc {w0 w : World} {l : List Res} (S : Has w0 w l) : Has w0 w (rowRc (.slice none 0 0) [] :: l) := S.nil_row _ _
end Go.Proofs.YtfhkmmagpnojmaaDoor
