/- Records in memory of one's own: parts, append, copies, equality. No condition. -/
import Derived.Test.YtfhkmmagpnojmaaZBd
import Derived.Test.YtfhkmmagpnojmaaZBg
import Derived.Test.YtfhkmmagpnojmaaZBe
import Derived.Test.YtfhkmmagpnojmaaZBh
import Derived.ArgAppend
set_option linter.unusedSimpArgs false
set_option linter.unusedVariables false
namespace Go.Proofs.Ytfhkmmagpnojmaa
open Go.RowKit

section
variable {P : Program} {ops : Array Oper} {rest : List Oper} {a : Act} {w0 w : World} {l F : List Res} {Q : Exit → Act → World → Prop} {dst : Option Tmp} {ty : TypeId} {pos : String} {after : Array Edge} {gd : Option (Nat × Bool)} {Post : Value → World → Prop}

end

abbrev rowRc (v : Value) (l : List Rcd) : Res := row v 106 35 l.length (l.flatMap rcdL)
theorem rcdL_all (l : List Rcd) : ∀ u ∈ l.flatMap rcdL, u.oneCell' = true := by
  intro u hu
  obtain ⟨m, _, hm⟩ := List.mem_flatMap.1 hu
  have := rcdL_one m
  rw [Array.all_eq_true'] at this
  exact this u (by simpa using hm)
set_option maxRecDepth 100000 in
theorem infoRc : (Try.prog.info? 106).map (fun i => (i.zero, i.size, i.bytes)) = some (some (.agg (rcdL rcdZ).toArray), 35, 56) := by kernel_rfl
set_option maxRecDepth 100000 in
theorem infoRc2 : (Try.prog.info? 106).map (fun i => (i.zero, i.size)) = some (some (.agg (rcdL rcdZ).toArray), 35) := by kernel_rfl
/-- append of records onto records of one's own. -/
theorem step_appendRc {ops : Array Oper} {rest : List Oper} {a : Act} {w0 w : World} {l F : List Res} {Q : Exit → Act → World → Prop} {dst : Option Tmp} {ty : TypeId} {pos : String} {after : Array Edge} {gd : Option (Nat × Bool)} (S : Has w0 w l) (s x : Operand)
    (v : Value) (xs : List Rcd) (hs : a.eval s = v) (hp : Pick l (rowRc v xs) F) (src : Value) (ys : List Rcd) (hx : a.eval x = src) (hsrc : Sl w 35 src ys.length (ys.flatMap rcdL)) (hlen : (xs.length + ys.length) * 56 ≤ 140737488355328)
    (hw : Region.wanted ⟨dst, .call { callee := .builtin .append, args := #[s, x], argTypes := #[51, 51] }, ty, pos, after, gd⟩ (yielded ops a.tmps) = true)
    (h : ∀ v' w', Has w0 w' (rowRc v' (xs ++ ys) :: F) → wpList Try.prog ops Q rest (a.put dst v') w') :
    wpList Try.prog ops Q (⟨dst, .call { callee := .builtin .append, args := #[s, x], argTypes := #[51, 51] }, ty, pos, after, gd⟩ :: rest) a w := by
  refine step_append S s x 51 106 (.agg (rcdL rcdZ).toArray) 35 56 Try.underlying51 infoRc rfl (by decide) v xs.length (xs.flatMap rcdL) hs hp src ys.length (ys.flatMap rcdL) hx hsrc (rcdL_all _) (by unfold maxLen; omega) hlen hw ?_
  intro v' w' S'
  refine h v' w' ?_
  rw [← List.flatMap_append, ← List.length_append] at S'
  exact S'
theorem does_appendRc {a : Act} {w0 w : World} {F : List Res} {dst : Option Tmp} {ty : TypeId} {pos : String} {after : Array Edge} {guard : Option (Nat × Bool)} {Post : Value → World → Prop} (s x : Operand)
    (v : Value) (xs : List Rcd) (hs : a.eval s = v) (S : Has w0 w (rowRc v xs :: F)) (src : Value) (ys : List Rcd) (hx : a.eval x = src) (hsrc : Sl w 35 src ys.length (ys.flatMap rcdL)) (hlen : (xs.length + ys.length) * 56 ≤ 140737488355328)
    (h : ∀ v' w', Has w0 w' (rowRc v' (xs ++ ys) :: F) → Post v' w') :
    does Try.prog a.eval ⟨dst, .call { callee := .builtin .append, args := #[s, x], argTypes := #[51, 51] }, ty, pos, after, guard⟩ w Post := by
  refine does_append s x 51 106 (.agg (rcdL rcdZ).toArray) 35 56 Try.underlying51 infoRc rfl (by decide) v xs.length (xs.flatMap rcdL) hs S src ys.length (ys.flatMap rcdL) hx hsrc (rcdL_all _) (by unfold maxLen; omega) hlen ?_
  intro v' w' S'
  refine h v' w' ?_
  rw [← List.flatMap_append, ← List.length_append] at S'
  exact S'
set_option maxRecDepth 100000 in
theorem eqRc (a b : Rcd) (w : World) : (Op.equalIn 10000 106 (.agg (rcdL a).toArray) (.agg (rcdL b).toArray)).run Try.prog w = .ok (decide (a = b)) w := by
  have hp : Try.prog.stoodInHeld 106 = false := by kernel_rfl
  have hf : Try.prog.underlying 106 = some (.struct (Try.prog.fieldsOf 106)) := by kernel_rfl
  have e : decide (a = b) = (((a.tick.toNat : Int) == (b.tick.toNat : Int)) && (((a.kind.toNat : Int) == (b.kind.toNat : Int)) && ((a.code.v == b.code.v) && (decide (a.link = b.link) && true)))) := by
    rw [beqU8, beqU64, beqI, Bool.eq_iff_iff]
    simp only [decide_eq_true_eq, Bool.and_eq_true, and_true]
    constructor
    · rintro rfl; exact ⟨rfl, rfl, rfl, rfl⟩
    · rintro ⟨h1, h2, h3, h4⟩
      exact Rcd.ext' h1 h2 h3 h4
  have htag : ∀ t : Rcd, (rcdL t).toArray.extract 3 (3 + 32) = (t.link.map by8).toArray := fun t => by
    have : (t.link.map by8).length = 32 := by simp [t.len]
    apply Array.ext'
    simp only [rcdL, Array.toList_extract, List.extract_eq_take_drop]
    show ((t.link.map by8).take 32) = _
    rw [List.take_of_length_le (by omega)]
  rw [e, run_equalIn_agg (P := Try.prog) w 9999 106 _ _ hf hp]
  unfold Program.fieldsOf
  rw [Try.underlying106]
  exact eqFields_step w 9999 _ _ _ _ rfl _ _ (run_part1 w _ _ _ _ _ Try.underlying32 rfl rfl) (run_part1 w _ _ _ _ _ Try.underlying32 rfl rfl) _ _ (run_equalIn_int w 9998 _ _ _ _ _ Try.underlying32)
    (eqFields_step w 9999 _ _ _ _ rfl _ _ (run_part1 w _ _ _ _ _ Try.underlying5 rfl rfl) (run_part1 w _ _ _ _ _ Try.underlying5 rfl rfl) _ _ (run_equalIn_int w 9998 _ _ _ _ _ Try.underlying5)
    (eqFields_step w 9999 _ _ _ _ rfl _ _ (run_part1 w _ _ _ _ _ Try.underlying24 rfl rfl) (run_part1 w _ _ _ _ _ Try.underlying24 rfl rfl) _ _ (run_equalIn_int w 9998 _ _ _ _ _ Try.underlying24)
    (eqFields_step w 9999 _ _ _ _ rfl _ _ (run_partA w _ _ _ 32 _ _ Try.underlying34 rfl kR (htag a)) (run_partA w _ _ _ 32 _ _ Try.underlying34 rfl kR (htag b)) _ _
      (run_equalIn_map by8 w 9998 _ _ 32 Try.underlying34 kR (isAgg_int Try.underlying5) (fun a b w => eqIn_by8 9997 _ Try.underlying5 a b w) a.link b.link a.len b.len)
    (eqFields_nil w 9999 _ _))))
theorem neqRc (a b : Rcd) (w : World) : (binOp .neq 106 (.agg (rcdL a).toArray) (.agg (rcdL b).toArray)).run Try.prog w = .ok (.bool (!decide (a = b))) w := by
  rw [run_neq_struct, eqRc, Result.andThen_ok]
theorem eqGuardRc : Try.prog.eqGuardType Try.prog.depth 106 = false := by kernel_rfl
end Go.Proofs.Ytfhkmmagpnojmaa
