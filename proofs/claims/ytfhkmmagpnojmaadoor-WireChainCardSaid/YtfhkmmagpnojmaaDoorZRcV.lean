/- Records: which are valid, in the program and in the specification. No condition but the reach. -/
import Derived.Test.YtfhkmmagpnojmaaDoorZBd
import Derived.Test.YtfhkmmagpnojmaaDoorZBh
import Derived.Test.YtfhkmmagpnojmaaDoorZBg
set_option linter.unusedSimpArgs false
set_option linter.unusedVariables false
namespace Go.Proofs.YtfhkmmagpnojmaaDoor
open Go.RowKit

theorem leI (n m : Nat) : decide ((n : Int) ≤ (m : Int)) = decide (n ≤ m) := by rw [Bool.eq_iff_iff, decide_eq_true_eq, decide_eq_true_eq]; omega
set_option maxRecDepth 100000 in
set_option maxHeartbeats 1000000 in
theorem in_s (n m : Int) (w0 : World) : Calls Tryd.prog 71 #[.int .i64 n, .int .i64 m] w0 fun e w' => e = .returned (.bool (decide (0 ≤ n ∧ n ≤ m))) ∧ Has w0 w' [] := by
  have S := Has.start w0
  by_cases h0 : 0 ≤ n
  · have e : decide (0 ≤ n ∧ n ≤ m) = decide (n ≤ m) := by simp [h0]
    rw [e]
    clear e
    go_enter Tryd.func71, Tryd.ntmps71
    go_wp2
    go_ret
    exact ⟨rfl, S⟩
  · have e : decide (0 ≤ n ∧ n ≤ m) = false := by simp [h0]
    rw [e]
    clear e
    go_enter Tryd.func71, Tryd.ntmps71
    go_wp2
    go_ret
    exact ⟨rfl, S⟩
theorem rcdV_parts (x : Rcd) : rcdV x = (decide (x.tick.toNat ≤ 4611686018427387904) && (decide (x.kind.toNat ≤ 6) && decide (0 ≤ x.code.v ∧ x.code.v ≤ 65535))) := by
  unfold rcdV
  rw [Bool.eq_iff_iff]
  simp only [decide_eq_true_eq, Bool.and_eq_true]
set_option maxRecDepth 100000 in
set_option maxHeartbeats 2000000 in
theorem validRecord_s (x : Rcd) (w0 : World) : Calls Tryd.prog 46 #[.agg (rcdL x).toArray] w0 fun e w' => e = .returned (.bool (rcdV x)) ∧ Has w0 w' [] := by
  have S := Has.start w0
  have pc := fun w => in_s x.code.v 65535 w
  rw [rcdV_parts]
  have h1 := leI x.tick.toNat 4611686018427387904
  have h2 := leI x.kind.toNat 6
  generalize decide (0 ≤ x.code.v ∧ x.code.v ≤ 65535) = cb at *
  by_cases k1 : x.tick.toNat ≤ 4611686018427387904
  · have i1 : (x.tick.toNat : Int) ≤ 4611686018427387904 := by omega
    rw [decide_eq_true k1, Bool.true_and]
    by_cases k2 : x.kind.toNat ≤ 6
    · have i2 : (x.kind.toNat : Int) ≤ 6 := by omega
      rw [decide_eq_true k2, Bool.true_and]
      have PC := Lib.hid pc; clear pc
      clear h1 h2 k1 k2
      go_enter Tryd.func46, Tryd.ntmps46
      go_wp2_with (first | ((with_reducible refine iD 1 (.box 50 (.tmp 0)) ?_); refine step_boxA (dst := some 1) S 50 (.tmp 0) _ rfl gw ?_; clear S; intro g1 w S) | ((with_reducible refine iO _ (.load 23 _) ?_); refine step_load1 23 _ _ _ rfl (cL) _ Tryd.underlying23 rfl gw ?_) | ((with_reducible refine iO _ (.load 5 _) ?_); refine step_load1 5 _ _ _ rfl (cL) _ Tryd.underlying5 rfl gw ?_) | ((with_reducible refine iO _ (.load 24 _) ?_); refine step_load1 24 _ _ _ rfl (cL) _ Tryd.underlying24 rfl gw ?_) | (go_at_call 71; (with_reducible refine (PC.out _).mono ?_); rintro e w1 ⟨rfl, T⟩; replace S := S.call T; clear T; (try simp only [z4, z5] at S)) | fail)
      go_ret
      exact ⟨rfl, S.nil⟩
    · have i2 : ¬ (x.kind.toNat : Int) ≤ 6 := by omega
      rw [decide_eq_false k2, Bool.false_and]
      clear h1 h2 k1 k2 pc
      go_enter Tryd.func46, Tryd.ntmps46
      go_wp2_with (first | ((with_reducible refine iD 1 (.box 50 (.tmp 0)) ?_); refine step_boxA (dst := some 1) S 50 (.tmp 0) _ rfl gw ?_; clear S; intro g1 w S) | ((with_reducible refine iO _ (.load 23 _) ?_); refine step_load1 23 _ _ _ rfl (cL) _ Tryd.underlying23 rfl gw ?_) | ((with_reducible refine iO _ (.load 5 _) ?_); refine step_load1 5 _ _ _ rfl (cL) _ Tryd.underlying5 rfl gw ?_) | ((with_reducible refine iO _ (.load 24 _) ?_); refine step_load1 24 _ _ _ rfl (cL) _ Tryd.underlying24 rfl gw ?_) | fail)
      go_ret
      exact ⟨rfl, S.nil⟩
  · have i1 : ¬ (x.tick.toNat : Int) ≤ 4611686018427387904 := by omega
    rw [decide_eq_false k1, Bool.false_and]
    clear h1 h2 k1 pc
    go_enter Tryd.func46, Tryd.ntmps46
    go_wp2_with (first | ((with_reducible refine iD 1 (.box 50 (.tmp 0)) ?_); refine step_boxA (dst := some 1) S 50 (.tmp 0) _ rfl gw ?_; clear S; intro g1 w S) | ((with_reducible refine iO _ (.load 23 _) ?_); refine step_load1 23 _ _ _ rfl (cL) _ Tryd.underlying23 rfl gw ?_) | ((with_reducible refine iO _ (.load 5 _) ?_); refine step_load1 5 _ _ _ rfl (cL) _ Tryd.underlying5 rfl gw ?_) | ((with_reducible refine iO _ (.load 24 _) ?_); refine step_load1 24 _ _ _ rfl (cL) _ Tryd.underlying24 rfl gw ?_) | fail)
    go_ret
    exact ⟨rfl, S.nil⟩
theorem build_rc3 (x y z : Int) (w : World) : (Instr.build 50 #[(0, .int .u64 x), (1, .int .u8 y), (2, .int .i64 z)]).run Tryd.prog w = .ok (.agg ([Value.int .u64 x, .int .u8 y, .int .i64 z] ++ zs32.map by8).toArray) w := by kernel_rfl
set_option maxRecDepth 100000 in
/-- A record without a link. -/
theorem step_buildRc3 {ops : Array Oper} {rest : List Oper} {a : Act} {w : World} {Q : Exit → Act → World → Prop} {dst : Option Tmp} {ty : TypeId} {pos : String} {after : Array Edge} {gd : Option (Nat × Bool)} (x y z : Operand) (t : UInt64) (k : UInt8) (c : I64)
    (hx : a.eval x = .int .u64 (t.toNat : Int)) (hy : a.eval y = by8 k) (hz : a.eval z = .int .i64 c.v)
    (hw : Region.wanted ⟨dst, .build 50 #[(0, x), (1, y), (2, z)], ty, pos, after, gd⟩ (yielded ops a.tmps) = true)
    (h : wpList Tryd.prog ops Q rest (a.put dst (.agg (rcdL ⟨t, k, c, zs32, rfl⟩).toArray)) w) : wpList Tryd.prog ops Q (⟨dst, .build 50 #[(0, x), (1, y), (2, z)], ty, pos, after, gd⟩ :: rest) a w := by
  refine step_val (v := .agg (rcdL ⟨t, k, c, zs32, rfl⟩).toArray) hw ?_ h
  have hp : (#[(0, x), (1, y), (2, z)].map fun (i, x) => (i, a.eval x)) = #[(0, .int .u64 (t.toNat : Int)), (1, .int .u8 (k.toNat : Int)), (2, .int .i64 c.v)] := by simp [hx, hy, hz]
  have := build_rc3 t.toNat k.toNat c.v w
  simp only [execOp, hp, Sem.run_bind, this, Result.andThen_ok, Sem.run_pure]
  rfl
end Go.Proofs.YtfhkmmagpnojmaaDoor
