/- Records: which are valid, in the program and in the specification. No condition but the reach. -/
import Derived.Test.YtfhkmmagpnojmaaZBd
import Derived.Test.YtfhkmmagpnojmaaZBh
import Derived.Test.YtfhkmmagpnojmaaZBg
set_option linter.unusedSimpArgs false
set_option linter.unusedVariables false
namespace Go.Proofs.Ytfhkmmagpnojmaa
open Go.RowKit

theorem leI (n m : Nat) : decide ((n : Int) ≤ (m : Int)) = decide (n ≤ m) := by rw [Bool.eq_iff_iff, decide_eq_true_eq, decide_eq_true_eq]; omega
set_option maxRecDepth 100000 in
set_option maxHeartbeats 1000000 in
theorem in_s (n m : Int) (w0 : World) : Calls Try.prog 43 #[.int .i64 n, .int .i64 m] w0 fun e w' => e = .returned (.bool (decide (0 ≤ n ∧ n ≤ m))) ∧ Has w0 w' [] := by
  have S := Has.start w0
  by_cases h0 : 0 ≤ n
  · have e : decide (0 ≤ n ∧ n ≤ m) = decide (n ≤ m) := by simp [h0]
    rw [e]
    clear e
    go_enter Try.func43, Try.ntmps43
    go_wp2
    go_ret
    exact ⟨rfl, S⟩
  · have e : decide (0 ≤ n ∧ n ≤ m) = false := by simp [h0]
    rw [e]
    clear e
    go_enter Try.func43, Try.ntmps43
    go_wp2
    go_ret
    exact ⟨rfl, S⟩
set_option maxRecDepth 100000 in
set_option maxHeartbeats 1000000 in
theorem code_s (n : Int) (w0 : World) : Calls Try.prog 58 #[.int .i64 n] w0 fun e w' => e = .returned (.bool (decide (0 ≤ n ∧ n ≤ 65535))) ∧ Has w0 w' [] := by
  have S := Has.start w0
  by_cases h0 : 0 ≤ n
  · have e : decide (0 ≤ n ∧ n ≤ 65535) = decide (n ≤ 65535) := by simp [h0]
    rw [e]
    clear e
    go_enter Try.func58, Try.ntmps58
    go_wp2
    go_ret
    exact ⟨rfl, S⟩
  · have e : decide (0 ≤ n ∧ n ≤ 65535) = false := by simp [h0]
    rw [e]
    clear e
    go_enter Try.func58, Try.ntmps58
    go_wp2
    go_ret
    exact ⟨rfl, S⟩
theorem rcdV_parts (x : Rcd) : rcdV x = (decide (x.tick.toNat ≤ 4611686018427387904) && (decide (x.kind.toNat ≤ 6) && decide (0 ≤ x.code.v ∧ x.code.v ≤ 65535))) := by
  unfold rcdV
  rw [Bool.eq_iff_iff]
  simp only [decide_eq_true_eq, Bool.and_eq_true]
set_option maxRecDepth 100000 in
set_option maxHeartbeats 2000000 in
theorem validRecord_s (x : Rcd) (w0 : World) : Calls Try.prog 115 #[.agg (rcdL x).toArray] w0 fun e w' => e = .returned (.bool (rcdV x)) ∧ Has w0 w' [] := by
  have S := Has.start w0
  have pc := fun w => in_s x.code.v 65535 w
  rw [rcdV_parts]
  have h1 := leI x.tick.toNat 4611686018427387904
  have h2 := leI x.kind.toNat 6
  generalize decide (0 ≤ x.code.v ∧ x.code.v ≤ 65535) = cb at *
  by_cases k1 : x.tick.toNat ≤ 4611686018427387904
  · have i1 : (x.tick.toNat : Int) ≤ 4611686018427387904 := by omega
    rw [decide_eq_true k1, Bool.true_and]
    by_cases k2 : x.kind.toNat ≤ 6
    · have i2 : (x.kind.toNat : Int) ≤ 6 := by omega
      rw [decide_eq_true k2, Bool.true_and]
      have PC := Lib.hid pc; clear pc
      clear h1 h2 k1 k2
      go_enter Try.func115, Try.ntmps115
      go_wp2_with (first | ((with_reducible refine iD 1 (.box 106 (.tmp 0)) ?_); refine step_boxA (dst := some 1) S 106 (.tmp 0) _ rfl gw ?_; clear S; intro g1 w S) | ((with_reducible refine iO _ (.load 32 _) ?_); refine step_load1 32 _ _ _ rfl (cL) _ Try.underlying32 rfl gw ?_) | ((with_reducible refine iO _ (.load 5 _) ?_); refine step_load1 5 _ _ _ rfl (cL) _ Try.underlying5 rfl gw ?_) | ((with_reducible refine iO _ (.load 24 _) ?_); refine step_load1 24 _ _ _ rfl (cL) _ Try.underlying24 rfl gw ?_) | (go_at_call 43; (with_reducible refine (PC.out _).mono ?_); rintro e w1 ⟨rfl, T⟩; replace S := S.call T; clear T; (try simp only [z4, z5] at S)) | fail)
      go_ret
      exact ⟨rfl, S.nil⟩
    · have i2 : ¬ (x.kind.toNat : Int) ≤ 6 := by omega
      rw [decide_eq_false k2, Bool.false_and]
      clear h1 h2 k1 k2 pc
      go_enter Try.func115, Try.ntmps115
      go_wp2_with (first | ((with_reducible refine iD 1 (.box 106 (.tmp 0)) ?_); refine step_boxA (dst := some 1) S 106 (.tmp 0) _ rfl gw ?_; clear S; intro g1 w S) | ((with_reducible refine iO _ (.load 32 _) ?_); refine step_load1 32 _ _ _ rfl (cL) _ Try.underlying32 rfl gw ?_) | ((with_reducible refine iO _ (.load 5 _) ?_); refine step_load1 5 _ _ _ rfl (cL) _ Try.underlying5 rfl gw ?_) | ((with_reducible refine iO _ (.load 24 _) ?_); refine step_load1 24 _ _ _ rfl (cL) _ Try.underlying24 rfl gw ?_) | fail)
      go_ret
      exact ⟨rfl, S.nil⟩
  · have i1 : ¬ (x.tick.toNat : Int) ≤ 4611686018427387904 := by omega
    rw [decide_eq_false k1, Bool.false_and]
    clear h1 h2 k1 pc
    go_enter Try.func115, Try.ntmps115
    go_wp2_with (first | ((with_reducible refine iD 1 (.box 106 (.tmp 0)) ?_); refine step_boxA (dst := some 1) S 106 (.tmp 0) _ rfl gw ?_; clear S; intro g1 w S) | ((with_reducible refine iO _ (.load 32 _) ?_); refine step_load1 32 _ _ _ rfl (cL) _ Try.underlying32 rfl gw ?_) | ((with_reducible refine iO _ (.load 5 _) ?_); refine step_load1 5 _ _ _ rfl (cL) _ Try.underlying5 rfl gw ?_) | ((with_reducible refine iO _ (.load 24 _) ?_); refine step_load1 24 _ _ _ rfl (cL) _ Try.underlying24 rfl gw ?_) | fail)
    go_ret
    exact ⟨rfl, S.nil⟩
set_option maxRecDepth 100000 in
set_option maxHeartbeats 2000000 in
theorem refValidRecord_s (x : Rcd) (w0 : World) : Calls Try.prog 66 #[.agg (rcdL x).toArray] w0 fun e w' => e = .returned (.bool (rcdV x)) ∧ Has w0 w' [] := by
  have S := Has.start w0
  have pc := fun w => code_s x.code.v w
  rw [rcdV_parts]
  have h1 := leI x.tick.toNat 4611686018427387904
  have h2 := leI x.kind.toNat 6
  generalize decide (0 ≤ x.code.v ∧ x.code.v ≤ 65535) = cb at *
  by_cases k1 : x.tick.toNat ≤ 4611686018427387904
  · have i1 : (x.tick.toNat : Int) ≤ 4611686018427387904 := by omega
    rw [decide_eq_true k1, Bool.true_and]
    by_cases k2 : x.kind.toNat ≤ 6
    · have i2 : (x.kind.toNat : Int) ≤ 6 := by omega
      rw [decide_eq_true k2, Bool.true_and]
      have PC := Lib.hid pc; clear pc
      clear h1 h2 k1 k2
      go_enter Try.func66, Try.ntmps66
      go_wp2_with (first | ((with_reducible refine iD 1 (.box 106 (.tmp 0)) ?_); refine step_boxA (dst := some 1) S 106 (.tmp 0) _ rfl gw ?_; clear S; intro g1 w S) | ((with_reducible refine iO _ (.load 32 _) ?_); refine step_load1 32 _ _ _ rfl (cL) _ Try.underlying32 rfl gw ?_) | ((with_reducible refine iO _ (.load 5 _) ?_); refine step_load1 5 _ _ _ rfl (cL) _ Try.underlying5 rfl gw ?_) | ((with_reducible refine iO _ (.load 24 _) ?_); refine step_load1 24 _ _ _ rfl (cL) _ Try.underlying24 rfl gw ?_) | (go_at_call 58; (with_reducible refine (PC.out _).mono ?_); rintro e w1 ⟨rfl, T⟩; replace S := S.call T; clear T; (try simp only [z4, z5] at S)) | fail)
      go_ret
      exact ⟨rfl, S.nil⟩
    · have i2 : ¬ (x.kind.toNat : Int) ≤ 6 := by omega
      rw [decide_eq_false k2, Bool.false_and]
      clear h1 h2 k1 k2 pc
      go_enter Try.func66, Try.ntmps66
      go_wp2_with (first | ((with_reducible refine iD 1 (.box 106 (.tmp 0)) ?_); refine step_boxA (dst := some 1) S 106 (.tmp 0) _ rfl gw ?_; clear S; intro g1 w S) | ((with_reducible refine iO _ (.load 32 _) ?_); refine step_load1 32 _ _ _ rfl (cL) _ Try.underlying32 rfl gw ?_) | ((with_reducible refine iO _ (.load 5 _) ?_); refine step_load1 5 _ _ _ rfl (cL) _ Try.underlying5 rfl gw ?_) | ((with_reducible refine iO _ (.load 24 _) ?_); refine step_load1 24 _ _ _ rfl (cL) _ Try.underlying24 rfl gw ?_) | fail)
      go_ret
      exact ⟨rfl, S.nil⟩
  · have i1 : ¬ (x.tick.toNat : Int) ≤ 4611686018427387904 := by omega
    rw [decide_eq_false k1, Bool.false_and]
    clear h1 h2 k1 pc
    go_enter Try.func66, Try.ntmps66
    go_wp2_with (first | ((with_reducible refine iD 1 (.box 106 (.tmp 0)) ?_); refine step_boxA (dst := some 1) S 106 (.tmp 0) _ rfl gw ?_; clear S; intro g1 w S) | ((with_reducible refine iO _ (.load 32 _) ?_); refine step_load1 32 _ _ _ rfl (cL) _ Try.underlying32 rfl gw ?_) | ((with_reducible refine iO _ (.load 5 _) ?_); refine step_load1 5 _ _ _ rfl (cL) _ Try.underlying5 rfl gw ?_) | ((with_reducible refine iO _ (.load 24 _) ?_); refine step_load1 24 _ _ _ rfl (cL) _ Try.underlying24 rfl gw ?_) | fail)
    go_ret
    exact ⟨rfl, S.nil⟩
end Go.Proofs.Ytfhkmmagpnojmaa
