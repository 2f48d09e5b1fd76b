/- The records of a chain are valid. No condition but the reach. -/
import Derived.Test.YtfhkmmagpnojmaaZBd
import Derived.Test.YtfhkmmagpnojmaaZIdxF
import Derived.Test.YtfhkmmagpnojmaaZRcV
set_option linter.unusedSimpArgs false
set_option linter.unusedVariables false
namespace Go.Proofs.Ytfhkmmagpnojmaa
open Go.RowKit

set_option maxRecDepth 100000 in
set_option maxHeartbeats 1000000 in
theorem chain1_s (x : Rcd) (w0 : World) : Calls Try.prog 114 #[.agg (rcdL x).toArray] w0 fun e w' => e = .returned (.bool (!rcdV x)) ∧ Has w0 w' [] := by
  have S := Has.start w0
  have pv := fun w => validRecord_s x w
  have PV := Lib.hid pv; clear pv
  go_enter Try.func114, Try.ntmps114
  go_wp2_with (first | ((with_reducible refine iD 1 (.box 106 (.tmp 0)) ?_); refine step_boxA (dst := some 1) S 106 (.tmp 0) _ rfl rfl ?_; clear S; intro g1 w S) | ((with_reducible refine iO _ (.load 106 _) ?_); first | (refine step_load S 106 _ _ rfl _ _ _ pk _ Try.underlying106 rfl 35 kR lN rfl ?_) | (refine step_loadO 106 _ _ rfl _ _ _ (S.old_heap (Hid.out (by assumption))) _ Try.underlying106 rfl 35 kR lN rfl ?_) | (refine step_loadR 106 _ _ _ rfl _ (S.old_range hy) _ Try.underlying106 rfl 35 kR lN _ rfl rfl ?_)) | (go_at_call 115; (with_reducible refine (PV.out _).mono ?_); rintro e w1 ⟨rfl, T⟩; replace S := S.call T; clear T; (try simp only [z4, z5] at S)) | fail)
  go_ret
  exact ⟨rfl, S.nil⟩
def chV (l : List Rcd) : Bool := decide (l.length ≤ 32) && !(l.any fun x => !rcdV x)
theorem chV_iff (l : List Rcd) : chV l = true ↔ l.length ≤ 32 ∧ ∀ x ∈ l, rcdV x = true := by simp [chV]
set_option maxRecDepth 100000 in
set_option maxHeartbeats 1000000 in
theorem chainV_s (n : Int) (v : Value) (l : List Rcd) (w0 : World) (h : Sl w0 35 v l.length (l.flatMap rcdL)) :
    Calls Try.prog 111 #[.agg #[.int .u32 n, v]] w0 fun e w' => e = .returned (.bool (chV l)) ∧ Has w0 w' [] := by
  have S := Has.start w0
  have pc := fun v w h => containsR_s v l 114 Try.f114 (fun x => !rcdV x) w h Try.func114 kR kR chain1_s
  obtain ⟨a0, c0, rfl, k1, k2⟩ := Sl.shape h
  unfold chV
  obtain ⟨P, hP⟩ : ∃ P, P = l.any fun x => !rcdV x := ⟨_, rfl⟩
  rw [← hP] at pc ⊢
  clear hP
  by_cases hl : l.length ≤ 32
  · rw [decide_eq_true hl, Bool.true_and]
    have i1 : (l.length : Int) ≤ 32 := by omega
    have H := Lib.hid h; have PC := Lib.hid pc; clear h pc
    go_enter Try.func111, Try.ntmps111
    go_wp2_with (first | ((with_reducible refine iD 1 (.box 128 (.tmp 0)) ?_); refine step_boxA (dst := some 1) S 128 (.tmp 0) _ rfl gw ?_; clear S; intro g1 w S) | ((with_reducible refine iO _ (.load 51 _) ?_); refine step_load1 51 _ _ _ rfl (cL) _ Try.underlying51 rfl gw ?_) | (go_at_call 113; (with_reducible refine (PC.out _ _ (S.old H.out)).mono ?_); rintro e w1 ⟨rfl, T⟩; replace S := S.call T; clear T; (try simp only [z4, z5] at S)) | fail)
    go_ret
    exact ⟨rfl, S.nil⟩
  · rw [decide_eq_false hl, Bool.false_and]
    have i1 : ¬ (l.length : Int) ≤ 32 := by omega
    have H := Lib.hid h; have PC := Lib.hid pc; clear h pc
    go_enter Try.func111, Try.ntmps111
    go_wp2_with (first | ((with_reducible refine iD 1 (.box 128 (.tmp 0)) ?_); refine step_boxA (dst := some 1) S 128 (.tmp 0) _ rfl gw ?_; clear S; intro g1 w S) | ((with_reducible refine iO _ (.load 51 _) ?_); refine step_load1 51 _ _ _ rfl (cL) _ Try.underlying51 rfl gw ?_) | fail)
    go_ret
    exact ⟨rfl, S.nil⟩
end Go.Proofs.Ytfhkmmagpnojmaa
