/- A chain of records: its validity; the program's Verify. No condition but the table of constants and the reach. -/
import Derived.Test.YtfhkmmagpnojmaaDoorZBd
import Derived.Test.YtfhkmmagpnojmaaDoorZIdxF
import Derived.Test.YtfhkmmagpnojmaaDoorZLnkR
set_option linter.unusedSimpArgs false
set_option linter.unusedVariables false
namespace Go.Proofs.YtfhkmmagpnojmaaDoor
open Go.RowKit

set_option maxRecDepth 100000 in
set_option maxHeartbeats 1000000 in
theorem chain1_s (x : Rcd) (w0 : World) : Calls Tryd.prog 81 #[.agg (rcdL x).toArray] w0 fun e w' => e = .returned (.bool (!rcdV x)) ∧ Has w0 w' [] := by
  have S := Has.start w0
  have pv := fun w => validRecord_s x w
  have PV := Lib.hid pv; clear pv
  go_enter Tryd.func81, Tryd.ntmps81
  go_wp2_with (first | ((with_reducible refine iD 1 (.box 50 (.tmp 0)) ?_); refine step_boxA (dst := some 1) S 50 (.tmp 0) _ rfl rfl ?_; clear S; intro g1 w S) | ((with_reducible refine iO _ (.load 50 _) ?_); first | (refine step_load S 50 _ _ rfl _ _ _ pk _ Tryd.underlying50 rfl 35 kR lN rfl ?_) | (refine step_loadO 50 _ _ rfl _ _ _ (S.old_heap (Hid.out (by assumption))) _ Tryd.underlying50 rfl 35 kR lN rfl ?_) | (refine step_loadR 50 _ _ _ rfl _ (S.old_range hy) _ Tryd.underlying50 rfl 35 kR lN _ rfl rfl ?_)) | (go_at_call 46; (with_reducible refine (PV.out _).mono ?_); rintro e w1 ⟨rfl, T⟩; replace S := S.call T; clear T; (try simp only [z4, z5] at S)) | fail)
  go_ret
  exact ⟨rfl, S.nil⟩
def chV (l : List Rcd) : Bool := decide (l.length ≤ 32) && !(l.any fun x => !rcdV x)
theorem chV_iff (l : List Rcd) : chV l = true ↔ l.length ≤ 32 ∧ ∀ x ∈ l, rcdV x = true := by simp [chV]
set_option maxRecDepth 100000 in
set_option maxHeartbeats 1000000 in
theorem chainV_s (n : Int) (v : Value) (l : List Rcd) (w0 : World) (h : Sl w0 35 v l.length (l.flatMap rcdL)) :
    Calls Tryd.prog 50 #[.agg #[.int .u32 n, v]] w0 fun e w' => e = .returned (.bool (chV l)) ∧ Has w0 w' [] := by
  have S := Has.start w0
  have pc := fun v w h => containsR_s v l 81 Tryd.f81 (fun x => !rcdV x) w h Tryd.func81 kR kR chain1_s
  obtain ⟨a0, c0, rfl, k1, k2⟩ := Sl.shape h
  unfold chV
  obtain ⟨P, hP⟩ : ∃ P, P = l.any fun x => !rcdV x := ⟨_, rfl⟩
  rw [← hP] at pc ⊢
  clear hP
  by_cases hl : l.length ≤ 32
  · rw [decide_eq_true hl, Bool.true_and]
    have i1 : (l.length : Int) ≤ 32 := by omega
    have H := Lib.hid h; have PC := Lib.hid pc; clear h pc
    go_enter Tryd.func50, Tryd.ntmps50
    go_wp2_with (first | ((with_reducible refine iD 1 (.box 108 (.tmp 0)) ?_); refine step_boxA (dst := some 1) S 108 (.tmp 0) _ rfl gw ?_; clear S; intro g1 w S) | ((with_reducible refine iO _ (.load 31 _) ?_); refine step_load1 31 _ _ _ rfl (cL) _ Tryd.underlying31 rfl gw ?_) | (go_at_call 80; (with_reducible refine (PC.out _ _ (S.old H.out)).mono ?_); rintro e w1 ⟨rfl, T⟩; replace S := S.call T; clear T; (try simp only [z4, z5] at S)) | fail)
    go_ret
    exact ⟨rfl, S.nil⟩
  · rw [decide_eq_false hl, Bool.false_and]
    have i1 : ¬ (l.length : Int) ≤ 32 := by omega
    have H := Lib.hid h; have PC := Lib.hid pc; clear h pc
    go_enter Tryd.func50, Tryd.ntmps50
    go_wp2_with (first | ((with_reducible refine iD 1 (.box 108 (.tmp 0)) ?_); refine step_boxA (dst := some 1) S 108 (.tmp 0) _ rfl gw ?_; clear S; intro g1 w S) | ((with_reducible refine iO _ (.load 31 _) ?_); refine step_load1 31 _ _ _ rfl (cL) _ Tryd.underlying31 rfl gw ?_) | fail)
    go_ret
    exact ⟨rfl, S.nil⟩
set_option maxRecDepth 100000 in
set_option maxHeartbeats 1000000 in
theorem long_s (v : Value) (b : List UInt8) (w0 : World) (h : Bs w0 v b) : Calls Tryd.prog 52 #[v] w0 fun e w' => e = .returned (.bool (decide (64 < b.length))) ∧ Has w0 w' [] := by
  have S := Has.start w0
  obtain ⟨a0, c0, rfl, k1, k2⟩ := h.shape
  clear h
  have e : decide ((64 : Int) < (b.length : Int)) = decide (64 < b.length) := by rw [Bool.eq_iff_iff, decide_eq_true_eq, decide_eq_true_eq]; omega
  have E := Lib.hid e; clear e
  go_enter Tryd.func52, Tryd.ntmps52
  go_wp2_with (first | fail)
  go_ret
  exact ⟨by rw [← E.out]; rfl, S⟩
theorem build_ch (a : Option Addr) (n c : Nat) (w : World) : (Instr.build 108 #[(1, .slice a n c)]).run Tryd.prog w = .ok (.agg #[.int .u32 0, .slice a n c]) w := by kernel_rfl
end Go.Proofs.YtfhkmmagpnojmaaDoor
