/- Whether the body of a reply is valid. No condition but the reach. -/
import Derived.Test.YtfhkmmagpnojmaaZBd
import Derived.Test.YtfhkmmagpnojmaaZRpB
import Derived.Test.YtfhkmmagpnojmaaZChV
import Derived.Test.YtfhkmmagpnojmaaZChkR
set_option linter.unusedSimpArgs false
set_option linter.unusedVariables false
namespace Go.Proofs.Ytfhkmmagpnojmaa
open Go.RowKit

/-- Whether the fields of a body are those of a valid one. -/
def bkV (q : BK) (r : Rp) : Bool := match q with
  | .n => true
  | .o => decide (0 ≤ r.order.v ∧ r.order.v ≤ 65535)
  | .s => decide (1 ≤ r.state.toNat ∧ r.state.toNat ≤ 5 ∧ r.done.toNat ≤ 4611686018427387904)
  | .w => decide (r.robots.length ≤ 3) && (!(r.robots.any fun x => !sgtV x) && decide (0 ≤ r.queued.v ∧ r.queued.v ≤ 8))
  | .c => chV r.records
  | .t => true
set_option maxRecDepth 100000 in
set_option maxHeartbeats 1000000 in
theorem orderValid_g (n : Int) (w0 : World) : Calls Try.prog 99 #[.int .i64 n] w0 fun e w' => e = .returned (.bool (decide (0 ≤ n ∧ n ≤ 65535))) ∧ Has w0 w' [] := by
  have S := Has.start w0
  have p := fun w => in_s n 65535 w
  obtain ⟨D, hD⟩ : ∃ D, D = decide (0 ≤ n ∧ n ≤ 65535) := ⟨_, rfl⟩
  rw [← hD] at p ⊢
  clear hD
  have P := Lib.hid p; clear p
  go_enter Try.func99, Try.ntmps99
  go_wp2_with (first | (go_at_call 43; (with_reducible refine (P.out _).mono ?_); rintro e w1 ⟨rfl, T⟩; replace S := S.call T; clear T; (try simp only [z4, z5] at S)) | fail)
  go_ret
  exact ⟨rfl, S.nil⟩
set_option maxRecDepth 100000 in
set_option maxHeartbeats 1000000 in
theorem stateValid_s (x : UInt8) (d : UInt64) (w0 : World) : Calls Try.prog 102 #[.agg #[.int .u8 (x.toNat : Int), .int .u64 (d.toNat : Int)]] w0 fun e w' => e = .returned (.bool (decide (1 ≤ x.toNat ∧ x.toNat ≤ 5 ∧ d.toNat ≤ 4611686018427387904))) ∧ Has w0 w' [] := by
  have S := Has.start w0
  obtain ⟨D, hD⟩ : ∃ D, D = decide (1 ≤ x.toNat ∧ x.toNat ≤ 5 ∧ d.toNat ≤ 4611686018427387904) := ⟨_, rfl⟩
  rw [← hD]
  have key : ((x.toNat : Int) < 1 ∧ D = false) ∨ (1 ≤ (x.toNat : Int) ∧ 5 < (x.toNat : Int) ∧ D = false) ∨ (1 ≤ (x.toNat : Int) ∧ (x.toNat : Int) ≤ 5 ∧ 4611686018427387904 < (d.toNat : Int) ∧ D = false) ∨ (1 ≤ (x.toNat : Int) ∧ (x.toNat : Int) ≤ 5 ∧ (d.toNat : Int) ≤ 4611686018427387904 ∧ D = true) := by
    rw [hD]
    simp only [decide_eq_true_eq, decide_eq_false_iff_not]
    omega
  clear hD
  rcases key with ⟨j1, rfl⟩ | ⟨j1, j2, rfl⟩ | ⟨j1, j2, j3, rfl⟩ | ⟨j1, j2, j3, rfl⟩
  all_goals
    go_enter Try.func102, Try.ntmps102
    go_wp2_with (first | ((with_reducible refine iD 1 (.box 124 (.tmp 0)) ?_); refine step_boxA (dst := some 1) S 124 (.tmp 0) _ rfl gw ?_; clear S; intro g1 w S) | ((with_reducible refine iO _ (.load 5 _) ?_); refine step_load1 5 _ _ _ rfl (cL) _ Try.underlying5 rfl gw ?_) | ((with_reducible refine iO _ (.load 32 _) ?_); refine step_load1 32 _ _ _ rfl (cL) _ Try.underlying32 rfl gw ?_) | fail)
    go_ret
    exact ⟨by first | rfl | (simp; omega), S.nil⟩
set_option maxRecDepth 100000 in
set_option maxHeartbeats 2000000 in
theorem odd_s (x : Sgt) (w0 : World) : Calls Try.prog 107 #[.agg (sgtL x).toArray] w0 fun e w' => e = .returned (.bool (!sgtV x)) ∧ Has w0 w' [] := by
  have S := Has.start w0
  have p1 := fun w => in_s x.place.v 63 w
  have p2 := fun w => in_s x.order.v 64 w
  have q0 : (sgtL x).toArray[0]? = some (.int .i64 x.place.v) := rfl
  have q1 : (sgtL x).toArray[1]? = some (.int .u8 (x.state.toNat : Int)) := rfl
  have q2 : (sgtL x).toArray[2]? = some (.int .i64 x.order.v) := rfl
  have hv : sgtV x = (decide (0 ≤ x.place.v ∧ x.place.v ≤ 63) && (decide (x.state.toNat ≤ 8) && decide (0 ≤ x.order.v ∧ x.order.v ≤ 64))) := by
    unfold sgtV
    rw [Bool.eq_iff_iff]
    simp only [Bool.and_eq_true, decide_eq_true_eq]
    omega
  rw [hv]
  obtain ⟨b1, hb1⟩ : ∃ b, b = decide (0 ≤ x.place.v ∧ x.place.v ≤ 63) := ⟨_, rfl⟩
  obtain ⟨b2, hb2⟩ : ∃ b, b = decide (0 ≤ x.order.v ∧ x.order.v ≤ 64) := ⟨_, rfl⟩
  rw [← hb1] at p1 ⊢
  rw [← hb2] at p2 ⊢
  clear hb1 hb2 hv
  by_cases h8 : x.state.toNat ≤ 8
  · have i1 : ¬ 8 < (x.state.toNat : Int) := by omega
    rw [decide_eq_true h8]
    clear h8
    cases b1 <;> cases b2
    all_goals
      have P1 := Lib.hid p1; have P2 := Lib.hid p2; have Q0 := Lib.hid q0; have Q1 := Lib.hid q1; have Q2 := Lib.hid q2; clear p1 p2 q0 q1 q2
      go_enter Try.func107, Try.ntmps107
      go_wp2_with (first | ((with_reducible refine iD 1 (.box 101 (.tmp 0)) ?_); refine step_boxA (dst := some 1) S 101 (.tmp 0) _ rfl gw ?_; clear S; intro g1 w S) | ((with_reducible refine iO _ (.load 3 _) ?_); refine step_load1 3 _ _ _ rfl (cL) _ Try.underlying3 rfl gw ?_) | (go_at_call 43; (with_reducible refine (P1.out _).mono ?_); rintro e w1 ⟨rfl, T⟩; replace S := S.call T; clear T; (try simp only [z4, z5] at S)) | (go_at_call 43; (with_reducible refine (P2.out _).mono ?_); rintro e w1 ⟨rfl, T⟩; replace S := S.call T; clear T; (try simp only [z4, z5] at S)) | ((with_reducible refine iO _ (.load 5 _) ?_); refine step_load1 5 _ _ _ rfl (cL) _ Try.underlying5 rfl gw ?_) | fail)
      go_ret
      exact ⟨by first | rfl | (simp; omega), S.nil⟩
  · have i1 : 8 < (x.state.toNat : Int) := by omega
    rw [decide_eq_false h8]
    clear h8
    cases b1
    all_goals
      have P1 := Lib.hid p1; have P2 := Lib.hid p2; have Q0 := Lib.hid q0; have Q1 := Lib.hid q1; have Q2 := Lib.hid q2; clear p1 p2 q0 q1 q2
      go_enter Try.func107, Try.ntmps107
      go_wp2_with (first | ((with_reducible refine iD 1 (.box 101 (.tmp 0)) ?_); refine step_boxA (dst := some 1) S 101 (.tmp 0) _ rfl gw ?_; clear S; intro g1 w S) | ((with_reducible refine iO _ (.load 3 _) ?_); refine step_load1 3 _ _ _ rfl (cL) _ Try.underlying3 rfl gw ?_) | (go_at_call 43; (with_reducible refine (P1.out _).mono ?_); rintro e w1 ⟨rfl, T⟩; replace S := S.call T; clear T; (try simp only [z4, z5] at S)) | (go_at_call 43; (with_reducible refine (P2.out _).mono ?_); rintro e w1 ⟨rfl, T⟩; replace S := S.call T; clear T; (try simp only [z4, z5] at S)) | ((with_reducible refine iO _ (.load 5 _) ?_); refine step_load1 5 _ _ _ rfl (cL) _ Try.underlying5 rfl gw ?_) | fail)
      go_ret
      exact ⟨by first | rfl | (simp; omega), S.nil⟩
set_option maxRecDepth 100000 in
set_option maxHeartbeats 2000000 in
theorem watchValid_s (v : Value) (l : List Sgt) (n : Int) (w0 : World) (h : Sl w0 3 v l.length (l.flatMap sgtL)) :
    Calls Try.prog 105 #[.agg #[v, .int .i64 n]] w0 fun e w' => e = .returned (.bool (decide (l.length ≤ 3) && (!(l.any fun x => !sgtV x) && decide (0 ≤ n ∧ n ≤ 8)))) ∧ Has w0 w' [] := by
  have S := Has.start w0
  have pc := fun v w h => containsS_s v l 107 Try.f107 (fun x => !sgtV x) w h Try.func107 kR kR odd_s
  have pi := fun w => in_s n 8 w
  obtain ⟨a0, c0, rfl, k1, k2⟩ := Sl.shape h
  obtain ⟨P, hP⟩ : ∃ P, P = l.any fun x => !sgtV x := ⟨_, rfl⟩
  rw [← hP] at pc ⊢
  obtain ⟨I, hI⟩ : ∃ I, I = decide (0 ≤ n ∧ n ≤ 8) := ⟨_, rfl⟩
  rw [← hI] at pi ⊢
  clear hP hI
  by_cases hl : l.length ≤ 3
  · rw [decide_eq_true hl, Bool.true_and]
    have i1 : (l.length : Int) ≤ 3 := by omega
    clear hl
    cases P
    all_goals
      have H := Lib.hid h; have PC := Lib.hid pc; have PI := Lib.hid pi; clear h pc pi
      go_enter Try.func105, Try.ntmps105
      go_wp2_with (first | ((with_reducible refine iD 1 (.box 126 (.tmp 0)) ?_); refine step_boxA (dst := some 1) S 126 (.tmp 0) _ rfl gw ?_; clear S; intro g1 w S) | ((with_reducible refine iO _ (.load 50 _) ?_); refine step_load1 50 _ _ _ rfl (cL) _ Try.underlying50 rfl gw ?_) | (go_at_call 108; (with_reducible refine (PC.out _ _ (S.old H.out)).mono ?_); rintro e w1 ⟨rfl, T⟩; replace S := S.call T; clear T; (try simp only [z4, z5] at S)) | ((with_reducible refine iO _ (.load 3 _) ?_); refine step_load1 3 _ _ _ rfl (cL) _ Try.underlying3 rfl gw ?_) | (go_at_call 43; (with_reducible refine (PI.out _).mono ?_); rintro e w1 ⟨rfl, T⟩; replace S := S.call T; clear T; (try simp only [z4, z5] at S)) | fail)
      go_ret
      exact ⟨by first | rfl | (simp; omega), S.nil⟩
  · rw [decide_eq_false hl, Bool.false_and]
    have i1 : ¬ (l.length : Int) ≤ 3 := by omega
    clear hl
    have H := Lib.hid h; have PC := Lib.hid pc; have PI := Lib.hid pi; clear h pc pi
    go_enter Try.func105, Try.ntmps105
    go_wp2_with (first | ((with_reducible refine iD 1 (.box 126 (.tmp 0)) ?_); refine step_boxA (dst := some 1) S 126 (.tmp 0) _ rfl gw ?_; clear S; intro g1 w S) | ((with_reducible refine iO _ (.load 50 _) ?_); refine step_load1 50 _ _ _ rfl (cL) _ Try.underlying50 rfl gw ?_) | ((with_reducible refine iO _ (.load 3 _) ?_); refine step_load1 3 _ _ _ rfl (cL) _ Try.underlying3 rfl gw ?_) | fail)
    go_ret
    exact ⟨by first | rfl | (simp; omega), S.nil⟩
set_option maxRecDepth 100000 in
set_option maxHeartbeats 1000000 in
theorem nothingValid_s (w0 : World) : Calls Try.prog 96 #[.agg #[]] w0 fun e w' => e = .returned (.bool true) ∧ Has w0 w' [] := by
  have S := Has.start w0
  go_enter Try.func96, Try.ntmps96
  go_wp2_with (first | ((with_reducible refine iD 1 (.box 113 (.tmp 0)) ?_); refine step_boxA (dst := some 1) S 113 (.tmp 0) _ rfl rfl ?_; clear S; intro g1 w S) | fail)
  go_ret
  exact ⟨rfl, S.nil⟩
set_option maxRecDepth 100000 in
set_option maxHeartbeats 1000000 in
theorem ticketValid_s (t : Tok) (w0 : World) : Calls Try.prog 85 #[.agg (tokL t).toArray] w0 fun e w' => e = .returned (.bool true) ∧ Has w0 w' [] := by
  have S := Has.start w0
  go_enter Try.func85, Try.ntmps85
  go_wp2_with (first | ((with_reducible refine iD 1 (.box 73 (.tmp 0)) ?_); refine step_boxA (dst := some 1) S 73 (.tmp 0) _ rfl rfl ?_; clear S; intro g1 w S) | fail)
  go_ret
  exact ⟨rfl, S.nil⟩
set_option maxRecDepth 100000 in
/-- The method 'valid' of a body, whichever it is. -/
theorem bodyValid_s (q : BK) (r : Rp) (ar ac : Option Addr) (nr cr nc cc : Nat) : ∃ f args, (∀ w, (callMethod (bodyK q r (.slice ar nr cr) (.slice ac nc cc)) "dunnage/wire.valid" #[]).run Try.prog w = .ok (.enter f args) w) ∧
    ∀ w, Sl w 3 (.slice ar nr cr) r.robots.length (r.robots.flatMap sgtL) → Sl w 35 (.slice ac nc cc) r.records.length (r.records.flatMap rcdL) → Calls Try.prog f args w fun e w' => e = .returned (.bool (bkV q r)) ∧ Has w w' [] := by
  cases q with
  | n => exact ⟨96, #[.agg #[]], fun w => by kernel_rfl, fun w _ _ => nothingValid_s w⟩
  | o => exact ⟨99, #[.int .i64 r.order.v], fun w => by kernel_rfl, fun w _ _ => orderValid_g r.order.v w⟩
  | s => exact ⟨102, #[.agg #[.int .u8 (r.state.toNat : Int), .int .u64 (r.done.toNat : Int)]], fun w => by kernel_rfl, fun w _ _ => stateValid_s r.state r.done w⟩
  | w => exact ⟨105, #[.agg #[.slice ar nr cr, .int .i64 r.queued.v]], fun w => by kernel_rfl, fun w h _ => watchValid_s _ r.robots r.queued.v w h⟩
  | c => exact ⟨111, #[.agg #[.int .u32 (r.count.toNat : Int), .slice ac nc cc]], fun w => by kernel_rfl, fun w _ h => chainV_s r.count.toNat _ r.records w h⟩
  | t => exact ⟨85, #[.agg (tokL r.tok).toArray], fun w => by kernel_rfl, fun w _ _ => ticketValid_s r.tok w⟩
end Go.Proofs.Ytfhkmmagpnojmaa
