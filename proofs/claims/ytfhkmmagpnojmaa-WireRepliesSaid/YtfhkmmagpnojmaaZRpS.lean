/- sameReply, for replies of one kind, code and tick. No condition but the reach. -/
import Derived.Test.YtfhkmmagpnojmaaZBd
import Derived.Test.YtfhkmmagpnojmaaZRpE1
import Derived.Test.YtfhkmmagpnojmaaZBg
import Derived.Test.YtfhkmmagpnojmaaZBe
set_option linter.unusedSimpArgs false
set_option linter.unusedVariables false
namespace Go.Proofs.Ytfhkmmagpnojmaa
open Go.RowKit

theorem rp_eq (a b : Rp) (h0 : a.kind = b.kind) (h1 : a.code = b.code) (h2 : a.tick = b.tick) :
    decide (a = b) = (decide (a.order = b.order) && (decide (a.state = b.state) && (decide (a.done = b.done) && (decide (a.robots = b.robots) && (decide (a.queued = b.queued) && (decide (a.count = b.count) && (decide (a.records = b.records) && decide (a.tok = b.tok)))))))) := by
  rw [Bool.eq_iff_iff]
  simp only [Bool.and_eq_true, decide_eq_true_eq]
  constructor
  · rintro rfl; exact ⟨rfl, rfl, rfl, rfl, rfl, rfl, rfl, rfl⟩
  · rintro ⟨h3, h4, h5, h6, h7, h8, h9, h10⟩
    exact Rp.ext' h0 h1 h2 h3 h4 h5 h6 h7 h8 h9 h10
set_option maxRecDepth 100000 in
set_option maxHeartbeats 16000000 in
theorem sameReply_s (a b : Rp) (va vb vc vd : Value) (w0 : World) (h0 : a.kind = b.kind) (h1 : a.code = b.code) (h2 : a.tick = b.tick)
    (hva : Sl w0 3 va a.robots.length (a.robots.flatMap sgtL)) (hvb : Sl w0 35 vb a.records.length (a.records.flatMap rcdL)) (hvc : Sl w0 3 vc b.robots.length (b.robots.flatMap sgtL)) (hvd : Sl w0 35 vd b.records.length (b.records.flatMap rcdL)) :
    Calls Try.prog 45 #[.agg (rpL a va vb).toArray, .agg (rpL b vc vd).toArray] w0 fun e w' => e = .returned (.bool (decide (a = b))) ∧ Has w0 w' [] := by
  have S := Has.start w0
  obtain ⟨D, hD⟩ : ∃ D, D = decide (a = b) := ⟨_, rfl⟩
  have hDe := rp_eq a b h0 h1 h2
  rw [← hD] at hDe
  rw [← hD]
  have p1 := fun w h1 h2 => equalSg_s va vc a.robots b.robots w h1 h2
  have p2 := fun w h1 h2 => equalRc_s vb vd a.records b.records w h1 h2
  have he := fun w => eqlT a.tok b.tok w
  have eg := eqGuardT
  have f0 : ((a.kind.toNat : Int) == (b.kind.toNat : Int)) = true := by rw [h0, beq_self_eq_true]
  have f1 : (a.code.v == b.code.v) = true := by rw [h1, beq_self_eq_true]
  have f2 : ((a.tick.toNat : Int) == (b.tick.toNat : Int)) = true := by rw [h2, beq_self_eq_true]
  have f3 := beqI a.order b.order
  have f4 := beqU8 a.state b.state
  have f5 := beqU64 a.done b.done
  have f7 := beqI a.queued b.queued
  have f8 := beqU32 a.count b.count
  obtain ⟨x3, hx3⟩ : ∃ x, x = decide (a.order = b.order) := ⟨_, rfl⟩
  obtain ⟨x4, hx4⟩ : ∃ x, x = decide (a.state = b.state) := ⟨_, rfl⟩
  obtain ⟨x5, hx5⟩ : ∃ x, x = decide (a.done = b.done) := ⟨_, rfl⟩
  obtain ⟨x6, hx6⟩ : ∃ x, x = decide (a.robots = b.robots) := ⟨_, rfl⟩
  obtain ⟨x7, hx7⟩ : ∃ x, x = decide (a.queued = b.queued) := ⟨_, rfl⟩
  obtain ⟨x8, hx8⟩ : ∃ x, x = decide (a.count = b.count) := ⟨_, rfl⟩
  obtain ⟨x9, hx9⟩ : ∃ x, x = decide (a.records = b.records) := ⟨_, rfl⟩
  obtain ⟨x10, hx10⟩ : ∃ x, x = decide (a.tok = b.tok) := ⟨_, rfl⟩
  rw [← hx3] at f3 hDe
  rw [← hx4] at f4 hDe
  rw [← hx5] at f5 hDe
  rw [← hx6] at p1 hDe
  rw [← hx7] at f7 hDe
  rw [← hx8] at f8 hDe
  rw [← hx9] at p2 hDe
  rw [← hx10] at hDe
  simp only [← hx10] at he
  have a0 := rpL_0 a va vb
  have a1 := rpL_1 a va vb
  have a2 := rpL_2 a va vb
  have a3 := rpL_3 a va vb
  have a4 := rpL_4 a va vb
  have a5 := rpL_5 a va vb
  have a6 := rpL_6 a va vb
  have a7 := rpL_7 a va vb
  have a8 := rpL_8 a va vb
  have a9 := rpL_9 a va vb
  have at' := rpL_tok a va vb
  have b0 := rpL_0 b vc vd
  have b1 := rpL_1 b vc vd
  have b2 := rpL_2 b vc vd
  have b3 := rpL_3 b vc vd
  have b4 := rpL_4 b vc vd
  have b5 := rpL_5 b vc vd
  have b6 := rpL_6 b vc vd
  have b7 := rpL_7 b vc vd
  have b8 := rpL_8 b vc vd
  have b9 := rpL_9 b vc vd
  have bt := rpL_tok b vc vd
  have key : x3 = false ∨ (x3 = true ∧ (x4 = false ∨ (x4 = true ∧ (x5 = false ∨ (x5 = true ∧ (x6 = false ∨ (x6 = true ∧ (x7 = false ∨ (x7 = true ∧ (x8 = false ∨ (x8 = true ∧ (x9 = false ∨ x9 = true)))))))))))) := by
    cases x3 <;> cases x4 <;> cases x5 <;> cases x6 <;> cases x7 <;> cases x8 <;> cases x9 <;> simp
  clear hx3 hx4 hx5 hx6 hx7 hx8 hx9 hx10 h0 h1 h2 hD
  rcases key with rfl | ⟨rfl, rfl | ⟨rfl, rfl | ⟨rfl, rfl | ⟨rfl, rfl | ⟨rfl, rfl | ⟨rfl, rfl | rfl⟩⟩⟩⟩⟩⟩
  all_goals
    simp only [Bool.false_and, Bool.true_and] at hDe
    have A0 := Lib.hid a0; have A1 := Lib.hid a1; have A2 := Lib.hid a2; have A3 := Lib.hid a3; have A4 := Lib.hid a4; have A5 := Lib.hid a5; have A6 := Lib.hid a6; have A7 := Lib.hid a7; have A8 := Lib.hid a8; have A9 := Lib.hid a9; have B0 := Lib.hid b0; have B1 := Lib.hid b1; have B2 := Lib.hid b2; have B3 := Lib.hid b3; have B4 := Lib.hid b4; have B5 := Lib.hid b5; have B6 := Lib.hid b6; have B7 := Lib.hid b7; have B8 := Lib.hid b8; have B9 := Lib.hid b9; have AT' := Lib.hid at'; have BT := Lib.hid bt; have P1 := Lib.hid p1; have P2 := Lib.hid p2; have HVA := Lib.hid hva; have HVB := Lib.hid hvb; have HVC := Lib.hid hvc; have HVD := Lib.hid hvd; have HDE := Lib.hid hDe; clear a0 a1 a2 a3 a4 a5 a6 a7 a8 a9 b0 b1 b2 b3 b4 b5 b6 b7 b8 b9 at' bt p1 p2 hva hvb hvc hvd hDe
    go_enter Try.func45, Try.ntmps45
    simp only [List.append_eq, List.cons_append, List.nil_append]
    go_wp2_with (first | ((with_reducible refine iD 2 (.box 53 (.tmp 0)) ?_); refine step_boxA (dst := some 2) S 53 (.tmp 0) _ rfl gw ?_; clear S; intro g2 w S) | ((with_reducible refine iD 3 (.box 53 (.tmp 1)) ?_); refine step_boxA (dst := some 3) S 53 (.tmp 1) _ rfl gw ?_; clear S; intro g3 w S) | ((with_reducible refine iO _ (.load 5 _) ?_); refine step_load1 5 _ _ _ rfl (cL) _ Try.underlying5 rfl gw ?_) | ((with_reducible refine iO _ (.load 24 _) ?_); refine step_load1 24 _ _ _ rfl (cL) _ Try.underlying24 rfl gw ?_) | ((with_reducible refine iO _ (.load 32 _) ?_); refine step_load1 32 _ _ _ rfl (cL) _ Try.underlying32 rfl gw ?_) | ((with_reducible refine iO _ (.load 3 _) ?_); refine step_load1 3 _ _ _ rfl (cL) _ Try.underlying3 rfl gw ?_) | ((with_reducible refine iO _ (.load 50 _) ?_); refine step_load1 50 _ _ _ rfl (cL) _ Try.underlying50 rfl gw ?_) | (go_at_call 61; (with_reducible refine (P1.out _ (S.old HVA.out) (S.old HVC.out)).mono ?_); rintro e w1 ⟨rfl, T⟩; replace S := S.call T; clear T; (try simp only [z4, z5] at S)) | ((with_reducible refine iO _ (.load 33 _) ?_); refine step_load1 33 _ _ _ rfl (cL) _ Try.underlying33 rfl gw ?_) | ((with_reducible refine iO _ (.load 51 _) ?_); refine step_load1 51 _ _ _ rfl (cL) _ Try.underlying51 rfl gw ?_) | (go_at_call 62; (with_reducible refine (P2.out _ (S.old HVB.out) (S.old HVD.out)).mono ?_); rintro e w1 ⟨rfl, T⟩; replace S := S.call T; clear T; (try simp only [z4, z5] at S)) | ((with_reducible refine iO _ (.load 36 _) ?_); first | (refine step_loadR 36 _ _ _ rfl _ (S.old_range hy) _ Try.underlying36 rfl 36 kR lN _ rfl gw ?_) | (refine step_loadP S 36 _ _ _ rfl _ _ _ pk 36 _ pT lN _ Try.underlying36 rfl kR gw ?_)) | fail)
    go_ret
    exact ⟨by rw [HDE.out]; rfl, S.nil⟩
end Go.Proofs.Ytfhkmmagpnojmaa
