/- Several texts under one header: what the claim needs of RpC, RpY, RpI, Whl, Whl2. No condition but those that each names. -/
import Derived.Test.YtfhkmmagpnojmaaDoorYR1
import Derived.Test.YtfhkmmagpnojmaaDoorYR9
import Derived.Test.YtfhkmmagpnojmaaDoorYR8
import Derived.Test.YtfhkmmagpnojmaaDoorYR7
import Derived.Defers
import Derived.Recover
set_option linter.unusedSimpArgs false
set_option linter.unusedVariables false

/- CheckReply. No condition but the reach. -/
namespace Go.Proofs.YtfhkmmagpnojmaaDoor
open Go.RowKit

/-- Whether a kind may have a code. -/
def cdB (k : UInt8) (c : Int) : Bool := if k = 0 then decide (c ≠ 0) else if k = 16 then decide (c = 0) else if k = 17 then decide (c = 280) else decide (k.toNat ≤ 6 ∨ k = 18)
set_option maxRecDepth 100000 in
set_option maxHeartbeats 2000000 in
theorem coded_s (k : UInt8) (c : Int) (w0 : World) : Calls Tryd.prog 72 #[.int .u8 (k.toNat : Int), .int .i64 c] w0 fun e w' => e = .returned (.bool (cdB k c)) ∧ Has w0 w' [] := by
  have S := Has.start w0
  have e0 := eqU8 k 0
  have e16 := eqU8 k 16
  have e17 := eqU8 k 17
  have e18 := eqU8 k 18
  simp only [show ((0 : UInt8).toNat : Int) = 0 from rfl, show ((16 : UInt8).toNat : Int) = 16 from rfl, show ((17 : UInt8).toNat : Int) = 17 from rfl, show ((18 : UInt8).toNat : Int) = 18 from rfl] at e0 e16 e17 e18
  obtain ⟨D, hD⟩ : ∃ D, D = cdB k c := ⟨_, rfl⟩
  rw [← hD]
  unfold cdB at hD
  have n0 : (c != 0) = decide (c ≠ 0) := by rw [Bool.eq_iff_iff, bne_iff_ne, decide_eq_true_eq]
  have n1 : (c == 0) = decide (c = 0) := by rw [Bool.eq_iff_iff, beq_iff_eq, decide_eq_true_eq]
  have n2 : (c == 280) = decide (c = 280) := by rw [Bool.eq_iff_iff, beq_iff_eq, decide_eq_true_eq]
  have key : (((k.toNat : Int) == 0) = true ∧ (c != 0) = D) ∨ (((k.toNat : Int) == 0) = false ∧ ((((k.toNat : Int) == 16) = true ∧ (c == 0) = D) ∨ (((k.toNat : Int) == 16) = false ∧ ((((k.toNat : Int) == 17) = true ∧ (c == 280) = D) ∨ (((k.toNat : Int) == 17) = false ∧ (((k.toNat : Int) ≤ 6 ∧ D = true) ∨ (¬ (k.toNat : Int) ≤ 6 ∧ ((k.toNat : Int) == 18) = D))))))) := by
    rw [e0, e16, e17, e18, n0, n1, n2]
    by_cases h0 : k = 0
    · rw [if_pos h0] at hD; exact .inl ⟨decide_eq_true h0, hD.symm⟩
    rw [if_neg h0] at hD
    refine .inr ⟨decide_eq_false h0, ?_⟩
    by_cases h16 : k = 16
    · rw [if_pos h16] at hD; exact .inl ⟨decide_eq_true h16, hD.symm⟩
    rw [if_neg h16] at hD
    refine .inr ⟨decide_eq_false h16, ?_⟩
    by_cases h17 : k = 17
    · rw [if_pos h17] at hD; exact .inl ⟨decide_eq_true h17, hD.symm⟩
    rw [if_neg h17] at hD
    refine .inr ⟨decide_eq_false h17, ?_⟩
    by_cases h6 : k.toNat ≤ 6
    · exact .inl ⟨by omega, by rw [hD]; exact decide_eq_true (.inl h6)⟩
    · refine .inr ⟨by omega, ?_⟩
      rw [hD, Bool.eq_iff_iff, decide_eq_true_eq, decide_eq_true_eq]
      exact ⟨.inr, fun h => h.resolve_left h6⟩
  clear hD n0 n1 n2 e0 e16 e17 e18
  rcases key with ⟨j0, j1⟩ | ⟨j0, ⟨j1, j2⟩ | ⟨j1, ⟨j2, j3⟩ | ⟨j2, ⟨j3, rfl⟩ | ⟨j3, j4⟩⟩⟩⟩
  all_goals
    go_enter Tryd.func72, Tryd.ntmps72
    go_wp2_with (first | fail)
    go_ret
    exact ⟨rfl, S.nil⟩
/-- The five tests of a reply. -/
theorem rpV_eq (r : Rp) : rpV r = (decide (0 ≤ r.code.v ∧ r.code.v ≤ 65535) && (cdB r.kind r.code.v && (decide (r.tick.toNat ≤ 4611686018427387904) && (bkV (bk r) r && decide (r = usR r))))) := by
  have hhd : hdR r = (decide (0 ≤ r.code.v ∧ r.code.v ≤ 65535) && (cdB r.kind r.code.v && decide (r.tick.toNat ≤ 4611686018427387904))) := by
    unfold hdR cdB
    have u0 : r.kind = 0 ↔ r.kind.toNat = 0 := by rw [← UInt8.toNat_inj]; rfl
    have u16 : r.kind = 16 ↔ r.kind.toNat = 16 := by rw [← UInt8.toNat_inj]; rfl
    have u17 : r.kind = 17 ↔ r.kind.toNat = 17 := by rw [← UInt8.toNat_inj]; rfl
    have u18 : r.kind = 18 ↔ r.kind.toNat = 18 := by rw [← UInt8.toNat_inj]; rfl
    rw [Bool.eq_iff_iff]
    simp only [u0, u16, u17, u18]
    repeat' split
    all_goals
      simp only [Bool.and_eq_true, decide_eq_true_eq]
      omega
  unfold rpV
  rw [hhd]
  by_cases hu : r = usR r
  · rw [decide_eq_true hu, Bool.true_and, Bool.and_true]
    have hf : flR r = bkV (bk r) r := by
      have h2 := usR_bk r
      rw [← hu] at h2
      have hs : bk r = .s ↔ (r.code.v = 0 ∧ r.kind = 3) := by
        unfold bk
        by_cases h0 : r.code.v ≠ 0
        · rw [if_pos h0]; exact ⟨(fun h => nomatch h), fun h => absurd h.1 h0⟩
        rw [if_neg h0]
        by_cases h1 : r.kind = 1 ∨ r.kind = 16
        · rw [if_pos h1]
          refine ⟨(fun h => nomatch h), fun h => ?_⟩
          rw [h.2] at h1
          exact absurd h1 (by decide)
        rw [if_neg h1]
        by_cases h3 : r.kind = 3
        · rw [if_pos h3]; exact ⟨fun _ => ⟨by omega, h3⟩, fun _ => rfl⟩
        rw [if_neg h3]
        refine ⟨fun h => ?_, fun h => absurd h.2 h3⟩
        repeat' split at h
        all_goals cases h
      cases hq : bk r with
      | n =>
        rw [hq] at h2 hs
        have g3 := congrArg Rp.order h2; have g5 := congrArg Rp.done h2; have g6 := congrArg Rp.robots h2; have g7 := congrArg Rp.queued h2; have g9 := congrArg Rp.records h2
        simp only [usK, rpH] at g3 g5 g6 g7 g9
        unfold flR bkV
        rw [g3, g5, g6, g7, g9]
        have : ¬ (r.kind = 3 ∧ r.code.v = 0 ∧ (r.state.toNat < 1 ∨ 5 < r.state.toNat)) := fun h => by have := hs.2 ⟨h.2.1, h.1⟩; cases this
        rw [decide_eq_true this]
        rfl
      | o =>
        rw [hq] at h2 hs
        have g5 := congrArg Rp.done h2; have g6 := congrArg Rp.robots h2; have g7 := congrArg Rp.queued h2; have g9 := congrArg Rp.records h2
        simp only [usK, rpH] at g5 g6 g7 g9
        unfold flR bkV
        rw [g5, g6, g7, g9]
        have : ¬ (r.kind = 3 ∧ r.code.v = 0 ∧ (r.state.toNat < 1 ∨ 5 < r.state.toNat)) := fun h => by have := hs.2 ⟨h.2.1, h.1⟩; cases this
        rw [decide_eq_true this, Bool.eq_iff_iff]
        simp [i64Z]
      | s =>
        have h03 := hs.1 hq
        rw [hq] at h2
        have g3 := congrArg Rp.order h2; have g6 := congrArg Rp.robots h2; have g7 := congrArg Rp.queued h2; have g9 := congrArg Rp.records h2
        simp only [usK, rpH] at g3 g6 g7 g9
        unfold flR bkV
        rw [g3, g6, g7, g9, Bool.eq_iff_iff]
        simp [i64Z, h03.1, h03.2]
        omega
      | w =>
        rw [hq] at h2 hs
        have g3 := congrArg Rp.order h2; have g5 := congrArg Rp.done h2; have g9 := congrArg Rp.records h2
        simp only [usK, rpH] at g3 g5 g9
        unfold flR bkV
        rw [g3, g5, g9]
        have : ¬ (r.kind = 3 ∧ r.code.v = 0 ∧ (r.state.toNat < 1 ∨ 5 < r.state.toNat)) := fun h => by have := hs.2 ⟨h.2.1, h.1⟩; cases this
        rw [decide_eq_true this, Bool.eq_iff_iff]
        simp [i64Z]
        constructor
        · rintro ⟨⟨h1, h2, h3⟩, h4⟩; exact ⟨h1, h4, h2, h3⟩
        · rintro ⟨h1, h4, h2, h3⟩; exact ⟨⟨h1, h2, h3⟩, h4⟩
      | c =>
        rw [hq] at h2 hs
        have g3 := congrArg Rp.order h2; have g5 := congrArg Rp.done h2; have g6 := congrArg Rp.robots h2; have g7 := congrArg Rp.queued h2
        simp only [usK, rpH] at g3 g5 g6 g7
        unfold flR bkV
        rw [g3, g5, g6, g7]
        have : ¬ (r.kind = 3 ∧ r.code.v = 0 ∧ (r.state.toNat < 1 ∨ 5 < r.state.toNat)) := fun h => by have := hs.2 ⟨h.2.1, h.1⟩; cases this
        rw [decide_eq_true this, Bool.eq_iff_iff, chV_iff]
        simp [i64Z]
      | t =>
        rw [hq] at h2 hs
        have g3 := congrArg Rp.order h2; have g5 := congrArg Rp.done h2; have g6 := congrArg Rp.robots h2; have g7 := congrArg Rp.queued h2; have g9 := congrArg Rp.records h2
        simp only [usK, rpH] at g3 g5 g6 g7 g9
        unfold flR bkV
        rw [g3, g5, g6, g7, g9]
        have : ¬ (r.kind = 3 ∧ r.code.v = 0 ∧ (r.state.toNat < 1 ∨ 5 < r.state.toNat)) := fun h => by have := hs.2 ⟨h.2.1, h.1⟩; cases this
        rw [decide_eq_true this]
        rfl
    rw [hf]
    cases decide (0 ≤ r.code.v ∧ r.code.v ≤ 65535) <;> cases cdB r.kind r.code.v <;> cases decide (r.tick.toNat ≤ 4611686018427387904) <;> cases bkV (bk r) r <;> rfl
  · rw [decide_eq_false hu, Bool.false_and, Bool.and_false, Bool.and_false, Bool.and_false, Bool.and_false, Bool.and_false]
theorem Sl.nil0 (w : World) (s : Nat) : Sl w s nilV 0 [] := ⟨by simp, .inl ⟨none, rfl, rfl⟩⟩
def rpE (r : Rp) : Int := if rpV r = true then 0 else 8
set_option maxRecDepth 100000 in
set_option maxHeartbeats 16000000 in
theorem checkReply_s (r : Rp) (vr vc : Value) (w0 : World) (hvr : Sl w0 3 vr r.robots.length (r.robots.flatMap sgtL)) (hvc : Sl w0 35 vc r.records.length (r.records.flatMap rcdL)) :
    Calls Tryd.prog 41 #[.agg (rpL r vr vc).toArray] w0 fun e w' => e = .returned (.int .i64 (rpE r)) ∧ Has w0 w' [] := by
  have S := Has.start w0
  obtain ⟨ar, cr, rfl, _, _⟩ := Sl.shape hvr
  obtain ⟨ac, cc, rfl, _, _⟩ := Sl.shape hvc
  have p1 := fun w => replyBody_s r ar ac r.robots.length cr r.records.length cc w
  have p2 := fun w => in_s r.code.v 65535 w
  have p3 := fun w => coded_s r.kind r.code.v w
  obtain ⟨fv, a4, mv, p4⟩ := bodyValid_s (bk r) r ar ac r.robots.length cr r.records.length cc
  obtain ⟨q, hq⟩ : ∃ q, q = bk r := ⟨_, rfl⟩
  have p5 := fun w => replyOf_s q r r (.slice ar r.robots.length cr) (.slice ac r.records.length cc) rfl rfl ar ac r.robots.length cr r.records.length cc w
  have hU := usR_bk r
  have hE := rpV_eq r
  unfold bodyV at p1
  rw [← hq] at p1 mv p4 hU hE
  rw [← hU] at p5
  obtain ⟨BV, hBV⟩ : ∃ B, B = bodyK q r (.slice ar r.robots.length cr) (.slice ac r.records.length cc) := ⟨_, rfl⟩
  rw [← hBV] at p1 mv p5
  obtain ⟨ur, hur⟩ : ∃ u, u = vrK q (.slice ar r.robots.length cr) := ⟨_, rfl⟩
  obtain ⟨uc, huc⟩ : ∃ u, u = vcK q (.slice ac r.records.length cc) := ⟨_, rfl⟩
  rw [← hur, ← huc] at p5
  have hUR : Sl w0 3 ur (usR r).robots.length ((usR r).robots.flatMap sgtL) := by
    rw [hur, hU]
    cases q
    all_goals first | exact hvr | exact Sl.nil0 _ _
  have hUC : Sl w0 35 uc (usR r).records.length ((usR r).records.flatMap rcdL) := by
    rw [huc, hU]
    cases q
    all_goals first | exact hvc | exact Sl.nil0 _ _
  obtain ⟨h0, h1, h2⟩ := usR_head r
  have p6 := fun w h1' h2' h3' h4' => sameReply_s r (usR r) (.slice ar r.robots.length cr) (.slice ac r.records.length cc) ur uc w h0.symm h1.symm h2.symm h1' h2' h3' h4'
  have d0 := rpL_0 r (.slice ar r.robots.length cr) (.slice ac r.records.length cc)
  have d1 := rpL_1 r (.slice ar r.robots.length cr) (.slice ac r.records.length cc)
  have d2 := rpL_2 r (.slice ar r.robots.length cr) (.slice ac r.records.length cc)
  obtain ⟨vr, hvr'⟩ : ∃ v, v = Value.slice ar r.robots.length cr := ⟨_, rfl⟩
  obtain ⟨vc, hvc'⟩ : ∃ v, v = Value.slice ac r.records.length cc := ⟨_, rfl⟩
  rw [← hvr'] at p1 p4 p5 p6 d0 d1 d2 hvr ⊢
  rw [← hvc'] at p1 p4 p5 p6 d0 d1 d2 hvc ⊢
  have hone : vr.oneCell' = true ∧ vc.oneCell' = true := by rw [hvr', hvc']; exact ⟨rfl, rfl⟩
  have ho1 := rpL_one r vr vc hone.1 hone.2
  obtain ⟨U, hUU⟩ : ∃ U, U = usR r := ⟨_, rfl⟩
  rw [← hUU] at p5 p6 hUR hUC hE
  obtain ⟨k, hk⟩ : ∃ k, k = r.kind := ⟨_, rfl⟩
  obtain ⟨c, hc⟩ : ∃ c, c = r.code := ⟨_, rfl⟩
  obtain ⟨t, ht⟩ : ∃ t, t = r.tick := ⟨_, rfl⟩
  rw [← hk] at p3 d0 hE
  rw [← hc] at p2 p3 d1 hE
  rw [← ht] at d2 hE
  obtain ⟨B1, hB1⟩ : ∃ B, B = decide (0 ≤ c.v ∧ c.v ≤ 65535) := ⟨_, rfl⟩
  obtain ⟨B2, hB2⟩ : ∃ B, B = cdB k c.v := ⟨_, rfl⟩
  obtain ⟨B3, hB3⟩ : ∃ B, B = decide (t.toNat ≤ 4611686018427387904) := ⟨_, rfl⟩
  obtain ⟨B4, hB4⟩ : ∃ B, B = bkV q r := ⟨_, rfl⟩
  obtain ⟨B5, hB5⟩ : ∃ B, B = decide (r = U) := ⟨_, rfl⟩
  rw [← hB1] at p2 hE
  rw [← hB2] at p3 hE
  rw [← hB3] at hE
  rw [← hB4] at p4 hE
  rw [← hB5] at p6 hE
  have hX : ∀ b, rpV r = b → rpE r = if b = true then 0 else 8 := fun b h => by unfold rpE; rw [h]
  have hX := hX _ hE
  obtain ⟨X, hXe⟩ : ∃ X, X = rpE r := ⟨_, rfl⟩
  rw [← hXe] at hX ⊢
  have i3 : (4611686018427387904 < (t.toNat : Int) ∧ B3 = false) ∨ (¬ 4611686018427387904 < (t.toNat : Int) ∧ B3 = true) := by
    rw [hB3]
    simp only [decide_eq_true_eq, decide_eq_false_iff_not]
    omega
  clear hE hXe hB1 hB2 hB3 hB4 hB5 hk hc ht hUU hone hvr' hvc' hur huc hBV hU hq h0 h1 h2
  have P1 := Lib.hid p1; have P2 := Lib.hid p2; have P3 := Lib.hid p3; have P4 := Lib.hid p4; have P5 := Lib.hid p5; have P6 := Lib.hid p6; have MV := Lib.hid mv; have D0 := Lib.hid d0; have D1 := Lib.hid d1; have D2 := Lib.hid d2; have HVR := Lib.hid hvr; have HVC := Lib.hid hvc; have HUR := Lib.hid hUR; have HUC := Lib.hid hUC; have HO1 := Lib.hid ho1; clear p1 p2 p3 p4 p5 p6 mv d0 d1 d2 hvr hvc hUR hUC ho1
  cases B1 with
  | false =>
    obtain rfl : X = 8 := hX
    go_enter Tryd.func41, Tryd.ntmps41
    go_wp2_with (first | ((with_reducible refine iD 1 (.box 79 (.tmp 0)) ?_); refine step_boxA (dst := some 1) S 79 (.tmp 0) _ rfl gw ?_; clear S; intro g1 w S) | ((with_reducible refine iO _ (.load 79 _) ?_); first | (refine step_load S 79 _ _ rfl _ _ _ pk _ Tryd.underlying79 rfl 46 kR lN gw ?_) | (refine step_loadO 79 _ _ rfl _ _ _ (S.old_heap (Hid.out (by assumption))) _ Tryd.underlying79 rfl 46 kR lN gw ?_) | (refine step_loadR 79 _ _ _ rfl _ (S.old_range hy) _ Tryd.underlying79 rfl 46 kR lN _ rfl gw ?_)) | (go_at_call 68; (with_reducible refine (P1.out _).mono ?_); rintro e w1 ⟨rfl, T⟩; replace S := S.call T; clear T; (try simp only [z4, z5] at S)) | fail)
    refine wp_rely S [sv [] (.pointer (some ⟨g1, 1, none⟩)), sv [0] (.int .i64 (iw c)), sv [0, 1] (.bool false), sv [0, 1, 2] (.bool true), sv [0, 1, 2, 3] (.bool true), sv [0, 1, 2, 3, 4] undef, sv [0, 1, 2, 3, 4, 5] undef, sv [0, 1, 2, 3, 4] undef, sv [0, 1, 2, 3, 4, 7] undef, sv [0, 1, 2, 3, 4, 5, 6, 7, 8] undef, sv [0, 1, 2, 3, 4, 5, 6, 7, 8, 9] undef, sv [0, 1, 2, 3, 4, 5, 6, 7, 8, 9, 10] (.bool true), sv [0, 1, 2, 3, 4, 5, 6, 7, 8, 9, 10, 11] (.bool true), sv [0, 1, 2, 3, 4, 5, 6, 7, 8, 9, 10, 11, 12] undef, sv [0, 1, 2, 3, 4, 5, 6, 7, 8, 9, 10, 11, 12, 13] undef, sv [0, 1, 2, 3, 4, 5, 6, 7, 8, 9, 10, 11, 12, 13, 14] undef, sv [0, 1, 2, 3, 4, 5, 6, 7, 8, 9, 10, 11, 12, 13, 14, 15] (.bool true), sv [0, 1, 2, 3, 4, 5, 6, 7, 8, 9, 10, 11, 12, 13, 14, 15, 16] (.bool true), sv [0, 1, 2, 3, 4, 5, 6, 7, 8, 9, 10, 11, 12, 13, 14, 15, 16, 17] undef, sv [0, 1, 2, 3, 4, 5, 6, 7, 8, 9, 10, 11, 12, 13, 14, 15, 16, 17, 18] undef, sv [0, 1, 2, 3, 4, 5, 6, 7, 8, 9, 10, 11, 12, 13, 14, 15, 16, 17, 18, 19] undef, sv [0, 1, 2, 3, 4, 5, 6, 7, 8, 9, 10, 11, 12, 13, 14, 15, 16, 17, 18, 19, 20] (.bool true), sv [0, 1, 2, 3, 4, 5, 6, 7, 8, 9, 10, 11, 12, 13, 14, 15, 16, 17, 18, 19, 20, 21] (.bool true), sv [0, 1, 2, 3, 4, 5, 6, 7, 8, 9, 10, 11, 12, 13, 14, 15, 16, 17, 18, 19, 20, 21, 22] undef, sv [0, 1, 2, 3, 4, 5, 6, 7, 8, 9, 10, 11, 12, 13, 14, 15, 16, 17, 18, 19, 20, 21, 22] undef, sv [0, 1, 2, 3, 4, 5, 6, 7, 8, 9, 10, 11, 12, 13, 14, 15, 16, 17, 18, 19, 20, 21, 22] undef, sv [0, 1, 2, 3, 4, 5, 6, 7, 8, 9, 10, 11, 12, 13, 14, 15, 16, 17, 18, 19, 20, 21, 22, 24, 25] undef, sv [0, 1, 2, 3, 4, 5, 6, 7, 8, 9, 10, 11, 12, 13, 14, 15, 16, 17, 18, 19, 20, 21, 22, 23, 24, 25, 26] undef, sv [0, 1, 2, 3, 4, 5, 6, 7, 8, 9, 10, 11, 12, 13, 14, 15, 16, 17, 18, 19, 20, 21, 22, 23, 24, 25, 26, 27] undef, sv [0, 1, 2, 3, 4, 5, 6, 7, 8, 9, 10, 11, 12, 13, 14, 15, 16, 17, 18, 19, 20, 21, 22, 23, 24, 25, 26, 27, 28] (.bool true)] ?A1 ?hA1 kR kR kR [0, 1, 2, 3, 4, 5, 6, 7, 8, 9, 10, 11, 12, 13, 14, 15, 16, 17, 18, 19, 20, 21, 22, 23, 24, 25, 26, 27, 28, 29] kR ?hok1 ?fin1
    case hA1 => intro u; simp only [putAll, List.length_cons, List.length_nil, Nat.zero_add, Nat.reduceAdd, dstAt, List.getElem?_toArray, List.getElem?_cons_zero, List.getElem?_cons_succ, Option.bind_some, Act.put, List.setIfInBounds_toArray, List.set_cons_zero, List.set_cons_succ]; rfl
    case hok1 =>
      intro i hi
      obtain rfl | rfl | rfl | rfl | rfl | rfl | rfl | rfl | rfl | rfl | rfl | rfl | rfl | rfl | rfl | rfl | rfl | rfl | rfl | rfl | rfl | rfl | rfl | rfl | rfl | rfl | rfl | rfl | rfl | rfl : i = 0 ∨ i = 1 ∨ i = 2 ∨ i = 3 ∨ i = 4 ∨ i = 5 ∨ i = 6 ∨ i = 7 ∨ i = 8 ∨ i = 9 ∨ i = 10 ∨ i = 11 ∨ i = 12 ∨ i = 13 ∨ i = 14 ∨ i = 15 ∨ i = 16 ∨ i = 17 ∨ i = 18 ∨ i = 19 ∨ i = 20 ∨ i = 21 ∨ i = 22 ∨ i = 23 ∨ i = 24 ∨ i = 25 ∨ i = 26 ∨ i = 27 ∨ i = 28 ∨ i = 29 := by simp only [List.length_cons, List.length_nil, Nat.zero_add, Nat.reduceAdd] at hi; omega
      · exact oP []
      · clear hi
        refine step_of rfl rfl rfl ?_
        intro u G w hf S
        have f0 : u 0 = .pointer (some ⟨g1, 1, none⟩) := hf 0 (by simp)
        simp only [fl, z4, z5, z6, z7, ptrBlk] at S ⊢
        simp only [f0]
        refine does_load1 24 (.tmp 6) _ _ rfl (S.cell (g := g1) pk co) _ Tryd.underlying24 rfl ?_; exact ⟨rfl, S⟩
      · clear hi
        refine step_of rfl rfl rfl ?_
        intro u G w hf S
        have f1 : u 1 = .int .i64 (iw c) := hf 1 (by simp)
        simp only [fl, z4, z5, z6, z7, ptrBlk] at S ⊢
        simp only [f1]
        refine does_fn (args := [(.int .i64 (iw c)), (.int .i64 65535)]) Tryd.func71 kR kR (P2.out w) rfl ?_
        rintro e w1 ⟨rfl, T⟩
        exact ⟨_, rfl, rfl, S.call T⟩
      · exact oP [2]
      · exact oP [3]
      · exact oX [4]
      · exact oX [4]
      · exact oX [4]
      · exact oX [4]
      · exact oX [4]
      · exact oX [4]
      · exact oP [4, 10]
      · exact oP [11]
      · exact oX [12]
      · exact oX [12]
      · exact oX [12]
      · exact oP [12, 15]
      · exact oP [16]
      · exact oX [17]
      · exact oX [17]
      · exact oX [17]
      · exact oP [17, 20]
      · exact oP [21]
      · exact oX [22]
      · exact oX [22]
      · exact oX [22]
      · exact oX [22]
      · exact oX [22]
      · exact oX [22]
      · exact oP [22, 28]
    case fin1 =>
      intro u w hf S
      have hvA := allV hf
      simp only [AllV, RSpec.valAt, sv, Nat.zero_add, Nat.reduceAdd] at hvA
      simp only [fl, z4, z5, z6, z7, ptrBlk] at S
      clear hf
      simp only [List.length_cons, List.length_nil, Nat.zero_add, Nat.reduceAdd, List.drop_succ_cons, List.drop_zero, hvA]
      clear hvA
      go_wp2_with (first | fail)
      go_ret
      exact ⟨rfl, S.nil⟩
  | true =>
  cases B2 with
  | false =>
    obtain rfl : X = 8 := hX
    go_enter Tryd.func41, Tryd.ntmps41
    go_wp2_with (first | ((with_reducible refine iD 1 (.box 79 (.tmp 0)) ?_); refine step_boxA (dst := some 1) S 79 (.tmp 0) _ rfl gw ?_; clear S; intro g1 w S) | ((with_reducible refine iO _ (.load 79 _) ?_); first | (refine step_load S 79 _ _ rfl _ _ _ pk _ Tryd.underlying79 rfl 46 kR lN gw ?_) | (refine step_loadO 79 _ _ rfl _ _ _ (S.old_heap (Hid.out (by assumption))) _ Tryd.underlying79 rfl 46 kR lN gw ?_) | (refine step_loadR 79 _ _ _ rfl _ (S.old_range hy) _ Tryd.underlying79 rfl 46 kR lN _ rfl gw ?_)) | (go_at_call 68; (with_reducible refine (P1.out _).mono ?_); rintro e w1 ⟨rfl, T⟩; replace S := S.call T; clear T; (try simp only [z4, z5] at S)) | fail)
    refine wp_rely S [sv [] (.pointer (some ⟨g1, 1, none⟩)), sv [0] (.int .i64 (iw c)), sv [0, 1] (.bool true), sv [0, 1, 2] (.bool false), sv [0, 1, 2, 3] (.bool false), sv [0, 1, 2, 3, 4] (.pointer (some ⟨g1, 0, none⟩)), sv [0, 1, 2, 3, 4, 5] (.int .u8 (k.toNat : Int)), sv [0, 1, 2, 3, 4] (.pointer (some ⟨g1, 1, none⟩)), sv [0, 1, 2, 3, 4, 7] (.int .i64 (iw c)), sv [0, 1, 2, 3, 4, 5, 6, 7, 8] (.bool false), sv [0, 1, 2, 3, 4, 5, 6, 7, 8, 9] (.bool true), sv [0, 1, 2, 3, 4, 5, 6, 7, 8, 9, 10] (.bool true), sv [0, 1, 2, 3, 4, 5, 6, 7, 8, 9, 10, 11] (.bool true), sv [0, 1, 2, 3, 4, 5, 6, 7, 8, 9, 10, 11, 12] undef, sv [0, 1, 2, 3, 4, 5, 6, 7, 8, 9, 10, 11, 12, 13] undef, sv [0, 1, 2, 3, 4, 5, 6, 7, 8, 9, 10, 11, 12, 13, 14] undef, sv [0, 1, 2, 3, 4, 5, 6, 7, 8, 9, 10, 11, 12, 13, 14, 15] (.bool true), sv [0, 1, 2, 3, 4, 5, 6, 7, 8, 9, 10, 11, 12, 13, 14, 15, 16] (.bool true), sv [0, 1, 2, 3, 4, 5, 6, 7, 8, 9, 10, 11, 12, 13, 14, 15, 16, 17] undef, sv [0, 1, 2, 3, 4, 5, 6, 7, 8, 9, 10, 11, 12, 13, 14, 15, 16, 17, 18] undef, sv [0, 1, 2, 3, 4, 5, 6, 7, 8, 9, 10, 11, 12, 13, 14, 15, 16, 17, 18, 19] undef, sv [0, 1, 2, 3, 4, 5, 6, 7, 8, 9, 10, 11, 12, 13, 14, 15, 16, 17, 18, 19, 20] (.bool true), sv [0, 1, 2, 3, 4, 5, 6, 7, 8, 9, 10, 11, 12, 13, 14, 15, 16, 17, 18, 19, 20, 21] (.bool true), sv [0, 1, 2, 3, 4, 5, 6, 7, 8, 9, 10, 11, 12, 13, 14, 15, 16, 17, 18, 19, 20, 21, 22] undef, sv [0, 1, 2, 3, 4, 5, 6, 7, 8, 9, 10, 11, 12, 13, 14, 15, 16, 17, 18, 19, 20, 21, 22] undef, sv [0, 1, 2, 3, 4, 5, 6, 7, 8, 9, 10, 11, 12, 13, 14, 15, 16, 17, 18, 19, 20, 21, 22] undef, sv [0, 1, 2, 3, 4, 5, 6, 7, 8, 9, 10, 11, 12, 13, 14, 15, 16, 17, 18, 19, 20, 21, 22, 24, 25] undef, sv [0, 1, 2, 3, 4, 5, 6, 7, 8, 9, 10, 11, 12, 13, 14, 15, 16, 17, 18, 19, 20, 21, 22, 23, 24, 25, 26] undef, sv [0, 1, 2, 3, 4, 5, 6, 7, 8, 9, 10, 11, 12, 13, 14, 15, 16, 17, 18, 19, 20, 21, 22, 23, 24, 25, 26, 27] undef, sv [0, 1, 2, 3, 4, 5, 6, 7, 8, 9, 10, 11, 12, 13, 14, 15, 16, 17, 18, 19, 20, 21, 22, 23, 24, 25, 26, 27, 28] (.bool true)] ?A2 ?hA2 kR kR kR [0, 1, 2, 3, 4, 5, 6, 7, 8, 9, 10, 11, 12, 13, 14, 15, 16, 17, 18, 19, 20, 21, 22, 23, 24, 25, 26, 27, 28, 29] kR ?hok2 ?fin2
    case hA2 => intro u; simp only [putAll, List.length_cons, List.length_nil, Nat.zero_add, Nat.reduceAdd, dstAt, List.getElem?_toArray, List.getElem?_cons_zero, List.getElem?_cons_succ, Option.bind_some, Act.put, List.setIfInBounds_toArray, List.set_cons_zero, List.set_cons_succ]; rfl
    case hok2 =>
      intro i hi
      obtain rfl | rfl | rfl | rfl | rfl | rfl | rfl | rfl | rfl | rfl | rfl | rfl | rfl | rfl | rfl | rfl | rfl | rfl | rfl | rfl | rfl | rfl | rfl | rfl | rfl | rfl | rfl | rfl | rfl | rfl : i = 0 ∨ i = 1 ∨ i = 2 ∨ i = 3 ∨ i = 4 ∨ i = 5 ∨ i = 6 ∨ i = 7 ∨ i = 8 ∨ i = 9 ∨ i = 10 ∨ i = 11 ∨ i = 12 ∨ i = 13 ∨ i = 14 ∨ i = 15 ∨ i = 16 ∨ i = 17 ∨ i = 18 ∨ i = 19 ∨ i = 20 ∨ i = 21 ∨ i = 22 ∨ i = 23 ∨ i = 24 ∨ i = 25 ∨ i = 26 ∨ i = 27 ∨ i = 28 ∨ i = 29 := by simp only [List.length_cons, List.length_nil, Nat.zero_add, Nat.reduceAdd] at hi; omega
      · exact oP []
      · clear hi
        refine step_of rfl rfl rfl ?_
        intro u G w hf S
        have f0 : u 0 = .pointer (some ⟨g1, 1, none⟩) := hf 0 (by simp)
        simp only [fl, z4, z5, z6, z7, ptrBlk] at S ⊢
        simp only [f0]
        refine does_load1 24 (.tmp 6) _ _ rfl (S.cell (g := g1) pk co) _ Tryd.underlying24 rfl ?_; exact ⟨rfl, S⟩
      · clear hi
        refine step_of rfl rfl rfl ?_
        intro u G w hf S
        have f1 : u 1 = .int .i64 (iw c) := hf 1 (by simp)
        simp only [fl, z4, z5, z6, z7, ptrBlk] at S ⊢
        simp only [f1]
        refine does_fn (args := [(.int .i64 (iw c)), (.int .i64 65535)]) Tryd.func71 kR kR (P2.out w) rfl ?_
        rintro e w1 ⟨rfl, T⟩
        exact ⟨_, rfl, rfl, S.call T⟩
      · exact oP [2]
      · exact oP [3]
      · exact oG [4]
      · clear hi
        refine step_of_g rfl rfl ?_
        intro u G w hf S
        have f4 : u 4 = (.bool false) := hf 4 (by simp)
        have f5 : u 5 = .pointer (some ⟨g1, 0, none⟩) := hf 5 (by simp)
        simp only [fl, z4, z5, z6, z7, ptrBlk] at S ⊢
        simp only [f4, f5]
        refine ⟨rfl, ?_⟩
        refine does_load1 5 (.tmp 11) _ _ rfl (S.cell (g := g1) pk co) _ Tryd.underlying5 rfl ?_; exact ⟨rfl, S⟩
      · exact oG [4]
      · clear hi
        refine step_of_g rfl rfl ?_
        intro u G w hf S
        have f4 : u 4 = (.bool false) := hf 4 (by simp)
        have f7 : u 7 = .pointer (some ⟨g1, 1, none⟩) := hf 7 (by simp)
        simp only [fl, z4, z5, z6, z7, ptrBlk] at S ⊢
        simp only [f4, f7]
        refine ⟨rfl, ?_⟩
        refine does_load1 24 (.tmp 13) _ _ rfl (S.cell (g := g1) pk co) _ Tryd.underlying24 rfl ?_; exact ⟨rfl, S⟩
      · clear hi
        refine step_of_g rfl rfl ?_
        intro u G w hf S
        have f4 : u 4 = (.bool false) := hf 4 (by simp)
        have f6 : u 6 = .int .u8 (k.toNat : Int) := hf 6 (by simp)
        have f8 : u 8 = .int .i64 (iw c) := hf 8 (by simp)
        simp only [fl, z4, z5, z6, z7, ptrBlk] at S ⊢
        simp only [f4, f6, f8]
        refine ⟨rfl, ?_⟩
        refine does_fn (args := [(.int .u8 (k.toNat : Int)), (.int .i64 (iw c))]) Tryd.func72 kR kR (P3.out w) rfl ?_
        rintro e w1 ⟨rfl, T⟩
        exact ⟨_, rfl, rfl, S.call T⟩
      · exact oG [4, 9]
      · exact oP [4, 10]
      · exact oP [11]
      · exact oX [12]
      · exact oX [12]
      · exact oX [12]
      · exact oP [12, 15]
      · exact oP [16]
      · exact oX [17]
      · exact oX [17]
      · exact oX [17]
      · exact oP [17, 20]
      · exact oP [21]
      · exact oX [22]
      · exact oX [22]
      · exact oX [22]
      · exact oX [22]
      · exact oX [22]
      · exact oX [22]
      · exact oP [22, 28]
    case fin2 =>
      intro u w hf S
      have hvA := allV hf
      simp only [AllV, RSpec.valAt, sv, Nat.zero_add, Nat.reduceAdd] at hvA
      simp only [fl, z4, z5, z6, z7, ptrBlk] at S
      clear hf
      simp only [List.length_cons, List.length_nil, Nat.zero_add, Nat.reduceAdd, List.drop_succ_cons, List.drop_zero, hvA]
      clear hvA
      go_wp2_with (first | fail)
      go_ret
      exact ⟨rfl, S.nil⟩
  | true =>
  rcases i3 with ⟨j3, rfl⟩ | ⟨j3, rfl⟩
  · obtain rfl : X = 8 := hX
    go_enter Tryd.func41, Tryd.ntmps41
    go_wp2_with (first | ((with_reducible refine iD 1 (.box 79 (.tmp 0)) ?_); refine step_boxA (dst := some 1) S 79 (.tmp 0) _ rfl gw ?_; clear S; intro g1 w S) | ((with_reducible refine iO _ (.load 79 _) ?_); first | (refine step_load S 79 _ _ rfl _ _ _ pk _ Tryd.underlying79 rfl 46 kR lN gw ?_) | (refine step_loadO 79 _ _ rfl _ _ _ (S.old_heap (Hid.out (by assumption))) _ Tryd.underlying79 rfl 46 kR lN gw ?_) | (refine step_loadR 79 _ _ _ rfl _ (S.old_range hy) _ Tryd.underlying79 rfl 46 kR lN _ rfl gw ?_)) | (go_at_call 68; (with_reducible refine (P1.out _).mono ?_); rintro e w1 ⟨rfl, T⟩; replace S := S.call T; clear T; (try simp only [z4, z5] at S)) | fail)
    refine wp_rely S [sv [] (.pointer (some ⟨g1, 1, none⟩)), sv [0] (.int .i64 (iw c)), sv [0, 1] (.bool true), sv [0, 1, 2] (.bool false), sv [0, 1, 2, 3] (.bool false), sv [0, 1, 2, 3, 4] (.pointer (some ⟨g1, 0, none⟩)), sv [0, 1, 2, 3, 4, 5] (.int .u8 (k.toNat : Int)), sv [0, 1, 2, 3, 4] (.pointer (some ⟨g1, 1, none⟩)), sv [0, 1, 2, 3, 4, 7] (.int .i64 (iw c)), sv [0, 1, 2, 3, 4, 5, 6, 7, 8] (.bool true), sv [0, 1, 2, 3, 4, 5, 6, 7, 8, 9] (.bool false), sv [0, 1, 2, 3, 4, 5, 6, 7, 8, 9, 10] (.bool false), sv [0, 1, 2, 3, 4, 5, 6, 7, 8, 9, 10, 11] (.bool false), sv [0, 1, 2, 3, 4, 5, 6, 7, 8, 9, 10, 11, 12] (.pointer (some ⟨g1, 2, none⟩)), sv [0, 1, 2, 3, 4, 5, 6, 7, 8, 9, 10, 11, 12, 13] (.int .u64 (t.toNat : Int)), sv [0, 1, 2, 3, 4, 5, 6, 7, 8, 9, 10, 11, 12, 13, 14] (.bool true), sv [0, 1, 2, 3, 4, 5, 6, 7, 8, 9, 10, 11, 12, 13, 14, 15] (.bool true), sv [0, 1, 2, 3, 4, 5, 6, 7, 8, 9, 10, 11, 12, 13, 14, 15, 16] (.bool true), sv [0, 1, 2, 3, 4, 5, 6, 7, 8, 9, 10, 11, 12, 13, 14, 15, 16, 17] undef, sv [0, 1, 2, 3, 4, 5, 6, 7, 8, 9, 10, 11, 12, 13, 14, 15, 16, 17, 18] undef, sv [0, 1, 2, 3, 4, 5, 6, 7, 8, 9, 10, 11, 12, 13, 14, 15, 16, 17, 18, 19] undef, sv [0, 1, 2, 3, 4, 5, 6, 7, 8, 9, 10, 11, 12, 13, 14, 15, 16, 17, 18, 19, 20] (.bool true), sv [0, 1, 2, 3, 4, 5, 6, 7, 8, 9, 10, 11, 12, 13, 14, 15, 16, 17, 18, 19, 20, 21] (.bool true), sv [0, 1, 2, 3, 4, 5, 6, 7, 8, 9, 10, 11, 12, 13, 14, 15, 16, 17, 18, 19, 20, 21, 22] undef, sv [0, 1, 2, 3, 4, 5, 6, 7, 8, 9, 10, 11, 12, 13, 14, 15, 16, 17, 18, 19, 20, 21, 22] undef, sv [0, 1, 2, 3, 4, 5, 6, 7, 8, 9, 10, 11, 12, 13, 14, 15, 16, 17, 18, 19, 20, 21, 22] undef, sv [0, 1, 2, 3, 4, 5, 6, 7, 8, 9, 10, 11, 12, 13, 14, 15, 16, 17, 18, 19, 20, 21, 22, 24, 25] undef, sv [0, 1, 2, 3, 4, 5, 6, 7, 8, 9, 10, 11, 12, 13, 14, 15, 16, 17, 18, 19, 20, 21, 22, 23, 24, 25, 26] undef, sv [0, 1, 2, 3, 4, 5, 6, 7, 8, 9, 10, 11, 12, 13, 14, 15, 16, 17, 18, 19, 20, 21, 22, 23, 24, 25, 26, 27] undef, sv [0, 1, 2, 3, 4, 5, 6, 7, 8, 9, 10, 11, 12, 13, 14, 15, 16, 17, 18, 19, 20, 21, 22, 23, 24, 25, 26, 27, 28] (.bool true)] ?A3 ?hA3 kR kR kR [0, 1, 2, 3, 4, 5, 6, 7, 8, 9, 10, 11, 12, 13, 14, 15, 16, 17, 18, 19, 20, 21, 22, 23, 24, 25, 26, 27, 28, 29] kR ?hok3 ?fin3
    case hA3 => intro u; simp only [putAll, List.length_cons, List.length_nil, Nat.zero_add, Nat.reduceAdd, dstAt, List.getElem?_toArray, List.getElem?_cons_zero, List.getElem?_cons_succ, Option.bind_some, Act.put, List.setIfInBounds_toArray, List.set_cons_zero, List.set_cons_succ]; rfl
    case hok3 =>
      intro i hi
      obtain rfl | rfl | rfl | rfl | rfl | rfl | rfl | rfl | rfl | rfl | rfl | rfl | rfl | rfl | rfl | rfl | rfl | rfl | rfl | rfl | rfl | rfl | rfl | rfl | rfl | rfl | rfl | rfl | rfl | rfl : i = 0 ∨ i = 1 ∨ i = 2 ∨ i = 3 ∨ i = 4 ∨ i = 5 ∨ i = 6 ∨ i = 7 ∨ i = 8 ∨ i = 9 ∨ i = 10 ∨ i = 11 ∨ i = 12 ∨ i = 13 ∨ i = 14 ∨ i = 15 ∨ i = 16 ∨ i = 17 ∨ i = 18 ∨ i = 19 ∨ i = 20 ∨ i = 21 ∨ i = 22 ∨ i = 23 ∨ i = 24 ∨ i = 25 ∨ i = 26 ∨ i = 27 ∨ i = 28 ∨ i = 29 := by simp only [List.length_cons, List.length_nil, Nat.zero_add, Nat.reduceAdd] at hi; omega
      · exact oP []
      · clear hi
        refine step_of rfl rfl rfl ?_
        intro u G w hf S
        have f0 : u 0 = .pointer (some ⟨g1, 1, none⟩) := hf 0 (by simp)
        simp only [fl, z4, z5, z6, z7, ptrBlk] at S ⊢
        simp only [f0]
        refine does_load1 24 (.tmp 6) _ _ rfl (S.cell (g := g1) pk co) _ Tryd.underlying24 rfl ?_; exact ⟨rfl, S⟩
      · clear hi
        refine step_of rfl rfl rfl ?_
        intro u G w hf S
        have f1 : u 1 = .int .i64 (iw c) := hf 1 (by simp)
        simp only [fl, z4, z5, z6, z7, ptrBlk] at S ⊢
        simp only [f1]
        refine does_fn (args := [(.int .i64 (iw c)), (.int .i64 65535)]) Tryd.func71 kR kR (P2.out w) rfl ?_
        rintro e w1 ⟨rfl, T⟩
        exact ⟨_, rfl, rfl, S.call T⟩
      · exact oP [2]
      · exact oP [3]
      · exact oG [4]
      · clear hi
        refine step_of_g rfl rfl ?_
        intro u G w hf S
        have f4 : u 4 = (.bool false) := hf 4 (by simp)
        have f5 : u 5 = .pointer (some ⟨g1, 0, none⟩) := hf 5 (by simp)
        simp only [fl, z4, z5, z6, z7, ptrBlk] at S ⊢
        simp only [f4, f5]
        refine ⟨rfl, ?_⟩
        refine does_load1 5 (.tmp 11) _ _ rfl (S.cell (g := g1) pk co) _ Tryd.underlying5 rfl ?_; exact ⟨rfl, S⟩
      · exact oG [4]
      · clear hi
        refine step_of_g rfl rfl ?_
        intro u G w hf S
        have f4 : u 4 = (.bool false) := hf 4 (by simp)
        have f7 : u 7 = .pointer (some ⟨g1, 1, none⟩) := hf 7 (by simp)
        simp only [fl, z4, z5, z6, z7, ptrBlk] at S ⊢
        simp only [f4, f7]
        refine ⟨rfl, ?_⟩
        refine does_load1 24 (.tmp 13) _ _ rfl (S.cell (g := g1) pk co) _ Tryd.underlying24 rfl ?_; exact ⟨rfl, S⟩
      · clear hi
        refine step_of_g rfl rfl ?_
        intro u G w hf S
        have f4 : u 4 = (.bool false) := hf 4 (by simp)
        have f6 : u 6 = .int .u8 (k.toNat : Int) := hf 6 (by simp)
        have f8 : u 8 = .int .i64 (iw c) := hf 8 (by simp)
        simp only [fl, z4, z5, z6, z7, ptrBlk] at S ⊢
        simp only [f4, f6, f8]
        refine ⟨rfl, ?_⟩
        refine does_fn (args := [(.int .u8 (k.toNat : Int)), (.int .i64 (iw c))]) Tryd.func72 kR kR (P3.out w) rfl ?_
        rintro e w1 ⟨rfl, T⟩
        exact ⟨_, rfl, rfl, S.call T⟩
      · exact oG [4, 9]
      · exact oP [4, 10]
      · exact oP [11]
      · exact oG [12]
      · clear hi
        refine step_of_g rfl rfl ?_
        intro u G w hf S
        have f12 : u 12 = (.bool false) := hf 12 (by simp)
        have f13 : u 13 = .pointer (some ⟨g1, 2, none⟩) := hf 13 (by simp)
        simp only [fl, z4, z5, z6, z7, ptrBlk] at S ⊢
        simp only [f12, f13]
        refine ⟨rfl, ?_⟩
        refine does_load1 23 (.tmp 19) _ _ rfl (S.cell (g := g1) pk co) _ Tryd.underlying23 rfl ?_; exact ⟨rfl, S⟩
      · exact oG [12, 14]
      · exact oP [12, 15]
      · exact oP [16]
      · exact oX [17]
      · exact oX [17]
      · exact oX [17]
      · exact oP [17, 20]
      · exact oP [21]
      · exact oX [22]
      · exact oX [22]
      · exact oX [22]
      · exact oX [22]
      · exact oX [22]
      · exact oX [22]
      · exact oP [22, 28]
    case fin3 =>
      intro u w hf S
      have hvA := allV hf
      simp only [AllV, RSpec.valAt, sv, Nat.zero_add, Nat.reduceAdd] at hvA
      simp only [fl, z4, z5, z6, z7, ptrBlk] at S
      clear hf
      simp only [List.length_cons, List.length_nil, Nat.zero_add, Nat.reduceAdd, List.drop_succ_cons, List.drop_zero, hvA]
      clear hvA
      go_wp2_with (first | fail)
      go_ret
      exact ⟨rfl, S.nil⟩
  cases B4 with
  | false =>
    obtain rfl : X = 8 := hX
    go_enter Tryd.func41, Tryd.ntmps41
    go_wp2_with (first | ((with_reducible refine iD 1 (.box 79 (.tmp 0)) ?_); refine step_boxA (dst := some 1) S 79 (.tmp 0) _ rfl gw ?_; clear S; intro g1 w S) | ((with_reducible refine iO _ (.load 79 _) ?_); first | (refine step_load S 79 _ _ rfl _ _ _ pk _ Tryd.underlying79 rfl 46 kR lN gw ?_) | (refine step_loadO 79 _ _ rfl _ _ _ (S.old_heap (Hid.out (by assumption))) _ Tryd.underlying79 rfl 46 kR lN gw ?_) | (refine step_loadR 79 _ _ _ rfl _ (S.old_range hy) _ Tryd.underlying79 rfl 46 kR lN _ rfl gw ?_)) | (go_at_call 68; (with_reducible refine (P1.out _).mono ?_); rintro e w1 ⟨rfl, T⟩; replace S := S.call T; clear T; (try simp only [z4, z5] at S)) | fail)
    refine wp_rely S [sv [] (.pointer (some ⟨g1, 1, none⟩)), sv [0] (.int .i64 (iw c)), sv [0, 1] (.bool true), sv [0, 1, 2] (.bool false), sv [0, 1, 2, 3] (.bool false), sv [0, 1, 2, 3, 4] (.pointer (some ⟨g1, 0, none⟩)), sv [0, 1, 2, 3, 4, 5] (.int .u8 (k.toNat : Int)), sv [0, 1, 2, 3, 4] (.pointer (some ⟨g1, 1, none⟩)), sv [0, 1, 2, 3, 4, 7] (.int .i64 (iw c)), sv [0, 1, 2, 3, 4, 5, 6, 7, 8] (.bool true), sv [0, 1, 2, 3, 4, 5, 6, 7, 8, 9] (.bool false), sv [0, 1, 2, 3, 4, 5, 6, 7, 8, 9, 10] (.bool false), sv [0, 1, 2, 3, 4, 5, 6, 7, 8, 9, 10, 11] (.bool false), sv [0, 1, 2, 3, 4, 5, 6, 7, 8, 9, 10, 11, 12] (.pointer (some ⟨g1, 2, none⟩)), sv [0, 1, 2, 3, 4, 5, 6, 7, 8, 9, 10, 11, 12, 13] (.int .u64 (t.toNat : Int)), sv [0, 1, 2, 3, 4, 5, 6, 7, 8, 9, 10, 11, 12, 13, 14] (.bool false), sv [0, 1, 2, 3, 4, 5, 6, 7, 8, 9, 10, 11, 12, 13, 14, 15] (.bool false), sv [0, 1, 2, 3, 4, 5, 6, 7, 8, 9, 10, 11, 12, 13, 14, 15, 16] (.bool false), sv [0, 1, 2, 3, 4, 5, 6, 7, 8, 9, 10, 11, 12, 13, 14, 15, 16, 17] (BV), sv [0, 1, 2, 3, 4, 5, 6, 7, 8, 9, 10, 11, 12, 13, 14, 15, 16, 17, 18] (.bool false), sv [0, 1, 2, 3, 4, 5, 6, 7, 8, 9, 10, 11, 12, 13, 14, 15, 16, 17, 18, 19] (.bool true), sv [0, 1, 2, 3, 4, 5, 6, 7, 8, 9, 10, 11, 12, 13, 14, 15, 16, 17, 18, 19, 20] (.bool true), sv [0, 1, 2, 3, 4, 5, 6, 7, 8, 9, 10, 11, 12, 13, 14, 15, 16, 17, 18, 19, 20, 21] (.bool true), sv [0, 1, 2, 3, 4, 5, 6, 7, 8, 9, 10, 11, 12, 13, 14, 15, 16, 17, 18, 19, 20, 21, 22] undef, sv [0, 1, 2, 3, 4, 5, 6, 7, 8, 9, 10, 11, 12, 13, 14, 15, 16, 17, 18, 19, 20, 21, 22] undef, sv [0, 1, 2, 3, 4, 5, 6, 7, 8, 9, 10, 11, 12, 13, 14, 15, 16, 17, 18, 19, 20, 21, 22] undef, sv [0, 1, 2, 3, 4, 5, 6, 7, 8, 9, 10, 11, 12, 13, 14, 15, 16, 17, 18, 19, 20, 21, 22, 24, 25] undef, sv [0, 1, 2, 3, 4, 5, 6, 7, 8, 9, 10, 11, 12, 13, 14, 15, 16, 17, 18, 19, 20, 21, 22, 23, 24, 25, 26] undef, sv [0, 1, 2, 3, 4, 5, 6, 7, 8, 9, 10, 11, 12, 13, 14, 15, 16, 17, 18, 19, 20, 21, 22, 23, 24, 25, 26, 27] undef, sv [0, 1, 2, 3, 4, 5, 6, 7, 8, 9, 10, 11, 12, 13, 14, 15, 16, 17, 18, 19, 20, 21, 22, 23, 24, 25, 26, 27, 28] (.bool true)] ?A4 ?hA4 kR kR kR [0, 1, 2, 3, 4, 5, 6, 7, 8, 9, 10, 11, 12, 13, 14, 15, 16, 17, 18, 19, 20, 21, 22, 23, 24, 25, 26, 27, 28, 29] kR ?hok4 ?fin4
    case hA4 => intro u; simp only [putAll, List.length_cons, List.length_nil, Nat.zero_add, Nat.reduceAdd, dstAt, List.getElem?_toArray, List.getElem?_cons_zero, List.getElem?_cons_succ, Option.bind_some, Act.put, List.setIfInBounds_toArray, List.set_cons_zero, List.set_cons_succ]; rfl
    case hok4 =>
      intro i hi
      obtain rfl | rfl | rfl | rfl | rfl | rfl | rfl | rfl | rfl | rfl | rfl | rfl | rfl | rfl | rfl | rfl | rfl | rfl | rfl | rfl | rfl | rfl | rfl | rfl | rfl | rfl | rfl | rfl | rfl | rfl : i = 0 ∨ i = 1 ∨ i = 2 ∨ i = 3 ∨ i = 4 ∨ i = 5 ∨ i = 6 ∨ i = 7 ∨ i = 8 ∨ i = 9 ∨ i = 10 ∨ i = 11 ∨ i = 12 ∨ i = 13 ∨ i = 14 ∨ i = 15 ∨ i = 16 ∨ i = 17 ∨ i = 18 ∨ i = 19 ∨ i = 20 ∨ i = 21 ∨ i = 22 ∨ i = 23 ∨ i = 24 ∨ i = 25 ∨ i = 26 ∨ i = 27 ∨ i = 28 ∨ i = 29 := by simp only [List.length_cons, List.length_nil, Nat.zero_add, Nat.reduceAdd] at hi; omega
      · exact oP []
      · clear hi
        refine step_of rfl rfl rfl ?_
        intro u G w hf S
        have f0 : u 0 = .pointer (some ⟨g1, 1, none⟩) := hf 0 (by simp)
        simp only [fl, z4, z5, z6, z7, ptrBlk] at S ⊢
        simp only [f0]
        refine does_load1 24 (.tmp 6) _ _ rfl (S.cell (g := g1) pk co) _ Tryd.underlying24 rfl ?_; exact ⟨rfl, S⟩
      · clear hi
        refine step_of rfl rfl rfl ?_
        intro u G w hf S
        have f1 : u 1 = .int .i64 (iw c) := hf 1 (by simp)
        simp only [fl, z4, z5, z6, z7, ptrBlk] at S ⊢
        simp only [f1]
        refine does_fn (args := [(.int .i64 (iw c)), (.int .i64 65535)]) Tryd.func71 kR kR (P2.out w) rfl ?_
        rintro e w1 ⟨rfl, T⟩
        exact ⟨_, rfl, rfl, S.call T⟩
      · exact oP [2]
      · exact oP [3]
      · exact oG [4]
      · clear hi
        refine step_of_g rfl rfl ?_
        intro u G w hf S
        have f4 : u 4 = (.bool false) := hf 4 (by simp)
        have f5 : u 5 = .pointer (some ⟨g1, 0, none⟩) := hf 5 (by simp)
        simp only [fl, z4, z5, z6, z7, ptrBlk] at S ⊢
        simp only [f4, f5]
        refine ⟨rfl, ?_⟩
        refine does_load1 5 (.tmp 11) _ _ rfl (S.cell (g := g1) pk co) _ Tryd.underlying5 rfl ?_; exact ⟨rfl, S⟩
      · exact oG [4]
      · clear hi
        refine step_of_g rfl rfl ?_
        intro u G w hf S
        have f4 : u 4 = (.bool false) := hf 4 (by simp)
        have f7 : u 7 = .pointer (some ⟨g1, 1, none⟩) := hf 7 (by simp)
        simp only [fl, z4, z5, z6, z7, ptrBlk] at S ⊢
        simp only [f4, f7]
        refine ⟨rfl, ?_⟩
        refine does_load1 24 (.tmp 13) _ _ rfl (S.cell (g := g1) pk co) _ Tryd.underlying24 rfl ?_; exact ⟨rfl, S⟩
      · clear hi
        refine step_of_g rfl rfl ?_
        intro u G w hf S
        have f4 : u 4 = (.bool false) := hf 4 (by simp)
        have f6 : u 6 = .int .u8 (k.toNat : Int) := hf 6 (by simp)
        have f8 : u 8 = .int .i64 (iw c) := hf 8 (by simp)
        simp only [fl, z4, z5, z6, z7, ptrBlk] at S ⊢
        simp only [f4, f6, f8]
        refine ⟨rfl, ?_⟩
        refine does_fn (args := [(.int .u8 (k.toNat : Int)), (.int .i64 (iw c))]) Tryd.func72 kR kR (P3.out w) rfl ?_
        rintro e w1 ⟨rfl, T⟩
        exact ⟨_, rfl, rfl, S.call T⟩
      · exact oG [4, 9]
      · exact oP [4, 10]
      · exact oP [11]
      · exact oG [12]
      · clear hi
        refine step_of_g rfl rfl ?_
        intro u G w hf S
        have f12 : u 12 = (.bool false) := hf 12 (by simp)
        have f13 : u 13 = .pointer (some ⟨g1, 2, none⟩) := hf 13 (by simp)
        simp only [fl, z4, z5, z6, z7, ptrBlk] at S ⊢
        simp only [f12, f13]
        refine ⟨rfl, ?_⟩
        refine does_load1 23 (.tmp 19) _ _ rfl (S.cell (g := g1) pk co) _ Tryd.underlying23 rfl ?_; exact ⟨rfl, S⟩
      · exact oG [12, 14]
      · exact oP [12, 15]
      · exact oP [16]
      · exact oG [17]
      · clear hi
        refine step_of_g rfl rfl ?_
        intro u G w hf S
        have f17 : u 17 = (.bool false) := hf 17 (by simp)
        have f18 : u 18 = (BV) := hf 18 (by simp)
        simp only [fl, z4, z5, z6, z7, ptrBlk] at S ⊢
        simp only [f17, f18]
        refine ⟨rfl, ?_⟩
        refine does_inv (.tmp 24) "dunnage/wire.valid" [] _ _ [] fv _ rfl rfl (MV.out w) (P4.out w (S.old HVR.out) (S.old HVC.out)) ?_; rintro e w1 ⟨rfl, T⟩; exact ⟨_, rfl, rfl, S.call T⟩
      · exact oG [17, 19]
      · exact oP [17, 20]
      · exact oP [21]
      · exact oX [22]
      · exact oX [22]
      · exact oX [22]
      · exact oX [22]
      · exact oX [22]
      · exact oX [22]
      · exact oP [22, 28]
    case fin4 =>
      intro u w hf S
      have hvA := allV hf
      simp only [AllV, RSpec.valAt, sv, Nat.zero_add, Nat.reduceAdd] at hvA
      simp only [fl, z4, z5, z6, z7, ptrBlk] at S
      clear hf
      simp only [List.length_cons, List.length_nil, Nat.zero_add, Nat.reduceAdd, List.drop_succ_cons, List.drop_zero, hvA]
      clear hvA
      go_wp2_with (first | fail)
      go_ret
      exact ⟨rfl, S.nil⟩
  | true =>
    have HX := Lib.hid hX
    clear hX
    go_enter Tryd.func41, Tryd.ntmps41
    go_wp2_with (first | ((with_reducible refine iD 1 (.box 79 (.tmp 0)) ?_); refine step_boxA (dst := some 1) S 79 (.tmp 0) _ rfl gw ?_; clear S; intro g1 w S) | ((with_reducible refine iO _ (.load 79 _) ?_); first | (refine step_load S 79 _ _ rfl _ _ _ pk _ Tryd.underlying79 rfl 46 kR lN gw ?_) | (refine step_loadO 79 _ _ rfl _ _ _ (S.old_heap (Hid.out (by assumption))) _ Tryd.underlying79 rfl 46 kR lN gw ?_) | (refine step_loadR 79 _ _ _ rfl _ (S.old_range hy) _ Tryd.underlying79 rfl 46 kR lN _ rfl gw ?_)) | (go_at_call 68; (with_reducible refine (P1.out _).mono ?_); rintro e w1 ⟨rfl, T⟩; replace S := S.call T; clear T; (try simp only [z4, z5] at S)) | fail)
    refine wp_rely S [sv [] (.pointer (some ⟨g1, 1, none⟩)), sv [0] (.int .i64 (iw c)), sv [0, 1] (.bool true), sv [0, 1, 2] (.bool false), sv [0, 1, 2, 3] (.bool false), sv [0, 1, 2, 3, 4] (.pointer (some ⟨g1, 0, none⟩)), sv [0, 1, 2, 3, 4, 5] (.int .u8 (k.toNat : Int)), sv [0, 1, 2, 3, 4] (.pointer (some ⟨g1, 1, none⟩)), sv [0, 1, 2, 3, 4, 7] (.int .i64 (iw c)), sv [0, 1, 2, 3, 4, 5, 6, 7, 8] (.bool true), sv [0, 1, 2, 3, 4, 5, 6, 7, 8, 9] (.bool false), sv [0, 1, 2, 3, 4, 5, 6, 7, 8, 9, 10] (.bool false), sv [0, 1, 2, 3, 4, 5, 6, 7, 8, 9, 10, 11] (.bool false), sv [0, 1, 2, 3, 4, 5, 6, 7, 8, 9, 10, 11, 12] (.pointer (some ⟨g1, 2, none⟩)), sv [0, 1, 2, 3, 4, 5, 6, 7, 8, 9, 10, 11, 12, 13] (.int .u64 (t.toNat : Int)), sv [0, 1, 2, 3, 4, 5, 6, 7, 8, 9, 10, 11, 12, 13, 14] (.bool false), sv [0, 1, 2, 3, 4, 5, 6, 7, 8, 9, 10, 11, 12, 13, 14, 15] (.bool false), sv [0, 1, 2, 3, 4, 5, 6, 7, 8, 9, 10, 11, 12, 13, 14, 15, 16] (.bool false), sv [0, 1, 2, 3, 4, 5, 6, 7, 8, 9, 10, 11, 12, 13, 14, 15, 16, 17] (BV), sv [0, 1, 2, 3, 4, 5, 6, 7, 8, 9, 10, 11, 12, 13, 14, 15, 16, 17, 18] (.bool true), sv [0, 1, 2, 3, 4, 5, 6, 7, 8, 9, 10, 11, 12, 13, 14, 15, 16, 17, 18, 19] (.bool false), sv [0, 1, 2, 3, 4, 5, 6, 7, 8, 9, 10, 11, 12, 13, 14, 15, 16, 17, 18, 19, 20] (.bool false), sv [0, 1, 2, 3, 4, 5, 6, 7, 8, 9, 10, 11, 12, 13, 14, 15, 16, 17, 18, 19, 20, 21] (.bool false), sv [0, 1, 2, 3, 4, 5, 6, 7, 8, 9, 10, 11, 12, 13, 14, 15, 16, 17, 18, 19, 20, 21, 22] (.agg (rpL r vr vc).toArray), sv [0, 1, 2, 3, 4, 5, 6, 7, 8, 9, 10, 11, 12, 13, 14, 15, 16, 17, 18, 19, 20, 21, 22] (.agg (rpL r vr vc).toArray), sv [0, 1, 2, 3, 4, 5, 6, 7, 8, 9, 10, 11, 12, 13, 14, 15, 16, 17, 18, 19, 20, 21, 22] (BV), sv [0, 1, 2, 3, 4, 5, 6, 7, 8, 9, 10, 11, 12, 13, 14, 15, 16, 17, 18, 19, 20, 21, 22, 24, 25] (.agg (rpL U ur uc).toArray), sv [0, 1, 2, 3, 4, 5, 6, 7, 8, 9, 10, 11, 12, 13, 14, 15, 16, 17, 18, 19, 20, 21, 22, 23, 24, 25, 26] (.bool B5), sv [0, 1, 2, 3, 4, 5, 6, 7, 8, 9, 10, 11, 12, 13, 14, 15, 16, 17, 18, 19, 20, 21, 22, 23, 24, 25, 26, 27] (.bool (!B5)), sv [0, 1, 2, 3, 4, 5, 6, 7, 8, 9, 10, 11, 12, 13, 14, 15, 16, 17, 18, 19, 20, 21, 22, 23, 24, 25, 26, 27, 28] (.bool (!B5))] ?A5 ?hA5 kR kR kR [0, 1, 2, 3, 4, 5, 6, 7, 8, 9, 10, 11, 12, 13, 14, 15, 16, 17, 18, 19, 20, 21, 22, 23, 24, 25, 26, 27, 28, 29] kR ?hok5 ?fin5
    case hA5 => intro u; simp only [putAll, List.length_cons, List.length_nil, Nat.zero_add, Nat.reduceAdd, dstAt, List.getElem?_toArray, List.getElem?_cons_zero, List.getElem?_cons_succ, Option.bind_some, Act.put, List.setIfInBounds_toArray, List.set_cons_zero, List.set_cons_succ]; rfl
    case hok5 =>
      intro i hi
      obtain rfl | rfl | rfl | rfl | rfl | rfl | rfl | rfl | rfl | rfl | rfl | rfl | rfl | rfl | rfl | rfl | rfl | rfl | rfl | rfl | rfl | rfl | rfl | rfl | rfl | rfl | rfl | rfl | rfl | rfl : i = 0 ∨ i = 1 ∨ i = 2 ∨ i = 3 ∨ i = 4 ∨ i = 5 ∨ i = 6 ∨ i = 7 ∨ i = 8 ∨ i = 9 ∨ i = 10 ∨ i = 11 ∨ i = 12 ∨ i = 13 ∨ i = 14 ∨ i = 15 ∨ i = 16 ∨ i = 17 ∨ i = 18 ∨ i = 19 ∨ i = 20 ∨ i = 21 ∨ i = 22 ∨ i = 23 ∨ i = 24 ∨ i = 25 ∨ i = 26 ∨ i = 27 ∨ i = 28 ∨ i = 29 := by simp only [List.length_cons, List.length_nil, Nat.zero_add, Nat.reduceAdd] at hi; omega
      · exact oP []
      · clear hi
        refine step_of rfl rfl rfl ?_
        intro u G w hf S
        have f0 : u 0 = .pointer (some ⟨g1, 1, none⟩) := hf 0 (by simp)
        simp only [fl, z4, z5, z6, z7, ptrBlk] at S ⊢
        simp only [f0]
        refine does_load1 24 (.tmp 6) _ _ rfl (S.cell (g := g1) pk co) _ Tryd.underlying24 rfl ?_; exact ⟨rfl, S⟩
      · clear hi
        refine step_of rfl rfl rfl ?_
        intro u G w hf S
        have f1 : u 1 = .int .i64 (iw c) := hf 1 (by simp)
        simp only [fl, z4, z5, z6, z7, ptrBlk] at S ⊢
        simp only [f1]
        refine does_fn (args := [(.int .i64 (iw c)), (.int .i64 65535)]) Tryd.func71 kR kR (P2.out w) rfl ?_
        rintro e w1 ⟨rfl, T⟩
        exact ⟨_, rfl, rfl, S.call T⟩
      · exact oP [2]
      · exact oP [3]
      · exact oG [4]
      · clear hi
        refine step_of_g rfl rfl ?_
        intro u G w hf S
        have f4 : u 4 = (.bool false) := hf 4 (by simp)
        have f5 : u 5 = .pointer (some ⟨g1, 0, none⟩) := hf 5 (by simp)
        simp only [fl, z4, z5, z6, z7, ptrBlk] at S ⊢
        simp only [f4, f5]
        refine ⟨rfl, ?_⟩
        refine does_load1 5 (.tmp 11) _ _ rfl (S.cell (g := g1) pk co) _ Tryd.underlying5 rfl ?_; exact ⟨rfl, S⟩
      · exact oG [4]
      · clear hi
        refine step_of_g rfl rfl ?_
        intro u G w hf S
        have f4 : u 4 = (.bool false) := hf 4 (by simp)
        have f7 : u 7 = .pointer (some ⟨g1, 1, none⟩) := hf 7 (by simp)
        simp only [fl, z4, z5, z6, z7, ptrBlk] at S ⊢
        simp only [f4, f7]
        refine ⟨rfl, ?_⟩
        refine does_load1 24 (.tmp 13) _ _ rfl (S.cell (g := g1) pk co) _ Tryd.underlying24 rfl ?_; exact ⟨rfl, S⟩
      · clear hi
        refine step_of_g rfl rfl ?_
        intro u G w hf S
        have f4 : u 4 = (.bool false) := hf 4 (by simp)
        have f6 : u 6 = .int .u8 (k.toNat : Int) := hf 6 (by simp)
        have f8 : u 8 = .int .i64 (iw c) := hf 8 (by simp)
        simp only [fl, z4, z5, z6, z7, ptrBlk] at S ⊢
        simp only [f4, f6, f8]
        refine ⟨rfl, ?_⟩
        refine does_fn (args := [(.int .u8 (k.toNat : Int)), (.int .i64 (iw c))]) Tryd.func72 kR kR (P3.out w) rfl ?_
        rintro e w1 ⟨rfl, T⟩
        exact ⟨_, rfl, rfl, S.call T⟩
      · exact oG [4, 9]
      · exact oP [4, 10]
      · exact oP [11]
      · exact oG [12]
      · clear hi
        refine step_of_g rfl rfl ?_
        intro u G w hf S
        have f12 : u 12 = (.bool false) := hf 12 (by simp)
        have f13 : u 13 = .pointer (some ⟨g1, 2, none⟩) := hf 13 (by simp)
        simp only [fl, z4, z5, z6, z7, ptrBlk] at S ⊢
        simp only [f12, f13]
        refine ⟨rfl, ?_⟩
        refine does_load1 23 (.tmp 19) _ _ rfl (S.cell (g := g1) pk co) _ Tryd.underlying23 rfl ?_; exact ⟨rfl, S⟩
      · exact oG [12, 14]
      · exact oP [12, 15]
      · exact oP [16]
      · exact oG [17]
      · clear hi
        refine step_of_g rfl rfl ?_
        intro u G w hf S
        have f17 : u 17 = (.bool false) := hf 17 (by simp)
        have f18 : u 18 = (BV) := hf 18 (by simp)
        simp only [fl, z4, z5, z6, z7, ptrBlk] at S ⊢
        simp only [f17, f18]
        refine ⟨rfl, ?_⟩
        refine does_inv (.tmp 24) "dunnage/wire.valid" [] _ _ [] fv _ rfl rfl (MV.out w) (P4.out w (S.old HVR.out) (S.old HVC.out)) ?_; rintro e w1 ⟨rfl, T⟩; exact ⟨_, rfl, rfl, S.call T⟩
      · exact oG [17, 19]
      · exact oP [17, 20]
      · exact oP [21]
      · clear hi
        refine step_of_g rfl rfl ?_
        intro u G w hf S
        have f22 : u 22 = (.bool false) := hf 22 (by simp)
        simp only [fl, z4, z5, z6, z7, ptrBlk] at S ⊢
        simp only [f22]
        refine ⟨rfl, ?_⟩
        refine does_load 79 (.tmp 1) g1 rfl _ _ _ (S.get (r := blk g1 _) pk) _ Tryd.underlying79 rfl 46 kR lN ?_; exact ⟨rfl, S⟩
      · clear hi
        refine step_of_g rfl rfl ?_
        intro u G w hf S
        have f22 : u 22 = (.bool false) := hf 22 (by simp)
        simp only [fl, z4, z5, z6, z7, ptrBlk] at S ⊢
        simp only [f22]
        refine ⟨rfl, ?_⟩
        refine does_load 79 (.tmp 1) g1 rfl _ _ _ (S.get (r := blk g1 _) pk) _ Tryd.underlying79 rfl 46 kR lN ?_; exact ⟨rfl, S⟩
      · exact oG [22]
      · clear hi
        refine step_of_g rfl rfl ?_
        intro u G w hf S
        have f22 : u 22 = (.bool false) := hf 22 (by simp)
        have f24 : u 24 = .agg (rpL r vr vc).toArray := hf 24 (by simp)
        have f25 : u 25 = (BV) := hf 25 (by simp)
        simp only [fl, z4, z5, z6, z7, ptrBlk] at S ⊢
        simp only [f22, f24, f25]
        refine ⟨rfl, ?_⟩
        refine does_fn (args := [(.agg (rpL r vr vc).toArray), ((BV))]) Tryd.func70 kR kR (P5.out w) rfl ?_
        rintro e w1 ⟨rfl, T⟩
        exact ⟨_, rfl, rfl, S.call T⟩
      · clear hi
        refine step_of_g rfl rfl ?_
        intro u G w hf S
        have f22 : u 22 = (.bool false) := hf 22 (by simp)
        have f23 : u 23 = .agg (rpL r vr vc).toArray := hf 23 (by simp)
        have f26 : u 26 = .agg (rpL U ur uc).toArray := hf 26 (by simp)
        simp only [fl, z4, z5, z6, z7, ptrBlk] at S ⊢
        simp only [f22, f23, f26]
        refine ⟨rfl, ?_⟩
        refine does_fn (args := [(.agg (rpL r vr vc).toArray), (.agg (rpL U ur uc).toArray)]) Tryd.func73 kR kR (P6.out w (S.old HVR.out) (S.old HVC.out) (S.old HUR.out) (S.old HUC.out)) rfl ?_
        rintro e w1 ⟨rfl, T⟩
        exact ⟨_, rfl, rfl, S.call T⟩
      · exact oG [22, 27]
      · exact oP [22, 28]
    case fin5 =>
      intro u w hf S
      have hvA := allV hf
      simp only [AllV, RSpec.valAt, sv, Nat.zero_add, Nat.reduceAdd] at hvA
      simp only [fl, z4, z5, z6, z7, ptrBlk] at S
      clear hf
      simp only [List.length_cons, List.length_nil, Nat.zero_add, Nat.reduceAdd, List.drop_succ_cons, List.drop_zero, hvA]
      clear hvA
      cases B5 with
      | false =>
        obtain rfl : X = 8 := HX.out
        go_wp2_with (first | fail)
        go_ret
        exact ⟨rfl, S.nil⟩
      | true =>
        obtain rfl : X = 0 := HX.out
        go_wp2_with (first | fail)
        go_ret
        exact ⟨rfl, S.nil⟩
end Go.Proofs.YtfhkmmagpnojmaaDoor

/- EncodeReply. No condition but the reach. -/
namespace Go.Proofs.YtfhkmmagpnojmaaDoor
open Go.RowKit

def encRp (r : Rp) : List UInt8 := if rpV r = true then encP r else []
set_option maxRecDepth 100000 in
set_option maxHeartbeats 8000000 in
theorem encodeReply_s (r : Rp) (vr vc : Value) (w0 : World) (hvr : Sl w0 3 vr r.robots.length (r.robots.flatMap sgtL)) (hvc : Sl w0 35 vc r.records.length (r.records.flatMap rcdL)) :
    Calls Tryd.prog 38 #[.agg (rpL r vr vc).toArray] w0 (MadeE w0 (encRp r) (rpE r)) := by
  have S := Has.start w0
  have hck := fun w h1 h2 => checkReply_s r vr vc w h1 h2
  obtain ⟨ar, cr, rfl, _, _⟩ := Sl.shape hvr
  obtain ⟨ac, cc, rfl, _, _⟩ := Sl.shape hvc
  cases hv : rpV r with
  | false =>
    have hE : rpE r = 8 := if_neg (by rw [hv]; decide)
    have hX : encRp r = [] := if_neg (by rw [hv]; decide)
    rw [hE] at hck
    rw [hE, hX]
    obtain ⟨vr, hvr'⟩ : ∃ v, v = Value.slice ar r.robots.length cr := ⟨_, rfl⟩
    obtain ⟨vc, hvc'⟩ : ∃ v, v = Value.slice ac r.records.length cc := ⟨_, rfl⟩
    rw [← hvr'] at hck hvr ⊢
    rw [← hvc'] at hck hvc ⊢
    have HCK := Lib.hid hck; have HVR := Lib.hid hvr; have HVC := Lib.hid hvc; clear hck hvr hvc
    clear hE hX hv hvr' hvc'
    go_enter Tryd.func38, Tryd.ntmps38
    go_wp2_with (first | ((with_reducible refine iD 1 (.box 79 (.tmp 0)) ?_); refine step_boxA (dst := some 1) S 79 (.tmp 0) _ rfl gw ?_; clear S; intro g1 w S) | ((with_reducible refine iO _ (.load 79 _) ?_); first | (refine step_load S 79 _ _ rfl _ _ _ pk _ Tryd.underlying79 rfl 46 kR lN rfl ?_) | (refine step_loadO 79 _ _ rfl _ _ _ (S.old_heap (Hid.out (by assumption))) _ Tryd.underlying79 rfl 46 kR lN rfl ?_) | (refine step_loadR 79 _ _ _ rfl _ (S.old_range hy) _ Tryd.underlying79 rfl 46 kR lN _ rfl rfl ?_)) | (go_at_call 41; (with_reducible refine (HCK.out _ (S.old HVR.out) (S.old HVC.out)).mono ?_); rintro e w1 ⟨rfl, T⟩; replace S := S.call T; clear T; (try simp only [z4, z5] at S)) | fail)
    go_ret2
    exact ⟨_, rfl, (S.nil.nil8).sub (by repeat (first | exact Sub.nil _ | refine Sub.cons pk ?_))⟩
  | true =>
    have hE : rpE r = 0 := if_pos hv
    have hX : encRp r = encP r := if_pos hv
    rw [hE] at hck
    rw [hE, hX]
    have heq := rpV_eq r
    rw [hv] at heq
    have hb5 : decide (0 ≤ r.code.v ∧ r.code.v ≤ 65535) = true ∧ decide (r.tick.toNat ≤ 4611686018427387904) = true ∧ bkV (bk r) r = true := by
      have := heq.symm
      simp only [Bool.and_eq_true] at this
      exact ⟨this.1, this.2.2.1, this.2.2.2.1⟩
    obtain ⟨hc0, ht0, hbd⟩ := hb5
    have hc0 := of_decide_eq_true hc0
    have p0 := fun w => replyBody_s r ar ac r.robots.length cr r.records.length cc w
    obtain ⟨fw, aw, mv, p4⟩ := bodyWrite_s (bk r) r hbd ar ac r.robots.length cr r.records.length cc
    have hbl := rpBK_len (bk r) r hbd
    have hin : inP r = numB r.kind.toNat 1 ++ numB r.code.v.toNat 2 ++ numB r.tick.toNat 8 ++ rpBK (bk r) r := by unfold inP; rw [rpB_bk]
    unfold bodyV at p0
    have d0 := rpL_0 r (.slice ar r.robots.length cr) (.slice ac r.records.length cc)
    have d1 := rpL_1 r (.slice ar r.robots.length cr) (.slice ac r.records.length cc)
    have d2 := rpL_2 r (.slice ar r.robots.length cr) (.slice ac r.records.length cc)
    unfold encP
    rw [hin]
    obtain ⟨BB, hBB⟩ : ∃ B, B = rpBK (bk r) r := ⟨_, rfl⟩
    rw [← hBB] at p4 hbl ⊢
    obtain ⟨BV, hBV⟩ : ∃ B, B = bodyK (bk r) r (.slice ar r.robots.length cr) (.slice ac r.records.length cc) := ⟨_, rfl⟩
    rw [← hBV] at p0 mv
    have hkl := r.kind.toNat_lt
    have htl := r.tick.toNat_lt
    have p1 := fun g v w F S => wuint_i (r.kind.toNat : Int) r.kind.toNat rfl 1 1 rfl g v [] w0 w F S (by omega) (by decide) (by decide)
    rw [List.nil_append] at p1
    have l1 : (numB r.kind.toNat 1).length = 1 := numB_length _ _
    obtain ⟨X1, hX1⟩ : ∃ X, X = numB r.kind.toNat 1 := ⟨_, rfl⟩
    rw [← hX1] at p1 l1 ⊢
    have p2 := fun g v w F S => wuint_i r.code.v r.code.v.toNat (by omega) 2 2 rfl g v X1 w0 w F S (by omega) (by decide) (by omega)
    have l2 : (X1 ++ numB r.code.v.toNat 2).length = 3 := by rw [List.length_append, numB_length]; omega
    obtain ⟨X2, hX2⟩ : ∃ X, X = X1 ++ numB r.code.v.toNat 2 := ⟨_, rfl⟩
    rw [← hX2] at p2 l2 ⊢
    have p3 := fun g v w F S => wuint_i (r.tick.toNat : Int) r.tick.toNat rfl 8 8 rfl g v X2 w0 w F S (by omega) (by decide) (by omega)
    have l3 : (X2 ++ numB r.tick.toNat 8).length = 11 := by rw [List.length_append, numB_length]; omega
    obtain ⟨X3, hX3⟩ : ∃ X, X = X2 ++ numB r.tick.toNat 8 := ⟨_, rfl⟩
    rw [← hX3] at p3 l3 ⊢
    have l4 : (X3 ++ BB).length ≤ 1411 := by rw [List.length_append]; omega
    obtain ⟨X4, hX4⟩ : ∃ X, X = X3 ++ BB := ⟨_, rfl⟩
    have p5 := fun g v w h1 h2 => framed_s g v X4 w h1 h2 (by rw [hX4]; omega)
    rw [← hX4]
    have p4' := fun g v w F S h1 h2 => p4 g v X3 w0 w F S h1 h2 (by omega)
    rw [← hX4] at p4'
    have u1 : IntKind.u64.wrap (r.kind.toNat : Int) = (r.kind.toNat : Int) := by rw [IntKind.wrap_u64]; omega
    have u2 : IntKind.u64.wrap r.code.v = r.code.v := by rw [IntKind.wrap_u64]; omega
    obtain ⟨vr, hvr'⟩ : ∃ v, v = Value.slice ar r.robots.length cr := ⟨_, rfl⟩
    obtain ⟨vc, hvc'⟩ : ∃ v, v = Value.slice ac r.records.length cc := ⟨_, rfl⟩
    rw [← hvr'] at hck hvr p0 p4' d0 d1 d2 ⊢
    rw [← hvc'] at hck hvc p0 p4' d0 d1 d2 ⊢
    have D0 := Lib.hid d0; have D1 := Lib.hid d1; have D2 := Lib.hid d2; have HCK := Lib.hid hck; have HVR := Lib.hid hvr; have HVC := Lib.hid hvc; have P0 := Lib.hid p0; have P1 := Lib.hid p1; have P2 := Lib.hid p2; have P3 := Lib.hid p3; have P4' := Lib.hid p4'; have P5 := Lib.hid p5; have MV := Lib.hid mv; clear d0 d1 d2 hck hvr hvc p0 p1 p2 p3 p4' p5 mv
    clear hE hX hv hvr' hvc' heq hc0 ht0 hbd hbl hin hBB hBV hkl htl l1 l2 l3 l4 hX1 hX2 hX3 hX4 p4
    go_enter Tryd.func38, Tryd.ntmps38
    go_wp2_with (first | ((with_reducible refine iD 1 (.box 79 (.tmp 0)) ?_); refine step_boxA (dst := some 1) S 79 (.tmp 0) _ rfl gw ?_; clear S; intro g1 w S) | (go_at_call 48; (with_reducible refine (P1.out g12 (.slice none 0 0) _ _ (S.nil8.pick2 (r := wrt g12 (.slice none 0 0)) (s := row8 (.slice none 0 0) []) pk pk)).mono ?_); rintro e w1 ⟨rfl, v1, S1⟩; clear S; have S := S1; clear S1; have _t := P1; clear P1) | (go_at_call 48; (with_reducible refine (P2.out g12 v1 _ _ S).mono ?_); rintro e w1 ⟨rfl, v2, S1⟩; clear S; have S := S1; clear S1; have _t2 := P2; clear P2) | (go_at_call 48; (with_reducible refine (P3.out g12 v2 _ _ S).mono ?_); rintro e w1 ⟨rfl, v3, S1⟩; clear S; have S := S1; clear S1) | ((with_reducible refine iD 30 (.call _) ?_); refine step_inv (.tmp 28) "dunnage/wire.write" [.tmp 29] _ _ [.pointer (some ⟨g12, 0, none⟩)] fw _ rfl rfl (MV.out _ _) (P4'.out g12 v3 _ _ S HVR.out HVC.out) gw ?_; rintro e w1 ⟨rfl, v4, S1⟩; refine .inl ⟨_, rfl, ?_⟩; clear S; have S := S1; clear S1) | ((with_reducible refine iO _ (.load 79 _) ?_); first | (refine step_load S 79 _ _ rfl _ _ _ pk _ Tryd.underlying79 rfl 46 kR lN rfl ?_) | (refine step_loadO 79 _ _ rfl _ _ _ (S.old_heap (Hid.out (by assumption))) _ Tryd.underlying79 rfl 46 kR lN rfl ?_) | (refine step_loadR 79 _ _ _ rfl _ (S.old_range hy) _ Tryd.underlying79 rfl 46 kR lN _ rfl rfl ?_)) | (go_at_call 41; (with_reducible refine (HCK.out _ (S.old HVR.out) (S.old HVC.out)).mono ?_); rintro e w1 ⟨rfl, T⟩; replace S := S.call T; clear T; (try simp only [z4, z5] at S)) | ((with_reducible refine iD 11 (.build 104 _) ?_); refine step_buildZ 104 (.agg (#[.slice none 0 0])) (fun w => by kernel_rfl) rfl ?_) | ((with_reducible refine iD 12 (.box 104 (.tmp 11)) ?_); refine step_boxA (dst := some 12) S 104 (.tmp 11) _ rfl rfl ?_; clear S; intro g12 w S) | ((with_reducible refine iO _ (.load 5 _) ?_); refine step_load1 5 _ _ _ rfl (cL) _ Tryd.underlying5 rfl rfl ?_) | ((with_reducible refine iO _ (.load 24 _) ?_); refine step_load1 24 _ _ _ rfl (cL) _ Tryd.underlying24 rfl rfl ?_) | ((with_reducible refine iO _ (.load 23 _) ?_); refine step_load1 23 _ _ _ rfl (cL) _ Tryd.underlying23 rfl rfl ?_) | (go_at_call 68; (with_reducible refine (P0.out _).mono ?_); rintro e w1 ⟨rfl, T⟩; replace S := S.call T; clear T; (try simp only [z4, z5] at S)) | (go_at_call 58; (with_reducible refine (P5.out g12 v4 _ (S.cell (g := g12) pk rfl) (S.bs (xs := X4) pk)).mono ?_); rintro e w1 ⟨v5, rfl, T⟩; replace S := S.call T; clear T; (try simp only [z4, z5] at S)) | fail)
    go_ret2
    exact ⟨_, rfl, S.sub (by repeat (first | exact Sub.nil _ | refine Sub.cons pk ?_))⟩
end Go.Proofs.YtfhkmmagpnojmaaDoor

/- What an encoded reply reads as: plain laws. No program, no condition. -/
namespace Go.Proofs.YtfhkmmagpnojmaaDoor
open Go.RowKit

/-- The reply that is read, body by body. -/
def rpG (q : BK) (h : Rp) (b : List UInt8) : Rp := match q with
  | .n => h
  | .o => { h with order := i64N (atB b 13 2) }
  | .s => { h with state := UInt8.ofNat (atB b 13 1), done := UInt64.ofNat (atB b 14 8) }
  | .w => { h with robots := (List.range (atB b 13 1)).map fun i => sgtAt b (14 + 4 * i), queued := i64N (atB b (14 + 4 * atB b 13 1) 1) }
  | .c => { h with count := UInt32.ofNat (atB b 13 4), records := (List.range (atB b 17 1)).map fun i => rcdAt b (18 + 43 * i) }
  | .t => { h with tok := if b.length = 59 then decT (b.drop 13) else tokZ }
theorem rpP_bg (b : List UInt8) : rpP b = rpG (bk (hdX b)) (hdX b) b := by
  rw [bk_hd]
  unfold rpP
  by_cases h0 : atB b 3 2 ≠ 0
  · simp only [if_pos h0]
    rfl
  · by_cases h1 : b.getD 2 0 = 1 ∨ b.getD 2 0 = 16
    · simp only [if_neg h0, if_pos h1]
      rfl
    · by_cases h3 : b.getD 2 0 = 3
      · simp only [if_neg h0, if_neg h1, if_pos h3]
        rfl
      · by_cases h4 : b.getD 2 0 = 4
        · simp only [if_neg h0, if_neg h1, if_neg h3, if_pos h4]
          rfl
        · by_cases h5 : b.getD 2 0 = 5
          · simp only [if_neg h0, if_neg h1, if_neg h3, if_neg h4, if_pos h5]
            rfl
          · by_cases h18 : b.getD 2 0 = 18
            · simp only [if_neg h0, if_neg h1, if_neg h3, if_neg h4, if_neg h5, if_pos h18]
              rfl
            · simp only [if_neg h0, if_neg h1, if_neg h3, if_neg h4, if_neg h5, if_neg h18]
              rfl
theorem atB_num2 (P : List UInt8) (n s : Nat) (b : List UInt8) (i : Nat) (hi : P.length = i) (h : n < 256 ^ s) : atB (P ++ (numB n s ++ b)) i s = n := by
  rw [atB_pre _ _ _ _ hi, atB_num _ _ _ h]
theorem lkB_pre (P b : List UInt8) (k : List UInt8) (i : Nat) (hi : P.length = i) (hk : k.length = 32) : lkB (P ++ (k ++ b)) i = k := by
  subst hi
  unfold lkB
  rw [if_pos (by simp only [List.length_append]; omega), List.drop_left, List.take_left' hk]
theorem i64N_nat (c : I64) (h : 0 ≤ c.v ∧ c.v ≤ 65535) : i64N c.v.toNat = c := I64.ext' (by show ((c.v.toNat % 65536 : Nat) : Int) = c.v; omega)
theorem sgtAt_pre (P b : List UInt8) (x : Sgt) (i : Nat) (hi : P.length = i) (hv : sgtV x = true) : sgtAt (P ++ (sgtB x ++ b)) i = x := by
  unfold sgtV at hv
  have hv := of_decide_eq_true hv
  have hst := x.state.toNat_lt
  have e : sgtB x ++ b = numB x.place.v.toNat 1 ++ (numB x.state.toNat 1 ++ (numB x.order.v.toNat 2 ++ b)) := by unfold sgtB; simp only [List.append_assoc]
  rw [e]
  unfold sgtAt
  refine Sgt.ext' ?_ ?_ ?_
  · show i64N _ = _
    rw [atB_num2 P _ _ _ i hi (by omega), i64N_nat _ (by omega)]
  · show UInt8.ofNat _ = _
    rw [← List.append_assoc P, atB_num2 _ _ _ _ (i + 1) (by simp [numB_length, hi]) (by omega), UInt8.ofNat_toNat]
  · show i64N _ = _
    rw [← List.append_assoc P, ← List.append_assoc (P ++ _), atB_num2 _ _ _ _ (i + 2) (by simp [numB_length, hi]) (by omega), i64N_nat _ (by omega)]
theorem rcdAt_pre (P b : List UInt8) (x : Rcd) (i : Nat) (hi : P.length = i) (hv : rcdV x = true) : rcdAt (P ++ (rcdB x ++ b)) i = x := by
  unfold rcdV at hv
  have hv := of_decide_eq_true hv
  have hst := x.kind.toNat_lt
  have htl := x.tick.toNat_lt
  have e : rcdB x ++ b = numB x.tick.toNat 8 ++ (numB x.kind.toNat 1 ++ (numB x.code.v.toNat 2 ++ (x.link ++ b))) := by unfold rcdB; simp only [List.append_assoc]
  rw [e]
  unfold rcdAt
  refine Rcd.ext' ?_ ?_ ?_ ?_
  · show UInt64.ofNat _ = _
    rw [atB_num2 P _ _ _ i hi (by omega), UInt64.ofNat_toNat]
  · show UInt8.ofNat _ = _
    rw [← List.append_assoc P, atB_num2 _ _ _ _ (i + 8) (by simp [numB_length, hi]) (by omega), UInt8.ofNat_toNat]
  · show i64N _ = _
    rw [← List.append_assoc P, ← List.append_assoc (P ++ _), atB_num2 _ _ _ _ (i + 9) (by simp [numB_length, hi]) (by omega), i64N_nat _ (by omega)]
  · show lkB _ _ = _
    rw [← List.append_assoc P, ← List.append_assoc (P ++ _), ← List.append_assoc (P ++ _ ++ _), lkB_pre _ _ _ (i + 11) (by simp [numB_length, hi]) x.len]
theorem range_pre {α : Type} (f : α → List UInt8) (m : Nat) (at' : List UInt8 → Nat → α) (V : α → Prop) (hf : ∀ x, (f x).length = m) (hat : ∀ (P b : List UInt8) (x : α) (i : Nat), P.length = i → V x → at' (P ++ (f x ++ b)) i = x) :
    ∀ (l : List α) (P S : List UInt8) (c : Nat), P.length = c → (∀ x ∈ l, V x) → ((List.range l.length).map fun i => at' (P ++ (l.flatMap f ++ S)) (c + m * i)) = l
  | [], _, _, _, _, _ => rfl
  | x :: l, P, S, c, hc, hv => by
    rw [List.length_cons, List.range_succ_eq_map, List.map_cons, List.map_map, List.flatMap_cons, List.append_assoc]
    congr 1
    · rw [Nat.mul_zero, Nat.add_zero]
      exact hat P _ x c hc (hv x (by simp))
    · have ih := range_pre f m at' V hf hat l (P ++ f x) S (c + m) (by rw [List.length_append, hc, hf]) (fun y hy => hv y (by simp [hy]))
      rw [List.append_assoc] at ih
      have e : ((fun i => at' (P ++ (f x ++ (l.flatMap f ++ S))) (c + m * i)) ∘ Nat.succ) = fun i => at' (P ++ (f x ++ (l.flatMap f ++ S))) (c + m + m * i) := by
        funext i
        show at' _ (c + m * (i + 1)) = _
        rw [Nat.mul_succ, Nat.add_comm (m * i) m, Nat.add_assoc]
      rw [e]
      exact ih
theorem bkV_of (r : Rp) (h : rpV r = true) : 0 ≤ r.code.v ∧ r.code.v ≤ 65535 ∧ bkV (bk r) r = true ∧ r = usK (bk r) r r := by
  rw [rpV_eq] at h
  simp only [Bool.and_eq_true, decide_eq_true_eq] at h
  obtain ⟨hc, _, _, hb, hu⟩ := h
  exact ⟨hc.1, hc.2, hb, by rw [← usR_bk]; exact hu⟩
theorem encP_len (r : Rp) (h : rpV r = true) : (encP r).length ≤ 1413 := by
  obtain ⟨_, _, hb, _⟩ := bkV_of r h
  rw [encP_length, rpB_bk]
  have := rpBK_len (bk r) r hb
  omega
theorem encP_cut (r : Rp) : ∃ P : List UInt8, P.length = 13 ∧ encP r = P ++ rpB r ∧ P = numB ((encP r).length) 2 ++ (numB r.kind.toNat 1 ++ (numB r.code.v.toNat 2 ++ (numB r.tick.toNat 8 ++ []))) := by
  refine ⟨_, ?_, ?_, rfl⟩
  · simp [numB_length]
  · rw [encP_length]
    show frm (inP r) = _
    unfold frm
    rw [inP_length, show 11 + (rpB r).length + 2 = 13 + (rpB r).length by omega]
    unfold inP
    simp only [List.append_assoc, List.append_nil]
/-- A valid reply is read from its encoding. -/
theorem rpP_encP (r : Rp) (h : rpV r = true) : rpP (encP r) = r := by
  obtain ⟨hc1, hc2, hb, hu⟩ := bkV_of r h
  obtain ⟨P, hP, hX, hPe⟩ := encP_cut r
  have hl := encP_len r h
  obtain ⟨X, hXe⟩ : ∃ X, X = encP r := ⟨_, rfl⟩
  rw [← hXe] at hX hPe hl ⊢
  have hkl := r.kind.toNat_lt
  have htl := r.tick.toNat_lt
  have hX2 : X = numB X.length 2 ++ (numB r.kind.toNat 1 ++ (numB r.code.v.toNat 2 ++ (numB r.tick.toNat 8 ++ rpB r))) := by
    have : P ++ rpB r = numB X.length 2 ++ (numB r.kind.toNat 1 ++ (numB r.code.v.toNat 2 ++ (numB r.tick.toNat 8 ++ rpB r))) := by rw [hPe]; simp only [List.append_assoc, List.append_nil]
    rw [← this]
    exact hX
  obtain ⟨N2, hN2⟩ : ∃ N, N = numB X.length 2 := ⟨_, rfl⟩
  have ln2 : N2.length = 2 := by rw [hN2, numB_length]
  rw [← hN2] at hX2
  have h3 : atB X 3 2 = r.code.v.toNat := by
    rw [hX2, ← List.append_assoc N2]
    exact atB_num2 _ _ _ _ 3 (by simp [numB_length, ln2]) (by omega)
  have h5 : atB X 5 8 = r.tick.toNat := by
    rw [hX2, ← List.append_assoc N2, ← List.append_assoc (N2 ++ _)]
    exact atB_num2 _ _ _ _ 5 (by simp [numB_length, ln2]) (by omega)
  have h2 : X.getD 2 0 = r.kind := by
    rw [hX2, numB_one]
    simp [List.getD, List.getElem?_append_right, ln2]
  have hh : hdX X = rpH r.kind r.code r.tick := by
    unfold hdX
    rw [h2, h3, h5, i64N_nat _ ⟨hc1, hc2⟩, UInt64.ofNat_toNat]
  rw [rpP_bg, hh, show bk (rpH r.kind r.code r.tick) = bk r from rfl]
  rw [rpB_bk] at hX
  clear hX2 h3 h5 h2 hN2 ln2 hPe
  cases hq : bk r with
  | n => rw [hq] at hu; exact hu.symm
  | o =>
    rw [hq] at hu hX hb
    have hb := of_decide_eq_true hb
    have e1 : atB X 13 2 = r.order.v.toNat := by
      rw [hX, ← List.append_nil (rpBK .o r)]
      exact atB_num2 P _ _ _ 13 hP (by omega)
    show { rpH r.kind r.code r.tick with order := i64N (atB X 13 2) } = r
    rw [e1, i64N_nat _ hb]
    exact hu.symm
  | s =>
    rw [hq] at hu hX
    have hdl := r.done.toNat_lt
    have hsl := r.state.toNat_lt
    have e1 : atB X 13 1 = r.state.toNat := by
      rw [hX]
      exact atB_num2 P _ _ _ 13 hP (by omega)
    have e2 : atB X 14 8 = r.done.toNat := by
      rw [hX]
      show atB (P ++ (numB r.state.toNat 1 ++ numB r.done.toNat 8)) 14 8 = _
      rw [← List.append_assoc, ← List.append_nil (numB r.done.toNat 8)]
      exact atB_num2 _ _ _ _ 14 (by simp [numB_length, hP]) (by omega)
    show { rpH r.kind r.code r.tick with state := UInt8.ofNat (atB X 13 1), done := UInt64.ofNat (atB X 14 8) } = r
    rw [e1, e2, UInt8.ofNat_toNat, UInt64.ofNat_toNat]
    exact hu.symm
  | w =>
    rw [hq] at hu hX hb
    unfold bkV at hb
    simp only [Bool.and_eq_true, decide_eq_true_eq, Bool.not_eq_true'] at hb
    obtain ⟨hb1, hb2, hb3⟩ := hb
    have hall : ∀ x ∈ r.robots, sgtV x = true := fun x hx => by
      have := List.any_eq_false.1 hb2 x hx
      simpa using this
    have hX3 : X = P ++ (numB r.robots.length 1 ++ (r.robots.flatMap sgtB ++ (numB r.queued.v.toNat 1 ++ []))) := by
      rw [hX]
      show P ++ (numB r.robots.length 1 ++ r.robots.flatMap sgtB ++ numB r.queued.v.toNat 1) = _
      simp only [List.append_assoc, List.append_nil]
    have e1 : atB X 13 1 = r.robots.length := by
      rw [hX3]
      exact atB_num2 P _ _ _ 13 hP (by omega)
    have e2 : ((List.range r.robots.length).map fun i => sgtAt X (14 + 4 * i)) = r.robots := by
      rw [hX3, ← List.append_assoc P]
      exact range_pre sgtB 4 sgtAt (fun x => sgtV x = true) sgtB_length (fun P b x i hi hv => sgtAt_pre P b x i hi hv) r.robots _ _ 14 (by simp [numB_length, hP]) hall
    have e3 : atB X (14 + 4 * r.robots.length) 1 = r.queued.v.toNat := by
      rw [hX3, ← List.append_assoc P, ← List.append_assoc (P ++ _)]
      exact atB_num2 _ _ _ _ _ (by simp only [List.length_append, numB_length, hP, flatLen sgtB 4 sgtB_length]) (by omega)
    show { rpH r.kind r.code r.tick with robots := (List.range (atB X 13 1)).map fun i => sgtAt X (14 + 4 * i), queued := i64N (atB X (14 + 4 * atB X 13 1) 1) } = r
    rw [e1, e2, e3, i64N_nat _ (by omega)]
    exact hu.symm
  | c =>
    rw [hq] at hu hX hb
    obtain ⟨hb1, hall⟩ := (chV_iff r.records).1 hb
    have hcl := r.count.toNat_lt
    have hX3 : X = P ++ (numB r.count.toNat 4 ++ (numB r.records.length 1 ++ (r.records.flatMap rcdB ++ []))) := by
      rw [hX]
      show P ++ (numB r.count.toNat 4 ++ numB r.records.length 1 ++ r.records.flatMap rcdB) = _
      simp only [List.append_assoc, List.append_nil]
    have e1 : atB X 13 4 = r.count.toNat := by
      rw [hX3]
      exact atB_num2 P _ _ _ 13 hP (by omega)
    have e2 : atB X 17 1 = r.records.length := by
      rw [hX3, ← List.append_assoc P]
      exact atB_num2 _ _ _ _ 17 (by simp [numB_length, hP]) (by omega)
    have e3 : ((List.range r.records.length).map fun i => rcdAt X (18 + 43 * i)) = r.records := by
      rw [hX3, ← List.append_assoc P, ← List.append_assoc (P ++ _)]
      exact range_pre rcdB 43 rcdAt (fun x => rcdV x = true) rcdB_length (fun P b x i hi hv => rcdAt_pre P b x i hi hv) r.records _ _ 18 (by simp [numB_length, hP]) hall
    show { rpH r.kind r.code r.tick with count := UInt32.ofNat (atB X 13 4), records := (List.range (atB X 17 1)).map fun i => rcdAt X (18 + 43 * i) } = r
    rw [e1, e2, e3, UInt32.ofNat_toNat]
    exact hu.symm
  | t =>
    rw [hq] at hu hX
    have hl59 : X.length = 59 := by rw [hX, List.length_append, hP]; show 13 + (encT r.tok).length = 59; rw [encT_length]
    have hd : X.drop 13 = encT r.tok := by rw [hX, List.drop_left' hP]; rfl
    show { rpH r.kind r.code r.tick with tok := if X.length = 59 then decT (X.drop 13) else tokZ } = r
    rw [if_pos hl59, hd, decT_encT]
    exact hu.symm
theorem encP_take2 (r : Rp) (h : rpV r = true) : val ((encP r).take 2) = (encP r).length := by
  obtain ⟨P, hP, hX, hPe⟩ := encP_cut r
  have hl := encP_len r h
  have : (encP r).take 2 = numB (encP r).length 2 := by
    rw [show (encP r).take 2 = (P ++ rpB r).take 2 from congrArg (List.take 2) hX, hPe, List.append_assoc, List.take_left' (numB_length _ _)]
  rw [this, val_numB_lt _ _ (by omega)]
theorem dpOk_encP (r : Rp) (h : rpV r = true) : dpOk (encP r) = true := by
  have h1 := rpP_encP r h
  have h2 := rpB_length_at (encP r)
  rw [h1] at h2
  unfold dpOk
  rw [h1, h, decide_eq_true ⟨by rw [← h2, encP_length], encP_take2 r h⟩]
  rfl
theorem dpE_encP (r : Rp) (h : rpV r = true) : dpE (encP r) = 0 := by
  unfold dpE
  rw [if_neg (by rw [encP_length]; omega), dpOk_encP r h]
  rfl
theorem dpR_encP (r : Rp) (h : rpV r = true) : dpR (encP r) = r := (if_pos (dpE_encP r h)).trans (rpP_encP r h)
/-- A beginning of an encoding is none. -/
theorem rp_begin (r : Rp) (hv : rpV r = true) (n : Nat) (h : n < (encP r).length) : dpE ((encP r).take n) = if n < 13 then 10 else 11 := by
  have hl : ((encP r).take n).length = n := by rw [List.length_take]; omega
  unfold dpE
  rw [hl]
  by_cases h3 : n < 13
  · rw [if_pos h3, if_pos h3]
  · rw [if_neg h3, if_neg h3]
    have : dpOk ((encP r).take n) = false := by
      unfold dpOk
      rw [decide_eq_false, Bool.false_and]
      rintro ⟨_, h2⟩
      rw [hl, List.take_take, Nat.min_eq_left (by omega), encP_take2 r hv] at h2
      omega
    rw [this]
    rfl
/-- What was decoded is valid, and its encoding is the bytes. -/
theorem rp_back (b : List UInt8) (h : dpE b = 0) : rpV (dpR b) = true ∧ encP (dpR b) = b := by
  have hok : dpOk b = true := by
    unfold dpE at h
    split at h
    · cases h
    · split at h
      · assumption
      · cases h
  have hR : dpR b = rpP b := if_pos h
  unfold dpOk at hok
  rw [Bool.and_eq_true, decide_eq_true_eq] at hok
  rw [hR]
  exact ⟨hok.2, encP_rpP b hok.1.1 hok.1.2⟩
theorem rp_err (b : List UInt8) (h : dpE b ≠ 0) : dpE b = 10 ∨ dpE b = 11 := by
  unfold dpE at h ⊢
  split
  · exact .inl rfl
  · split
    · rename_i h1 h2; rw [if_neg h1, if_pos h2] at h; exact absurd rfl h
    · exact .inr rfl
theorem rp_parts (r : Rp) (h : rpV r = true) : (encP r).getD 2 0 = r.kind ∧ (r.code.v ≠ 0 → (encP r).length = 13) := by
  obtain ⟨P, hP, hX, hPe⟩ := encP_cut r
  refine ⟨?_, fun h0 => ?_⟩
  · obtain ⟨N, hN⟩ : ∃ N, N = numB (encP r).length 2 := ⟨_, rfl⟩
    have ln : N.length = 2 := by rw [hN, numB_length]
    rw [hX, hPe, ← hN, numB_one]
    simp [List.getD, List.getElem?_append_right, List.getElem?_append_left, ln, List.append_assoc]
  · rw [encP_length, show rpB r = [] from if_pos h0]
    rfl
end Go.Proofs.YtfhkmmagpnojmaaDoor

/- whole: what it reads by a function that may panic, and its deferred closure. No condition but the reach. -/
namespace Go.Proofs.YtfhkmmagpnojmaaDoor
open Go.RowKit

abbrev bblk (g : Nat) (x : Bool) : Res := blk g (.cells #[.bool x] 4 (0, 0))
set_option maxRecDepth 100000 in
theorem catch_p (g : Nat) (x : Bool) (w0 w : World) (F : List Res) (S : Has w0 w (bblk g x :: F)) :
    CallsD Tryd.prog 83 #[.pointer (some ⟨g, 0, none⟩)] (.panicking [erl]) w fun e u' w' =>
      e = .returned (.tuple #[]) ∧ u' = .panicking [{ erl with recovered := true }] ∧ Has w0 w' (bblk g false :: F) := by
  have hg : w.heap[g]? = some (.cells #[.bool x] 4 (0, 0)) := S.holds (bblk g x) (by simp)
  have hc : w.cell? ⟨g, 0, none⟩ = some (.bool x) := by rw [cell_of_row w g 0 _ _ _ hg]; rfl
  have S2 := S.setCell (i := 0) (.bool false)
  have hz : w.frozen? ⟨g, 0, none⟩ = false := by
    simp [World.frozen?, hg]
  refine callsD_of_wpS Tryd.func83 rfl fun c₀ cs hu => ?_
  apply wpS_seq
  apply wpS_region
  simp [wpOpsS, go_sem, recoverD, hu, Tryd.ntmps83, Exit.thenS, erl]
  refine wpS_cond (t := true) (by simp [Act.eval, Array.replicate]) ?_
  simp only [if_true]
  apply wpS_region
  simp [wpOpsS, go_sem, hc, hz, bodyPostS, results, Tryd.results83]
  exact S2
set_option maxRecDepth 100000 in
theorem catch_i (g : Nat) (x : Bool) (w0 w : World) (F : List Res) (S : Has w0 w (bblk g x :: F)) :
    CallsD Tryd.prog 83 #[.pointer (some ⟨g, 0, none⟩)] .returning w fun e u' w' =>
      e = .returned (.tuple #[]) ∧ u' = .returning ∧ Has w0 w' (bblk g x :: F) := by
  refine callsD_of_wpS Tryd.func83 rfl fun c₀ cs hu => ?_
  apply wpS_seq
  apply wpS_region
  simp [wpOpsS, go_sem, recoverD, hu, Tryd.ntmps83, Exit.thenS]
  refine wpS_cond (t := false) (by simp [Act.eval, Array.replicate]) ?_
  simp only [Bool.false_eq_true, if_false]
  refine wpS_of_wp (wp_skip ?_)
  cases c₀
  simp_all [bodyPostS, results, Tryd.results83]
section
variable {P : Program} {ops : Array Oper} {rest : List Oper} {a : Act} {w : World} {Q : Exit → Act → World → Prop} {dst : Option Tmp} {ty : TypeId} {pos : String} {after : Array Edge} {gd : Option (Nat × Bool)}

/-- A function value is called, which may panic. -/
theorem step_callVP {R : Ending → World → Prop} (x : Operand) (xs : List Operand) (ts : Array TypeId) (f : FuncId) (fn : Func) (caps vs : List Value) (hx : a.eval x = .func (.func f) #[] caps.toArray) (hxs : xs.map a.eval = vs)
    (hf : P.funcs[f]? = some fn) (hn : (fn.name == "runtime.NumGoroutine") = false) (hb : fn.body.isNone = false) (hc : Calls P f (vs ++ caps).toArray w R)
    (hw : Region.wanted ⟨dst, .call { callee := .value x, args := xs.toArray, argTypes := ts }, ty, pos, after, gd⟩ (yielded ops a.tmps) = true)
    (h : ∀ e w', R e w' → (∃ v, e = .returned v ∧ wpList P ops Q rest (a.put dst v) w') ∨ (∃ c, e = .panicked c ∧ Q (.panic c) a w')) : wpList P ops Q (⟨dst, .call { callee := .value x, args := xs.toArray, argTypes := ts }, ty, pos, after, gd⟩ :: rest) a w := by
  subst hxs
  have hrun : (execOp a.eval ⟨dst, .call { callee := .value x, args := xs.toArray, argTypes := ts }, ty, pos, after, gd⟩).run P w = .ok (.enter f (xs.map a.eval ++ caps).toArray) w := by
    obtain ⟨b, hb'⟩ : ∃ b, fn.body = some b := by
      cases h : fn.body with
      | none => rw [h] at hb; cases hb
      | some b => exact ⟨b, rfl⟩
    have hn' : ¬ fn.name = "runtime.NumGoroutine" := by simpa using hn
    simp [execOp, resolve, hx, Deferred.ofValue, invoke, callFunc, hf, hn', hb', Result.andThen]
  refine wpList_step fun K hK => ?_
  rw [if_pos hw]
  unfold Oper.wp
  rw [hrun, Oper.upon_enter]
  refine hc.mono fun e w' he => ?_
  rcases h e w' he with ⟨v, rfl, hp⟩ | ⟨c, rfl, hp⟩
  · exact hK _ _ hp
  · exact hp
end

/-- What a function that reads leaves. -/
def ReadF (w0 : World) (g : Nat) (bv : Value) (fit : Prop) (N : Nat) (F1 : List Res) (FB : Array Value → List Res) (G : List Res) (e : Ending) (w' : World) : Prop :=
  (fit ∧ e = .returned (.tuple #[]) ∧ Has w0 w' (rdr g bv N :: (F1 ++ G))) ∨ (¬ fit ∧ e = .panicked [erl] ∧ ∃ q cs, Has w0 w' (rdr g bv q :: (FB cs ++ G)))
set_option maxRecDepth 100000 in
set_option maxHeartbeats 8000000 in
theorem whole_s (bv : Value) (b : List UInt8) (f : FuncId) (fn : Func) (caps : List Value) (w0 w1 : World) (r : Res) (G0 : List Res) (S : Has w0 w1 (r :: G0)) (hb : Bs w0 bv b) (h2 : 2 ≤ b.length) (hl : b.length ≤ 140737488355328)
    (hf : Tryd.prog.funcs[f]? = some fn) (hn : (fn.name == "runtime.NumGoroutine") = false) (hbd : fn.body.isNone = false) (fit : Prop) [Decidable fit] (N : Nat) (F1 : List Res) (FB : Array Value → List Res)
    (hr : ∀ g w G, Has w0 w (rdr g bv 2 :: r :: G) → Calls Tryd.prog f ([Value.pointer (some ⟨g, 0, none⟩)] ++ caps).toArray w (ReadF w0 g bv fit N F1 FB G)) :
    Calls Tryd.prog 59 #[bv, .func (.func f) #[] caps.toArray] w1 fun e w' =>
      (fit ∧ e = .returned (.bool (decide (val (b.take 2) = b.length ∧ N = b.length))) ∧ Has w0 w' (F1 ++ G0)) ∨ (¬ fit ∧ e = .returned (.bool false) ∧ ∃ cs, Has w0 w' (FB cs ++ G0)) := by
  obtain ⟨a0, c0, rfl, k1, k2⟩ := Sl.shape hb
  unfold maxLen at k2
  have p1 := fun g w F S => ruint_i 2 2 rfl g (.slice a0 b.length c0) b 0 w0 w F S hb (by decide) (by decide) (by omega) hl
  have e1 : atB b 0 2 = val (b.take 2) := by rw [atB_fit b 0 2 (by omega), List.drop_zero]
  rw [e1] at p1
  have hv := val_lt (b.take 2)
  rw [List.length_take, Nat.min_eq_left h2] at hv
  obtain ⟨n, hn2⟩ : ∃ n, n = val (b.take 2) := ⟨_, rfl⟩
  rw [← hn2] at p1 hv ⊢
  have P1 := Lib.hid p1; have HR := Lib.hid hr; have HF := Lib.hid hf; have HN := Lib.hid hn; have HBD := Lib.hid hbd; have HB := Lib.hid hb; clear p1 hr hf hn hbd hb
  clear e1 hn2
  by_cases hnb : n = b.length
  · have i1 : ((n : Int) == (b.length : Int)) = true := by rw [beq_iff_eq]; omega
    have i2 : ((N : Int) == (b.length : Int)) = decide (n = b.length ∧ N = b.length) := by rw [Bool.eq_iff_iff, beq_iff_eq, decide_eq_true_eq]; omega
    have I2 := Lib.hid i2; clear i2
    clear hnb
    go_enter_defers Tryd.func59, Tryd.ntmps59
    go_wp2_with (first | (go_at_call 61; have S0 : Has w0 _ (rdr g10 (.slice a0 b.length c0) 0 :: bblk g4 false :: r :: G0) := S; (with_reducible refine (P1.out g10 _ _ S0).mono ?_); rintro e w1 (⟨hf1, rfl, S1⟩ | ⟨hf1, rfl, S1⟩); rotate_left; exact (by omega : False).elim; clear S S0; have S : Has w0 w1 (rdr g10 (.slice a0 b.length c0) 2 :: r :: bblk g4 false :: G0) := S1.perm (List.Perm.cons _ (List.Perm.swap _ _ _)); clear S1) | ((with_reducible refine iD 15 (.call _) ?_); refine step_callVP (.tmp 13) [.tmp 14] _ f fn caps [.pointer (some ⟨g10, 0, none⟩)] rfl rfl HF.out HN.out HBD.out (HR.out g10 _ _ S) gw ?_; rintro e w1 (⟨hft, rfl, S1⟩ | ⟨hft, rfl, q, cs, S1⟩); (refine .inl ⟨_, rfl, ?_⟩; clear S; have S : Has w0 w1 (rdr g10 (.slice a0 b.length c0) N :: bblk g4 false :: (F1 ++ G0)) := S1.perm (List.Perm.cons _ List.perm_middle); clear S1); rotate_left; (refine .inr ⟨_, rfl, ?_⟩; clear S; have S : Has w0 w1 (bblk g4 false :: (FB cs ++ G0)) := S1.tail.perm List.perm_middle; clear S1); rotate_left) | ((with_reducible refine iD 4 (.alloc 4) ?_); refine step_alloc (dst := some 4) S 4 (.bool false) (#[.bool false]) kR rfl gw ?_; clear S; intro g4 w S) | ((with_reducible refine iD 7 (.makeFunc _ _ _) ?_); refine step_makeF _ [.tmp 4] [.pointer (some ⟨g4, 0, none⟩)] rfl gw ?_) | ((with_reducible refine iD 10 (.box 154 (.tmp 9)) ?_); refine step_boxA (dst := some 10) S 154 (.tmp 9) _ rfl gw ?_; clear S; intro g10 w S) | ((with_reducible refine iO _ (.load 3 _) ?_); refine step_load1 3 _ _ _ rfl (cL) _ Tryd.underlying3 rfl gw ?_) | ((with_reducible refine iO none (.store 4 (.tmp 4) (.tmp 29)) ?_); refine step_store1 S 4 (.tmp 4) (.tmp 29) _ _ (.bool _) rfl rfl _ _ pk kR kR rfl lN gw ?_; clear S; intro w S; try simp only [List.setIfInBounds_toArray, List.set_cons_zero, List.set_cons_succ] at S) | fail)
    · refine leaves_cons (f := 83) (args := #[.pointer (some ⟨g4, 0, none⟩)]) (by simp) (by simp [go_sem]) ?_
      refine (catch_i g4 _ w0 _ _ (S.pick (r := bblk g4 ((N : Int) == (b.length : Int))) pk)).mono ?_
      rintro e u1 w2 ⟨rfl, rfl, S1⟩
      have hc : w2.cell? ⟨g4, 0, none⟩ = some (.bool ((N : Int) == (b.length : Int))) := S1.cell (g := g4) (Pick.head _ _) rfl
      refine ⟨.bool ((N : Int) == (b.length : Int)), by simp [results, Tryd.results59, go_sem, hc], .inl ⟨hft, ?_, S1.tail.tail⟩⟩
      rw [I2.out]
    · refine leaves_cons (f := 83) (args := #[.pointer (some ⟨g4, 0, none⟩)]) (by simp) (by simp [go_sem]) ?_
      refine (catch_p g4 _ w0 _ _ S).mono ?_
      rintro e u1 w2 ⟨rfl, rfl, S1⟩
      have hc : w2.cell? ⟨g4, 0, none⟩ = some (.bool false) := S1.cell (g := g4) (Pick.head _ _) rfl
      refine ⟨.bool false, by simp [results, Tryd.results59, go_sem, hc], .inr ⟨hft, rfl, cs, S1.tail⟩⟩
  · have i1 : ((n : Int) == (b.length : Int)) = false := by rw [beq_eq_false_iff_ne]; omega
    have i2 : false = decide (n = b.length ∧ N = b.length) := (decide_eq_false (fun h => hnb h.1)).symm
    have I2 := Lib.hid i2; clear i2
    clear hnb
    go_enter_defers Tryd.func59, Tryd.ntmps59
    go_wp2_with (first | (go_at_call 61; have S0 : Has w0 _ (rdr g10 (.slice a0 b.length c0) 0 :: bblk g4 false :: r :: G0) := S; (with_reducible refine (P1.out g10 _ _ S0).mono ?_); rintro e w1 (⟨hf1, rfl, S1⟩ | ⟨hf1, rfl, S1⟩); rotate_left; exact (by omega : False).elim; clear S S0; have S : Has w0 w1 (rdr g10 (.slice a0 b.length c0) 2 :: r :: bblk g4 false :: G0) := S1.perm (List.Perm.cons _ (List.Perm.swap _ _ _)); clear S1) | ((with_reducible refine iD 15 (.call _) ?_); refine step_callVP (.tmp 13) [.tmp 14] _ f fn caps [.pointer (some ⟨g10, 0, none⟩)] rfl rfl HF.out HN.out HBD.out (HR.out g10 _ _ S) gw ?_; rintro e w1 (⟨hft, rfl, S1⟩ | ⟨hft, rfl, q, cs, S1⟩); (refine .inl ⟨_, rfl, ?_⟩; clear S; have S : Has w0 w1 (rdr g10 (.slice a0 b.length c0) N :: bblk g4 false :: (F1 ++ G0)) := S1.perm (List.Perm.cons _ List.perm_middle); clear S1); rotate_left; (refine .inr ⟨_, rfl, ?_⟩; clear S; have S : Has w0 w1 (bblk g4 false :: (FB cs ++ G0)) := S1.tail.perm List.perm_middle; clear S1); rotate_left) | ((with_reducible refine iD 4 (.alloc 4) ?_); refine step_alloc (dst := some 4) S 4 (.bool false) (#[.bool false]) kR rfl gw ?_; clear S; intro g4 w S) | ((with_reducible refine iD 7 (.makeFunc _ _ _) ?_); refine step_makeF _ [.tmp 4] [.pointer (some ⟨g4, 0, none⟩)] rfl gw ?_) | ((with_reducible refine iD 10 (.box 154 (.tmp 9)) ?_); refine step_boxA (dst := some 10) S 154 (.tmp 9) _ rfl gw ?_; clear S; intro g10 w S) | ((with_reducible refine iO none (.store 4 (.tmp 4) (.tmp 29)) ?_); refine step_store1 S 4 (.tmp 4) (.tmp 29) _ _ (.bool _) rfl rfl _ _ pk kR kR rfl lN gw ?_; clear S; intro w S; try simp only [List.setIfInBounds_toArray, List.set_cons_zero, List.set_cons_succ] at S) | fail)
    · refine leaves_cons (f := 83) (args := #[.pointer (some ⟨g4, 0, none⟩)]) (by simp) (by simp [go_sem]) ?_
      refine (catch_i g4 _ w0 _ _ (S.pick (r := bblk g4 false) pk)).mono ?_
      rintro e u1 w2 ⟨rfl, rfl, S1⟩
      have hc : w2.cell? ⟨g4, 0, none⟩ = some (.bool false) := S1.cell (g := g4) (Pick.head _ _) rfl
      refine ⟨.bool false, by simp [results, Tryd.results59, go_sem, hc], .inl ⟨hft, ?_, S1.tail.tail⟩⟩
      rw [I2.out]
    · refine leaves_cons (f := 83) (args := #[.pointer (some ⟨g4, 0, none⟩)]) (by simp) (by simp [go_sem]) ?_
      refine (catch_p g4 _ w0 _ _ S).mono ?_
      rintro e u1 w2 ⟨rfl, rfl, S1⟩
      have hc : w2.cell? ⟨g4, 0, none⟩ = some (.bool false) := S1.cell (g := g4) (Pick.head _ _) rfl
      refine ⟨.bool false, by simp [results, Tryd.results59, go_sem, hc], .inr ⟨hft, rfl, cs, S1.tail⟩⟩
end Go.Proofs.YtfhkmmagpnojmaaDoor

/- whole, with things that are not known beforehand. No condition but the reach. -/
namespace Go.Proofs.YtfhkmmagpnojmaaDoor
open Go.RowKit

/-- What a function that reads leaves. -/
def ReadF2 {α : Type} (w0 : World) (g : Nat) (bv : Value) (fit : Prop) (N : Nat) (F1 : α → List Res) (FB : Array Value → List Res) (G : List Res) (e : Ending) (w' : World) : Prop :=
  (fit ∧ e = .returned (.tuple #[]) ∧ ∃ z, Has w0 w' (rdr g bv N :: (F1 z ++ G))) ∨ (¬ fit ∧ e = .panicked [erl] ∧ ∃ q cs, Has w0 w' (rdr g bv q :: (FB cs ++ G)))
set_option maxRecDepth 100000 in
set_option maxHeartbeats 8000000 in
theorem whole2_s {α : Type} (bv : Value) (b : List UInt8) (f : FuncId) (fn : Func) (caps : List Value) (w0 w1 : World) (r : Res) (G0 : List Res) (S : Has w0 w1 (r :: G0)) (hb : Bs w0 bv b) (h2 : 2 ≤ b.length) (hl : b.length ≤ 140737488355328)
    (hf : Tryd.prog.funcs[f]? = some fn) (hn : (fn.name == "runtime.NumGoroutine") = false) (hbd : fn.body.isNone = false) (fit : Prop) [Decidable fit] (N : Nat) (F1 : α → List Res) (FB : Array Value → List Res)
    (hr : ∀ g w G, Has w0 w (rdr g bv 2 :: r :: G) → Calls Tryd.prog f ([Value.pointer (some ⟨g, 0, none⟩)] ++ caps).toArray w (ReadF2 w0 g bv fit N F1 FB G)) :
    Calls Tryd.prog 59 #[bv, .func (.func f) #[] caps.toArray] w1 fun e w' =>
      (fit ∧ e = .returned (.bool (decide (val (b.take 2) = b.length ∧ N = b.length))) ∧ ∃ z, Has w0 w' (F1 z ++ G0)) ∨ (¬ fit ∧ e = .returned (.bool false) ∧ ∃ cs, Has w0 w' (FB cs ++ G0)) := by
  obtain ⟨a0, c0, rfl, k1, k2⟩ := Sl.shape hb
  unfold maxLen at k2
  have p1 := fun g w F S => ruint_i 2 2 rfl g (.slice a0 b.length c0) b 0 w0 w F S hb (by decide) (by decide) (by omega) hl
  have e1 : atB b 0 2 = val (b.take 2) := by rw [atB_fit b 0 2 (by omega), List.drop_zero]
  rw [e1] at p1
  have hv := val_lt (b.take 2)
  rw [List.length_take, Nat.min_eq_left h2] at hv
  obtain ⟨n, hn2⟩ : ∃ n, n = val (b.take 2) := ⟨_, rfl⟩
  rw [← hn2] at p1 hv ⊢
  have P1 := Lib.hid p1; have HR := Lib.hid hr; have HF := Lib.hid hf; have HN := Lib.hid hn; have HBD := Lib.hid hbd; have HB := Lib.hid hb; clear p1 hr hf hn hbd hb
  clear e1 hn2
  by_cases hnb : n = b.length
  · have i1 : ((n : Int) == (b.length : Int)) = true := by rw [beq_iff_eq]; omega
    have i2 : ((N : Int) == (b.length : Int)) = decide (n = b.length ∧ N = b.length) := by rw [Bool.eq_iff_iff, beq_iff_eq, decide_eq_true_eq]; omega
    have I2 := Lib.hid i2; clear i2
    clear hnb
    go_enter_defers Tryd.func59, Tryd.ntmps59
    go_wp2_with (first | (go_at_call 61; have S0 : Has w0 _ (rdr g10 (.slice a0 b.length c0) 0 :: bblk g4 false :: r :: G0) := S; (with_reducible refine (P1.out g10 _ _ S0).mono ?_); rintro e w1 (⟨hf1, rfl, S1⟩ | ⟨hf1, rfl, S1⟩); rotate_left; exact (by omega : False).elim; clear S S0; have S : Has w0 w1 (rdr g10 (.slice a0 b.length c0) 2 :: r :: bblk g4 false :: G0) := S1.perm (List.Perm.cons _ (List.Perm.swap _ _ _)); clear S1) | ((with_reducible refine iD 15 (.call _) ?_); refine step_callVP (.tmp 13) [.tmp 14] _ f fn caps [.pointer (some ⟨g10, 0, none⟩)] rfl rfl HF.out HN.out HBD.out (HR.out g10 _ _ S) gw ?_; rintro e w1 (⟨hft, rfl, z, S1⟩ | ⟨hft, rfl, q, cs, S1⟩); (refine .inl ⟨_, rfl, ?_⟩; clear S; have S : Has w0 w1 (rdr g10 (.slice a0 b.length c0) N :: bblk g4 false :: (F1 z ++ G0)) := S1.perm (List.Perm.cons _ List.perm_middle); clear S1); rotate_left; (refine .inr ⟨_, rfl, ?_⟩; clear S; have S : Has w0 w1 (bblk g4 false :: (FB cs ++ G0)) := S1.tail.perm List.perm_middle; clear S1); rotate_left) | ((with_reducible refine iD 4 (.alloc 4) ?_); refine step_alloc (dst := some 4) S 4 (.bool false) (#[.bool false]) kR rfl gw ?_; clear S; intro g4 w S) | ((with_reducible refine iD 7 (.makeFunc _ _ _) ?_); refine step_makeF _ [.tmp 4] [.pointer (some ⟨g4, 0, none⟩)] rfl gw ?_) | ((with_reducible refine iD 10 (.box 154 (.tmp 9)) ?_); refine step_boxA (dst := some 10) S 154 (.tmp 9) _ rfl gw ?_; clear S; intro g10 w S) | ((with_reducible refine iO _ (.load 3 _) ?_); refine step_load1 3 _ _ _ rfl (cL) _ Tryd.underlying3 rfl gw ?_) | ((with_reducible refine iO none (.store 4 (.tmp 4) (.tmp 29)) ?_); refine step_store1 S 4 (.tmp 4) (.tmp 29) _ _ (.bool _) rfl rfl _ _ pk kR kR rfl lN gw ?_; clear S; intro w S; try simp only [List.setIfInBounds_toArray, List.set_cons_zero, List.set_cons_succ] at S) | fail)
    · refine leaves_cons (f := 83) (args := #[.pointer (some ⟨g4, 0, none⟩)]) (by simp) (by simp [go_sem]) ?_
      refine (catch_i g4 _ w0 _ _ (S.pick (r := bblk g4 ((N : Int) == (b.length : Int))) pk)).mono ?_
      rintro e u1 w2 ⟨rfl, rfl, S1⟩
      have hc : w2.cell? ⟨g4, 0, none⟩ = some (.bool ((N : Int) == (b.length : Int))) := S1.cell (g := g4) (Pick.head _ _) rfl
      refine ⟨.bool ((N : Int) == (b.length : Int)), by simp [results, Tryd.results59, go_sem, hc], .inl ⟨hft, ?_, z, S1.tail.tail⟩⟩
      rw [I2.out]
    · refine leaves_cons (f := 83) (args := #[.pointer (some ⟨g4, 0, none⟩)]) (by simp) (by simp [go_sem]) ?_
      refine (catch_p g4 _ w0 _ _ S).mono ?_
      rintro e u1 w2 ⟨rfl, rfl, S1⟩
      have hc : w2.cell? ⟨g4, 0, none⟩ = some (.bool false) := S1.cell (g := g4) (Pick.head _ _) rfl
      refine ⟨.bool false, by simp [results, Tryd.results59, go_sem, hc], .inr ⟨hft, rfl, cs, S1.tail⟩⟩
  · have i1 : ((n : Int) == (b.length : Int)) = false := by rw [beq_eq_false_iff_ne]; omega
    have i2 : false = decide (n = b.length ∧ N = b.length) := (decide_eq_false (fun h => hnb h.1)).symm
    have I2 := Lib.hid i2; clear i2
    clear hnb
    go_enter_defers Tryd.func59, Tryd.ntmps59
    go_wp2_with (first | (go_at_call 61; have S0 : Has w0 _ (rdr g10 (.slice a0 b.length c0) 0 :: bblk g4 false :: r :: G0) := S; (with_reducible refine (P1.out g10 _ _ S0).mono ?_); rintro e w1 (⟨hf1, rfl, S1⟩ | ⟨hf1, rfl, S1⟩); rotate_left; exact (by omega : False).elim; clear S S0; have S : Has w0 w1 (rdr g10 (.slice a0 b.length c0) 2 :: r :: bblk g4 false :: G0) := S1.perm (List.Perm.cons _ (List.Perm.swap _ _ _)); clear S1) | ((with_reducible refine iD 15 (.call _) ?_); refine step_callVP (.tmp 13) [.tmp 14] _ f fn caps [.pointer (some ⟨g10, 0, none⟩)] rfl rfl HF.out HN.out HBD.out (HR.out g10 _ _ S) gw ?_; rintro e w1 (⟨hft, rfl, z, S1⟩ | ⟨hft, rfl, q, cs, S1⟩); (refine .inl ⟨_, rfl, ?_⟩; clear S; have S : Has w0 w1 (rdr g10 (.slice a0 b.length c0) N :: bblk g4 false :: (F1 z ++ G0)) := S1.perm (List.Perm.cons _ List.perm_middle); clear S1); rotate_left; (refine .inr ⟨_, rfl, ?_⟩; clear S; have S : Has w0 w1 (bblk g4 false :: (FB cs ++ G0)) := S1.tail.perm List.perm_middle; clear S1); rotate_left) | ((with_reducible refine iD 4 (.alloc 4) ?_); refine step_alloc (dst := some 4) S 4 (.bool false) (#[.bool false]) kR rfl gw ?_; clear S; intro g4 w S) | ((with_reducible refine iD 7 (.makeFunc _ _ _) ?_); refine step_makeF _ [.tmp 4] [.pointer (some ⟨g4, 0, none⟩)] rfl gw ?_) | ((with_reducible refine iD 10 (.box 154 (.tmp 9)) ?_); refine step_boxA (dst := some 10) S 154 (.tmp 9) _ rfl gw ?_; clear S; intro g10 w S) | ((with_reducible refine iO none (.store 4 (.tmp 4) (.tmp 29)) ?_); refine step_store1 S 4 (.tmp 4) (.tmp 29) _ _ (.bool _) rfl rfl _ _ pk kR kR rfl lN gw ?_; clear S; intro w S; try simp only [List.setIfInBounds_toArray, List.set_cons_zero, List.set_cons_succ] at S) | fail)
    · refine leaves_cons (f := 83) (args := #[.pointer (some ⟨g4, 0, none⟩)]) (by simp) (by simp [go_sem]) ?_
      refine (catch_i g4 _ w0 _ _ (S.pick (r := bblk g4 false) pk)).mono ?_
      rintro e u1 w2 ⟨rfl, rfl, S1⟩
      have hc : w2.cell? ⟨g4, 0, none⟩ = some (.bool false) := S1.cell (g := g4) (Pick.head _ _) rfl
      refine ⟨.bool false, by simp [results, Tryd.results59, go_sem, hc], .inl ⟨hft, ?_, z, S1.tail.tail⟩⟩
      rw [I2.out]
    · refine leaves_cons (f := 83) (args := #[.pointer (some ⟨g4, 0, none⟩)]) (by simp) (by simp [go_sem]) ?_
      refine (catch_p g4 _ w0 _ _ S).mono ?_
      rintro e u1 w2 ⟨rfl, rfl, S1⟩
      have hc : w2.cell? ⟨g4, 0, none⟩ = some (.bool false) := S1.cell (g := g4) (Pick.head _ _) rfl
      refine ⟨.bool false, by simp [results, Tryd.results59, go_sem, hc], .inr ⟨hft, rfl, cs, S1.tail⟩⟩
end Go.Proofs.YtfhkmmagpnojmaaDoor
