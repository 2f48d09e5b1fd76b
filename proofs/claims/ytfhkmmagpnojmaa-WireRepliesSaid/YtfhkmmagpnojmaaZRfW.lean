/- The reference's ValidReply and CheckReply. No condition but the reach. -/
import Derived.Test.YtfhkmmagpnojmaaZBd
import Derived.Test.YtfhkmmagpnojmaaZRfV
import Derived.Test.YtfhkmmagpnojmaaZRpC
set_option linter.unusedSimpArgs false
set_option linter.unusedVariables false
namespace Go.Proofs.Ytfhkmmagpnojmaa
open Go.RowKit

set_option maxRecDepth 100000 in
set_option maxHeartbeats 32000000 in
theorem refValidReply_s (r : Rp) (vr vc : Value) (w0 : World) (hvr : Sl w0 3 vr r.robots.length (r.robots.flatMap sgtL)) (hvc : Sl w0 35 vc r.records.length (r.records.flatMap rcdL)) :
    Calls Try.prog 41 #[.agg (rpL r vr vc).toArray] w0 fun e w' => e = .returned (.bool (rpV r)) ∧ Has w0 w' [] := by
  have S := Has.start w0
  obtain ⟨ar, cr, rfl, _, _⟩ := Sl.shape hvr
  obtain ⟨ac, cc, rfl, _, _⟩ := Sl.shape hvc
  have d0 := rpL_0 r (.slice ar r.robots.length cr) (.slice ac r.records.length cc)
  have d1 := rpL_1 r (.slice ar r.robots.length cr) (.slice ac r.records.length cc)
  have d2 := rpL_2 r (.slice ar r.robots.length cr) (.slice ac r.records.length cc)
  have p1 := fun w => code_s r.code.v w
  have p2 := fun w => refUsed_s r ar ac r.robots.length cr r.records.length cc w
  have p4 := fun w h1 h2 => refFields_s r (.slice ar r.robots.length cr) (.slice ac r.records.length cc) w h1 h2
  obtain ⟨ur, hur⟩ : ∃ u, u = vrK (bk r) (.slice ar r.robots.length cr) := ⟨_, rfl⟩
  obtain ⟨uc, huc⟩ : ∃ u, u = vcK (bk r) (.slice ac r.records.length cc) := ⟨_, rfl⟩
  rw [← hur, ← huc] at p2
  have hU := usR_bk r
  have hUR : Sl w0 3 ur (usR r).robots.length ((usR r).robots.flatMap sgtL) := by
    rw [hur, hU]
    generalize bk r = q
    cases q
    all_goals first | exact hvr | exact Sl.nil0 _ _
  have hUC : Sl w0 35 uc (usR r).records.length ((usR r).records.flatMap rcdL) := by
    rw [huc, hU]
    generalize bk r = q
    cases q
    all_goals first | exact hvc | exact Sl.nil0 _ _
  have p3 := fun w h1 h2 h3 h4 => refSameReply_s r (usR r) (.slice ar r.robots.length cr) (.slice ac r.records.length cc) ur uc w h1 h2 h3 h4
  have hone := rpL_one r (.slice ar r.robots.length cr) (.slice ac r.records.length cc) rfl rfl
  have hsz := rpL_size r (.slice ar r.robots.length cr) (.slice ac r.records.length cc)
  obtain ⟨vr, hvr'⟩ : ∃ v, v = Value.slice ar r.robots.length cr := ⟨_, rfl⟩
  obtain ⟨vc, hvc'⟩ : ∃ v, v = Value.slice ac r.records.length cc := ⟨_, rfl⟩
  rw [← hvr'] at p2 p3 p4 d0 d1 d2 hvr hone hsz ⊢
  rw [← hvc'] at p2 p3 p4 d0 d1 d2 hvc hone hsz ⊢
  obtain ⟨X, hX⟩ : ∃ X, X = (rpL r vr vc).toArray := ⟨_, rfl⟩
  rw [← hX] at p2 p3 p4 d0 d1 d2 hone hsz ⊢
  obtain ⟨U, hUe⟩ : ∃ U, U = (rpL (usR r) ur uc).toArray := ⟨_, rfl⟩
  rw [← hUe] at p2 p3
  have hV : rpV r = (decide (¬ (6 < r.kind.toNat ∧ r.kind.toNat < 16 ∨ 18 < r.kind.toNat) ∧ 0 ≤ r.code.v ∧ r.code.v ≤ 65535 ∧ r.tick.toNat ≤ 4611686018427387904) && decide (¬ (r.kind = 0 ∧ r.code.v = 0 ∨ r.kind = 16 ∧ r.code.v ≠ 0 ∨ r.kind = 17 ∧ r.code.v ≠ 280)) && (decide (r = usR r) && flR r)) := rfl
  have e0 := eqU8 r.kind 0
  have e16 := eqU8 r.kind 16
  have e17 := eqU8 r.kind 17
  simp only [show ((0 : UInt8).toNat : Int) = 0 from rfl, show ((16 : UInt8).toNat : Int) = 16 from rfl, show ((17 : UInt8).toNat : Int) = 17 from rfl] at e0 e16 e17
  have n0 : (r.code.v == 0) = decide (r.code.v = 0) := by rw [Bool.eq_iff_iff, beq_iff_eq, decide_eq_true_eq]
  have n1 : (r.code.v != 0) = decide (r.code.v ≠ 0) := by rw [Bool.eq_iff_iff, bne_iff_ne, decide_eq_true_eq]
  have n2 : (r.code.v != 280) = decide (r.code.v ≠ 280) := by rw [Bool.eq_iff_iff, bne_iff_ne, decide_eq_true_eq]
  obtain ⟨D, hD⟩ : ∃ D, D = rpV r := ⟨_, rfl⟩
  rw [← hD] at hV ⊢
  obtain ⟨B5, hB5⟩ : ∃ B, B = decide (r = usR r) := ⟨_, rfl⟩
  obtain ⟨F, hF⟩ : ∃ B, B = flR r := ⟨_, rfl⟩
  rw [← hB5] at p3 hV
  rw [← hF] at p4 hV
  obtain ⟨k, hk⟩ : ∃ k, k = r.kind := ⟨_, rfl⟩
  obtain ⟨c, hc⟩ : ∃ c, c = r.code := ⟨_, rfl⟩
  obtain ⟨t, ht⟩ : ∃ t, t = r.tick := ⟨_, rfl⟩
  rw [← hk] at d0 hV e0 e16 e17
  rw [← hc] at p1 d1 hV n0 n1 n2
  rw [← ht] at d2 hV
  obtain ⟨B1, hB1⟩ : ∃ B, B = decide (0 ≤ c.v ∧ c.v ≤ 65535) := ⟨_, rfl⟩
  rw [← hB1] at p1
  clear hk hc ht hD hB5 hF hX hUe hvr' hvc' hU hur huc
  by_cases hA : ¬ (6 < k.toNat ∧ k.toNat < 16 ∨ 18 < k.toNat) ∧ 0 ≤ c.v ∧ c.v ≤ 65535 ∧ t.toNat ≤ 4611686018427387904
  case neg =>
    rw [decide_eq_false hA, Bool.false_and, Bool.false_and] at hV
    obtain rfl := hV
    have key : (6 < (k.toNat : Int) ∧ (k.toNat : Int) < 16) ∨ (6 < (k.toNat : Int) ∧ ¬ (k.toNat : Int) < 16 ∧ 18 < (k.toNat : Int)) ∨ (¬ 6 < (k.toNat : Int) ∧ ¬ 18 < (k.toNat : Int) ∧ B1 = false) ∨ (6 < (k.toNat : Int) ∧ ¬ (k.toNat : Int) < 16 ∧ ¬ 18 < (k.toNat : Int) ∧ B1 = false) ∨ (¬ 6 < (k.toNat : Int) ∧ ¬ 18 < (k.toNat : Int) ∧ B1 = true ∧ 4611686018427387904 < (t.toNat : Int)) ∨ (6 < (k.toNat : Int) ∧ ¬ (k.toNat : Int) < 16 ∧ ¬ 18 < (k.toNat : Int) ∧ B1 = true ∧ 4611686018427387904 < (t.toNat : Int)) := by
      rw [hB1]
      simp only [decide_eq_true_eq, decide_eq_false_iff_not]
      omega
    clear hA hB1 e0 e16 e17 n0 n1 n2 p2 p3 p4
    rcases key with ⟨j1, j2⟩ | ⟨j1, j2, j3⟩ | ⟨j1, j2, rfl⟩ | ⟨j1, j2, j3, rfl⟩ | ⟨j1, j2, rfl, j3⟩ | ⟨j1, j2, j3, rfl, j4⟩
    all_goals
      have D0 := Lib.hid d0; have D1 := Lib.hid d1; have D2 := Lib.hid d2; have P1 := Lib.hid p1; have HVR := Lib.hid hvr; have HVC := Lib.hid hvc; have HONE := Lib.hid hone; have HSZ := Lib.hid hsz; have HUR := Lib.hid hUR; have HUC := Lib.hid hUC; clear d0 d1 d2 p1 hvr hvc hone hsz hUR hUC
      go_enter Try.func41, Try.ntmps41
      go_wp2_with (first | ((with_reducible refine iD 1 (.box 53 (.tmp 0)) ?_); refine step_boxA (dst := some 1) S 53 (.tmp 0) _ rfl gw ?_; clear S; intro g1 w S) | ((with_reducible refine iO _ (.load 5 _) ?_); refine step_load1 5 _ _ _ rfl (cL) _ Try.underlying5 rfl gw ?_) | ((with_reducible refine iO _ (.load 24 _) ?_); refine step_load1 24 _ _ _ rfl (cL) _ Try.underlying24 rfl gw ?_) | (go_at_call 58; (with_reducible refine (P1.out _).mono ?_); rintro e w1 ⟨rfl, T⟩; replace S := S.call T; clear T; (try simp only [z4, z5] at S)) | ((with_reducible refine iO _ (.load 32 _) ?_); refine step_load1 32 _ _ _ rfl (cL) _ Try.underlying32 rfl gw ?_) | ((with_reducible refine iO _ (.load 53 _) ?_); first | (refine step_load S 53 _ _ rfl _ _ _ pk _ Try.underlying53 rfl 46 kR lN gw ?_) | (refine step_loadO 53 _ _ rfl _ _ _ (S.old_heap (Hid.out (by assumption))) _ Try.underlying53 rfl 46 kR lN gw ?_) | (refine step_loadR 53 _ _ _ rfl _ (S.old_range hy) _ Try.underlying53 rfl 46 kR lN _ rfl gw ?_)) | fail)
      go_ret
      exact ⟨rfl, S.nil⟩
  rw [decide_eq_true hA, Bool.true_and] at hV
  have key : (¬ 6 < (k.toNat : Int) ∧ ¬ 18 < (k.toNat : Int)) ∨ (6 < (k.toNat : Int) ∧ ¬ (k.toNat : Int) < 16 ∧ ¬ 18 < (k.toNat : Int)) := by omega
  have i4 : ¬ 4611686018427387904 < (t.toNat : Int) := by omega
  have hB1t : B1 = true := by rw [hB1]; exact decide_eq_true ⟨hA.2.1, hA.2.2.1⟩
  subst hB1t
  clear hA hB1
  by_cases hC : k = 0 ∧ c.v = 0 ∨ k = 16 ∧ c.v ≠ 0 ∨ k = 17 ∧ c.v ≠ 280
  · rw [decide_eq_false (fun h => h hC), Bool.false_and] at hV
    obtain rfl := hV
    have key2 : (((k.toNat : Int) == 0) = true ∧ (c.v == 0) = true) ∨ (((k.toNat : Int) == 0) = false ∧ ((((k.toNat : Int) == 16) = true ∧ (c.v != 0) = true) ∨ (((k.toNat : Int) == 16) = false ∧ ((k.toNat : Int) == 17) = true ∧ (c.v != 280) = true))) := by
      rw [e0, e16, e17, n0, n1, n2]
      rcases hC with ⟨rfl, h⟩ | ⟨rfl, h⟩ | ⟨rfl, h⟩
      · exact .inl ⟨rfl, decide_eq_true h⟩
      · exact .inr ⟨rfl, .inl ⟨rfl, decide_eq_true h⟩⟩
      · exact .inr ⟨rfl, .inr ⟨rfl, rfl, decide_eq_true h⟩⟩
    clear hC e0 e16 e17 n0 n1 n2 p2 p3 p4
    have D0 := Lib.hid d0; have D1 := Lib.hid d1; have D2 := Lib.hid d2; have P1 := Lib.hid p1; have HVR := Lib.hid hvr; have HVC := Lib.hid hvc; have HONE := Lib.hid hone; have HSZ := Lib.hid hsz; have HUR := Lib.hid hUR; have HUC := Lib.hid hUC; clear d0 d1 d2 p1 hvr hvc hone hsz hUR hUC
    go_enter Try.func41, Try.ntmps41
    go_upto_region 1 with (first | ((with_reducible refine iD 1 (.box 53 (.tmp 0)) ?_); refine step_boxA (dst := some 1) S 53 (.tmp 0) _ rfl gw ?_; clear S; intro g1 w S) | ((with_reducible refine iO _ (.load 5 _) ?_); refine step_load1 5 _ _ _ rfl (cL) _ Try.underlying5 rfl gw ?_) | ((with_reducible refine iO _ (.load 24 _) ?_); refine step_load1 24 _ _ _ rfl (cL) _ Try.underlying24 rfl gw ?_) | ((with_reducible refine iO _ (.load 32 _) ?_); refine step_load1 32 _ _ _ rfl (cL) _ Try.underlying32 rfl gw ?_) | ((with_reducible refine iO _ (.load 53 _) ?_); first | (refine step_load S 53 _ _ rfl _ _ _ pk _ Try.underlying53 rfl 46 kR lN gw ?_) | (refine step_loadO 53 _ _ rfl _ _ _ (S.old_heap (Hid.out (by assumption))) _ Try.underlying53 rfl 46 kR lN gw ?_) | (refine step_loadR 53 _ _ _ rfl _ (S.old_range hy) _ Try.underlying53 rfl 46 kR lN _ rfl gw ?_)) | fail)
    go_cut [26] (fun t w' => t = .bool false ∧ Has w0 w' [blk g1 (.cells X 53 (0, 0))])
    case first =>
      clear key2
      rcases key with ⟨j1, j2⟩ | ⟨j1, j2, j3⟩
      all_goals
        go_wp2_with (first | ((with_reducible refine iD 1 (.box 53 (.tmp 0)) ?_); refine step_boxA (dst := some 1) S 53 (.tmp 0) _ rfl gw ?_; clear S; intro g1 w S) | ((with_reducible refine iO _ (.load 5 _) ?_); refine step_load1 5 _ _ _ rfl (cL) _ Try.underlying5 rfl gw ?_) | ((with_reducible refine iO _ (.load 24 _) ?_); refine step_load1 24 _ _ _ rfl (cL) _ Try.underlying24 rfl gw ?_) | (go_at_call 58; (with_reducible refine (P1.out _).mono ?_); rintro e w1 ⟨rfl, T⟩; replace S := S.call T; clear T; (try simp only [z4, z5] at S)) | ((with_reducible refine iO _ (.load 32 _) ?_); refine step_load1 32 _ _ _ rfl (cL) _ Try.underlying32 rfl gw ?_) | ((with_reducible refine iO _ (.load 53 _) ?_); first | (refine step_load S 53 _ _ rfl _ _ _ pk _ Try.underlying53 rfl 46 kR lN gw ?_) | (refine step_loadO 53 _ _ rfl _ _ _ (S.old_heap (Hid.out (by assumption))) _ Try.underlying53 rfl 46 kR lN gw ?_) | (refine step_loadR 53 _ _ _ rfl _ (S.old_range hy) _ Try.underlying53 rfl 46 kR lN _ rfl gw ?_)) | fail)
        go_meet
        case rel => exact ⟨by rw [decide_eq_false (by omega)], S⟩
    case rest =>
    clear S key i4
    obtain ⟨rfl, S⟩ := hcut
    rcases key2 with ⟨j1, j2⟩ | ⟨j1, ⟨j2, j3⟩ | ⟨j2, j3, j4⟩⟩
    all_goals
      go_wp2_with (first | ((with_reducible refine iD 1 (.box 53 (.tmp 0)) ?_); refine step_boxA (dst := some 1) S 53 (.tmp 0) _ rfl gw ?_; clear S; intro g1 w S) | ((with_reducible refine iO _ (.load 5 _) ?_); refine step_load1 5 _ _ _ rfl (cL) _ Try.underlying5 rfl gw ?_) | ((with_reducible refine iO _ (.load 24 _) ?_); refine step_load1 24 _ _ _ rfl (cL) _ Try.underlying24 rfl gw ?_) | ((with_reducible refine iO _ (.load 32 _) ?_); refine step_load1 32 _ _ _ rfl (cL) _ Try.underlying32 rfl gw ?_) | ((with_reducible refine iO _ (.load 53 _) ?_); first | (refine step_load S 53 _ _ rfl _ _ _ pk _ Try.underlying53 rfl 46 kR lN gw ?_) | (refine step_loadO 53 _ _ rfl _ _ _ (S.old_heap (Hid.out (by assumption))) _ Try.underlying53 rfl 46 kR lN gw ?_) | (refine step_loadR 53 _ _ _ rfl _ (S.old_range hy) _ Try.underlying53 rfl 46 kR lN _ rfl gw ?_)) | fail)
      go_ret
      exact ⟨rfl, S.nil⟩
  rw [decide_eq_true hC, Bool.true_and] at hV
  have key2 : (((k.toNat : Int) == 0) = true ∧ (c.v == 0) = false ∧ ((k.toNat : Int) == 16) = false ∧ ((k.toNat : Int) == 17) = false) ∨ (((k.toNat : Int) == 0) = false ∧ ((((k.toNat : Int) == 16) = true ∧ (c.v != 0) = false ∧ ((k.toNat : Int) == 17) = false) ∨ (((k.toNat : Int) == 16) = false ∧ (((k.toNat : Int) == 17) = false ∨ (((k.toNat : Int) == 17) = true ∧ (c.v != 280) = false))))) := by
    rw [e0, e16, e17, n0, n1, n2]
    by_cases h0 : k = 0
    · subst h0; exact .inl ⟨rfl, decide_eq_false fun h => hC (.inl ⟨rfl, h⟩), rfl, rfl⟩
    refine .inr ⟨decide_eq_false h0, ?_⟩
    by_cases h16 : k = 16
    · subst h16; exact .inl ⟨rfl, decide_eq_false fun h => hC (.inr (.inl ⟨rfl, h⟩)), rfl⟩
    refine .inr ⟨decide_eq_false h16, ?_⟩
    by_cases h17 : k = 17
    · subst h17; exact .inr ⟨rfl, decide_eq_false fun h => hC (.inr (.inr ⟨rfl, h⟩))⟩
    exact .inl (decide_eq_false h17)
  clear hC e0 e16 e17 n0 n1 n2
  have D0 := Lib.hid d0; have D1 := Lib.hid d1; have D2 := Lib.hid d2; have P1 := Lib.hid p1; have P2 := Lib.hid p2; have P3 := Lib.hid p3; have P4 := Lib.hid p4; have HVR := Lib.hid hvr; have HVC := Lib.hid hvc; have HONE := Lib.hid hone; have HSZ := Lib.hid hsz; have HUR := Lib.hid hUR; have HUC := Lib.hid hUC; clear d0 d1 d2 p1 p2 p3 p4 hvr hvc hone hsz hUR hUC
  go_enter Try.func41, Try.ntmps41
  go_upto_region 1 with (first | ((with_reducible refine iD 1 (.box 53 (.tmp 0)) ?_); refine step_boxA (dst := some 1) S 53 (.tmp 0) _ rfl gw ?_; clear S; intro g1 w S) | ((with_reducible refine iO _ (.load 5 _) ?_); refine step_load1 5 _ _ _ rfl (cL) _ Try.underlying5 rfl gw ?_) | ((with_reducible refine iO _ (.load 24 _) ?_); refine step_load1 24 _ _ _ rfl (cL) _ Try.underlying24 rfl gw ?_) | ((with_reducible refine iO _ (.load 32 _) ?_); refine step_load1 32 _ _ _ rfl (cL) _ Try.underlying32 rfl gw ?_) | ((with_reducible refine iO _ (.load 53 _) ?_); first | (refine step_load S 53 _ _ rfl _ _ _ pk _ Try.underlying53 rfl 46 kR lN gw ?_) | (refine step_loadO 53 _ _ rfl _ _ _ (S.old_heap (Hid.out (by assumption))) _ Try.underlying53 rfl 46 kR lN gw ?_) | (refine step_loadR 53 _ _ _ rfl _ (S.old_range hy) _ Try.underlying53 rfl 46 kR lN _ rfl gw ?_)) | fail)
  go_cut [26] (fun t w' => t = .bool false ∧ Has w0 w' [blk g1 (.cells X 53 (0, 0))])
  case first =>
    clear key2
    rcases key with ⟨j1, j2⟩ | ⟨j1, j2, j3⟩
    all_goals
      go_wp2_with (first | ((with_reducible refine iD 1 (.box 53 (.tmp 0)) ?_); refine step_boxA (dst := some 1) S 53 (.tmp 0) _ rfl gw ?_; clear S; intro g1 w S) | ((with_reducible refine iO _ (.load 5 _) ?_); refine step_load1 5 _ _ _ rfl (cL) _ Try.underlying5 rfl gw ?_) | ((with_reducible refine iO _ (.load 24 _) ?_); refine step_load1 24 _ _ _ rfl (cL) _ Try.underlying24 rfl gw ?_) | (go_at_call 58; (with_reducible refine (P1.out _).mono ?_); rintro e w1 ⟨rfl, T⟩; replace S := S.call T; clear T; (try simp only [z4, z5] at S)) | ((with_reducible refine iO _ (.load 32 _) ?_); refine step_load1 32 _ _ _ rfl (cL) _ Try.underlying32 rfl gw ?_) | ((with_reducible refine iO _ (.load 53 _) ?_); first | (refine step_load S 53 _ _ rfl _ _ _ pk _ Try.underlying53 rfl 46 kR lN gw ?_) | (refine step_loadO 53 _ _ rfl _ _ _ (S.old_heap (Hid.out (by assumption))) _ Try.underlying53 rfl 46 kR lN gw ?_) | (refine step_loadR 53 _ _ _ rfl _ (S.old_range hy) _ Try.underlying53 rfl 46 kR lN _ rfl gw ?_)) | fail)
      go_meet
      case rel => exact ⟨by rw [decide_eq_false (by omega)], S⟩
  case rest =>
  clear S key i4
  obtain ⟨rfl, S⟩ := hcut
  go_upto_region 3 with (first | ((with_reducible refine iD 1 (.box 53 (.tmp 0)) ?_); refine step_boxA (dst := some 1) S 53 (.tmp 0) _ rfl gw ?_; clear S; intro g1 w S) | ((with_reducible refine iO _ (.load 5 _) ?_); refine step_load1 5 _ _ _ rfl (cL) _ Try.underlying5 rfl gw ?_) | ((with_reducible refine iO _ (.load 24 _) ?_); refine step_load1 24 _ _ _ rfl (cL) _ Try.underlying24 rfl gw ?_) | ((with_reducible refine iO _ (.load 32 _) ?_); refine step_load1 32 _ _ _ rfl (cL) _ Try.underlying32 rfl gw ?_) | ((with_reducible refine iO _ (.load 53 _) ?_); first | (refine step_load S 53 _ _ rfl _ _ _ pk _ Try.underlying53 rfl 46 kR lN gw ?_) | (refine step_loadO 53 _ _ rfl _ _ _ (S.old_heap (Hid.out (by assumption))) _ Try.underlying53 rfl 46 kR lN gw ?_) | (refine step_loadR 53 _ _ _ rfl _ (S.old_range hy) _ Try.underlying53 rfl 46 kR lN _ rfl gw ?_)) | fail)
  go_cut [54] (fun t w' => t = .bool false ∧ Has w0 w' [blk g1 (.cells X 53 (0, 0))])
  case first =>
    rcases key2 with ⟨j1, j2, j3, j4⟩ | ⟨j1, ⟨j2, j3, j4⟩ | ⟨j2, j3 | ⟨j3, j4⟩⟩⟩
    all_goals
      go_wp2_with (first | ((with_reducible refine iD 1 (.box 53 (.tmp 0)) ?_); refine step_boxA (dst := some 1) S 53 (.tmp 0) _ rfl gw ?_; clear S; intro g1 w S) | ((with_reducible refine iO _ (.load 5 _) ?_); refine step_load1 5 _ _ _ rfl (cL) _ Try.underlying5 rfl gw ?_) | ((with_reducible refine iO _ (.load 24 _) ?_); refine step_load1 24 _ _ _ rfl (cL) _ Try.underlying24 rfl gw ?_) | ((with_reducible refine iO _ (.load 32 _) ?_); refine step_load1 32 _ _ _ rfl (cL) _ Try.underlying32 rfl gw ?_) | ((with_reducible refine iO _ (.load 53 _) ?_); first | (refine step_load S 53 _ _ rfl _ _ _ pk _ Try.underlying53 rfl 46 kR lN gw ?_) | (refine step_loadO 53 _ _ rfl _ _ _ (S.old_heap (Hid.out (by assumption))) _ Try.underlying53 rfl 46 kR lN gw ?_) | (refine step_loadR 53 _ _ _ rfl _ (S.old_range hy) _ Try.underlying53 rfl 46 kR lN _ rfl gw ?_)) | fail)
      go_meet
      case rel => exact ⟨rfl, S⟩
  case rest =>
  clear S key2
  obtain ⟨rfl, S⟩ := hcut
  go_upto_region 5 with (first | ((with_reducible refine iD 1 (.box 53 (.tmp 0)) ?_); refine step_boxA (dst := some 1) S 53 (.tmp 0) _ rfl gw ?_; clear S; intro g1 w S) | ((with_reducible refine iO _ (.load 5 _) ?_); refine step_load1 5 _ _ _ rfl (cL) _ Try.underlying5 rfl gw ?_) | ((with_reducible refine iO _ (.load 24 _) ?_); refine step_load1 24 _ _ _ rfl (cL) _ Try.underlying24 rfl gw ?_) | ((with_reducible refine iO _ (.load 32 _) ?_); refine step_load1 32 _ _ _ rfl (cL) _ Try.underlying32 rfl gw ?_) | ((with_reducible refine iO _ (.load 53 _) ?_); first | (refine step_load S 53 _ _ rfl _ _ _ pk _ Try.underlying53 rfl 46 kR lN gw ?_) | (refine step_loadO 53 _ _ rfl _ _ _ (S.old_heap (Hid.out (by assumption))) _ Try.underlying53 rfl 46 kR lN gw ?_) | (refine step_loadR 53 _ _ _ rfl _ (S.old_range hy) _ Try.underlying53 rfl 46 kR lN _ rfl gw ?_)) | fail)
  cases B5 with
  | false =>
    obtain rfl : D = false := hV
    refine wp_rely S [⟨[], [], [], fun _ v => v = .agg X, fun _ v => []⟩, ⟨[], [], [], fun _ v => v = .agg X, fun _ v => []⟩, ⟨[1], [], [], fun _ v => v = .agg U, fun _ v => []⟩, ⟨[0, 1, 2], [], [], fun _ v => v = .bool false, fun _ v => []⟩, ⟨[0, 1, 2, 3], [], [], fun _ v => v = (.bool false), fun _ v => []⟩, ⟨[0, 1, 2, 3, 4], [], [], fun _ v => v = undef, fun _ v => []⟩, ⟨[0, 1, 2, 3, 4, 5], [], [], fun _ v => v = undef, fun _ v => []⟩, ⟨[0, 1, 2, 3, 4, 5, 6], [], [], fun _ v => v = .bool false, fun _ v => []⟩, ⟨[0, 1, 2, 3, 4, 5, 6, 7], [], [], fun _ v => v = (.bool false), fun _ v => []⟩] ?A1 ?hA1 kR kR kR [0, 1, 2, 3, 4, 5, 6, 7, 8] kR ?hok1 ?fin1
    case hA1 => intro u; simp only [putAll, List.length_cons, List.length_nil, Nat.zero_add, Nat.reduceAdd, dstAt, List.getElem?_toArray, List.getElem?_cons_zero, List.getElem?_cons_succ, Option.bind_some, Act.put, List.setIfInBounds_toArray, List.set_cons_zero, List.set_cons_succ]; rfl
    case hok1 =>
      intro i hi
      obtain rfl | rfl | rfl | rfl | rfl | rfl | rfl | rfl | rfl : i = 0 ∨ i = 1 ∨ i = 2 ∨ i = 3 ∨ i = 4 ∨ i = 5 ∨ i = 6 ∨ i = 7 ∨ i = 8 := by simp only [List.length_cons, List.length_nil, Nat.zero_add, Nat.reduceAdd] at hi; omega
      · clear hi
        refine step_of rfl rfl rfl ?_
        intro u G w hf S
        simp only [resOf, spec, RSpec.resAt, z0, z1, z2, z3, z4, z5, z6, z7, ptrBlk] at S ⊢
        refine does_load 53 (.tmp 1) g1 rfl _ _ _ (S.get (r := blk g1 _) pk) _ Try.underlying53 rfl 46 kR lN ?_; exact ⟨rfl, S⟩
      · clear hi
        refine step_of rfl rfl rfl ?_
        intro u G w hf S
        simp only [resOf, spec, RSpec.resAt, z0, z1, z2, z3, z4, z5, z6, z7, ptrBlk] at S ⊢
        refine does_load 53 (.tmp 1) g1 rfl _ _ _ (S.get (r := blk g1 _) pk) _ Try.underlying53 rfl 46 kR lN ?_; exact ⟨rfl, S⟩
      · clear hi
        refine step_of rfl rfl rfl ?_
        intro u G w hf S
        have f1 : u 1 = .agg X := hf 1 (by simp)
        simp only [resOf, spec, RSpec.resAt, z0, z1, z2, z3, z4, z5, z6, z7, ptrBlk] at S ⊢
        simp only [f1]
        refine does_fn (args := [(.agg X)]) Try.func59 kR kR (P2.out w) rfl ?_
        rintro e w1 ⟨rfl, T⟩
        exact ⟨_, rfl, rfl, S.call T⟩
      · clear hi
        refine step_of rfl rfl rfl ?_
        intro u G w hf S
        have f0 : u 0 = .agg X := hf 0 (by simp)
        have f2 : u 2 = .agg U := hf 2 (by simp)
        simp only [resOf, spec, RSpec.resAt, z0, z1, z2, z3, z4, z5, z6, z7, ptrBlk] at S ⊢
        simp only [f0, f2]
        refine does_fn (args := [(.agg X), (.agg U)]) Try.func21 kR kR (P3.out w (S.old HVR.out) (S.old HVC.out) (S.old HUR.out) (S.old HUC.out)) rfl ?_
        rintro e w1 ⟨rfl, T⟩
        exact ⟨_, rfl, rfl, S.call T⟩
      · clear hi
        refine step_of rfl rfl rfl ?_
        intro u G w hf S
        have f3 : u 3 = .bool false := hf 3 (by simp)
        simp only [resOf, spec, RSpec.resAt, z0, z1, z2, z3, z4, z5, z6, z7, ptrBlk] at S ⊢
        simp only [f3]
        simp only [does]
        go_simp
        try first | exact S | exact ⟨vv, S⟩ | exact vv
      · clear hi
        refine step_of_x rfl rfl ?_
        intro u G w hf S
        have f4 : u 4 = (.bool false) := hf 4 (by simp)
        simp only [resOf, spec, RSpec.resAt, z0, z1, z2, z3, z4, z5, z6, z7, ptrBlk] at S ⊢
        simp only [f4]
        refine ⟨rfl, ?_⟩
        first | exact ⟨rfl, S⟩ | exact ⟨trivial, S⟩
      · clear hi
        refine step_of_x rfl rfl ?_
        intro u G w hf S
        have f4 : u 4 = (.bool false) := hf 4 (by simp)
        have f5 : u 5 = undef := hf 5 (by simp)
        simp only [resOf, spec, RSpec.resAt, z0, z1, z2, z3, z4, z5, z6, z7, ptrBlk] at S ⊢
        simp only [f4, f5]
        refine ⟨rfl, ?_⟩
        first | exact ⟨rfl, S⟩ | exact ⟨trivial, S⟩
      · clear hi
        refine step_of rfl rfl rfl ?_
        intro u G w hf S
        have f4 : u 4 = (.bool false) := hf 4 (by simp)
        have f6 : u 6 = undef := hf 6 (by simp)
        simp only [resOf, spec, RSpec.resAt, z0, z1, z2, z3, z4, z5, z6, z7, ptrBlk] at S ⊢
        simp only [f4, f6]
        simp only [does]
        go_simp
        try first | exact S | exact ⟨vv, S⟩ | exact vv
      · clear hi
        refine step_of rfl rfl rfl ?_
        intro u G w hf S
        have f7 : u 7 = .bool false := hf 7 (by simp)
        simp only [resOf, spec, RSpec.resAt, z0, z1, z2, z3, z4, z5, z6, z7, ptrBlk] at S ⊢
        simp only [f7]
        simp only [does]
        go_simp
        try first | exact S | exact ⟨vv, S⟩ | exact vv
    case fin1 =>
      intro u w hf S
      have f0 : u 0 = .agg X := hf 0 (by simp)
      have f1 : u 1 = .agg X := hf 1 (by simp)
      have f2 : u 2 = .agg U := hf 2 (by simp)
      have f3 : u 3 = .bool false := hf 3 (by simp)
      have f4 : u 4 = (.bool false) := hf 4 (by simp)
      have f5 : u 5 = undef := hf 5 (by simp)
      have f6 : u 6 = undef := hf 6 (by simp)
      have f7 : u 7 = .bool false := hf 7 (by simp)
      have f8 : u 8 = (.bool false) := hf 8 (by simp)
      simp only [resOf, spec, RSpec.resAt, z0, z1, z2, z3, z4, z5, z6, z7, ptrBlk] at S
      clear hf
      simp only [List.length_cons, List.length_nil, Nat.zero_add, Nat.reduceAdd, List.drop_succ_cons, List.drop_zero, f0, f1, f2, f3, f4, f5, f6, f7, f8]
      clear f0 f1 f2 f3 f4 f5 f6 f7 f8
      go_wp2_with (first | ((with_reducible refine iD 1 (.box 53 (.tmp 0)) ?_); refine step_boxA (dst := some 1) S 53 (.tmp 0) _ rfl gw ?_; clear S; intro g1 w S) | ((with_reducible refine iO _ (.load 5 _) ?_); refine step_load1 5 _ _ _ rfl (cL) _ Try.underlying5 rfl gw ?_) | ((with_reducible refine iO _ (.load 24 _) ?_); refine step_load1 24 _ _ _ rfl (cL) _ Try.underlying24 rfl gw ?_) | ((with_reducible refine iO _ (.load 32 _) ?_); refine step_load1 32 _ _ _ rfl (cL) _ Try.underlying32 rfl gw ?_) | ((with_reducible refine iO _ (.load 53 _) ?_); first | (refine step_load S 53 _ _ rfl _ _ _ pk _ Try.underlying53 rfl 46 kR lN gw ?_) | (refine step_loadO 53 _ _ rfl _ _ _ (S.old_heap (Hid.out (by assumption))) _ Try.underlying53 rfl 46 kR lN gw ?_) | (refine step_loadR 53 _ _ _ rfl _ (S.old_range hy) _ Try.underlying53 rfl 46 kR lN _ rfl gw ?_)) | fail)
      go_ret
      exact ⟨rfl, S.nil⟩
  | true =>
    obtain rfl : D = F := hV
    refine wp_rely S [⟨[], [], [], fun _ v => v = .agg X, fun _ v => []⟩, ⟨[], [], [], fun _ v => v = .agg X, fun _ v => []⟩, ⟨[1], [], [], fun _ v => v = .agg U, fun _ v => []⟩, ⟨[0, 1, 2], [], [], fun _ v => v = .bool true, fun _ v => []⟩, ⟨[0, 1, 2, 3], [], [], fun _ v => v = (.bool true), fun _ v => []⟩, ⟨[0, 1, 2, 3, 4], [], [], fun _ v => v = .agg X, fun _ v => []⟩, ⟨[0, 1, 2, 3, 4, 5], [], [], fun _ v => v = .bool D, fun _ v => []⟩, ⟨[0, 1, 2, 3, 4, 5, 6], [], [], fun _ v => v = .bool D, fun _ v => []⟩, ⟨[0, 1, 2, 3, 4, 5, 6, 7], [], [], fun _ v => v = (.bool D), fun _ v => []⟩] ?A2 ?hA2 kR kR kR [0, 1, 2, 3, 4, 5, 6, 7, 8] kR ?hok2 ?fin2
    case hA2 => intro u; simp only [putAll, List.length_cons, List.length_nil, Nat.zero_add, Nat.reduceAdd, dstAt, List.getElem?_toArray, List.getElem?_cons_zero, List.getElem?_cons_succ, Option.bind_some, Act.put, List.setIfInBounds_toArray, List.set_cons_zero, List.set_cons_succ]; rfl
    case hok2 =>
      intro i hi
      obtain rfl | rfl | rfl | rfl | rfl | rfl | rfl | rfl | rfl : i = 0 ∨ i = 1 ∨ i = 2 ∨ i = 3 ∨ i = 4 ∨ i = 5 ∨ i = 6 ∨ i = 7 ∨ i = 8 := by simp only [List.length_cons, List.length_nil, Nat.zero_add, Nat.reduceAdd] at hi; omega
      · clear hi
        refine step_of rfl rfl rfl ?_
        intro u G w hf S
        simp only [resOf, spec, RSpec.resAt, z0, z1, z2, z3, z4, z5, z6, z7, ptrBlk] at S ⊢
        refine does_load 53 (.tmp 1) g1 rfl _ _ _ (S.get (r := blk g1 _) pk) _ Try.underlying53 rfl 46 kR lN ?_; exact ⟨rfl, S⟩
      · clear hi
        refine step_of rfl rfl rfl ?_
        intro u G w hf S
        simp only [resOf, spec, RSpec.resAt, z0, z1, z2, z3, z4, z5, z6, z7, ptrBlk] at S ⊢
        refine does_load 53 (.tmp 1) g1 rfl _ _ _ (S.get (r := blk g1 _) pk) _ Try.underlying53 rfl 46 kR lN ?_; exact ⟨rfl, S⟩
      · clear hi
        refine step_of rfl rfl rfl ?_
        intro u G w hf S
        have f1 : u 1 = .agg X := hf 1 (by simp)
        simp only [resOf, spec, RSpec.resAt, z0, z1, z2, z3, z4, z5, z6, z7, ptrBlk] at S ⊢
        simp only [f1]
        refine does_fn (args := [(.agg X)]) Try.func59 kR kR (P2.out w) rfl ?_
        rintro e w1 ⟨rfl, T⟩
        exact ⟨_, rfl, rfl, S.call T⟩
      · clear hi
        refine step_of rfl rfl rfl ?_
        intro u G w hf S
        have f0 : u 0 = .agg X := hf 0 (by simp)
        have f2 : u 2 = .agg U := hf 2 (by simp)
        simp only [resOf, spec, RSpec.resAt, z0, z1, z2, z3, z4, z5, z6, z7, ptrBlk] at S ⊢
        simp only [f0, f2]
        refine does_fn (args := [(.agg X), (.agg U)]) Try.func21 kR kR (P3.out w (S.old HVR.out) (S.old HVC.out) (S.old HUR.out) (S.old HUC.out)) rfl ?_
        rintro e w1 ⟨rfl, T⟩
        exact ⟨_, rfl, rfl, S.call T⟩
      · clear hi
        refine step_of rfl rfl rfl ?_
        intro u G w hf S
        have f3 : u 3 = .bool true := hf 3 (by simp)
        simp only [resOf, spec, RSpec.resAt, z0, z1, z2, z3, z4, z5, z6, z7, ptrBlk] at S ⊢
        simp only [f3]
        simp only [does]
        go_simp
        try first | exact S | exact ⟨vv, S⟩ | exact vv
      · clear hi
        refine step_of_g rfl rfl ?_
        intro u G w hf S
        have f4 : u 4 = (.bool true) := hf 4 (by simp)
        simp only [resOf, spec, RSpec.resAt, z0, z1, z2, z3, z4, z5, z6, z7, ptrBlk] at S ⊢
        simp only [f4]
        refine ⟨rfl, ?_⟩
        refine does_load 53 (.tmp 1) g1 rfl _ _ _ (S.get (r := blk g1 _) pk) _ Try.underlying53 rfl 46 kR lN ?_; exact ⟨rfl, S⟩
      · clear hi
        refine step_of_g rfl rfl ?_
        intro u G w hf S
        have f4 : u 4 = (.bool true) := hf 4 (by simp)
        have f5 : u 5 = .agg X := hf 5 (by simp)
        simp only [resOf, spec, RSpec.resAt, z0, z1, z2, z3, z4, z5, z6, z7, ptrBlk] at S ⊢
        simp only [f4, f5]
        refine ⟨rfl, ?_⟩
        refine does_fn (args := [(.agg X)]) Try.func60 kR kR (P4.out w (S.old HVR.out) (S.old HVC.out)) rfl ?_
        rintro e w1 ⟨rfl, T⟩
        exact ⟨_, rfl, rfl, S.call T⟩
      · clear hi
        refine step_of rfl rfl rfl ?_
        intro u G w hf S
        have f4 : u 4 = (.bool true) := hf 4 (by simp)
        have f6 : u 6 = .bool D := hf 6 (by simp)
        simp only [resOf, spec, RSpec.resAt, z0, z1, z2, z3, z4, z5, z6, z7, ptrBlk] at S ⊢
        simp only [f4, f6]
        simp only [does]
        go_simp
        try first | exact S | exact ⟨vv, S⟩ | exact vv
      · clear hi
        refine step_of rfl rfl rfl ?_
        intro u G w hf S
        have f7 : u 7 = .bool D := hf 7 (by simp)
        simp only [resOf, spec, RSpec.resAt, z0, z1, z2, z3, z4, z5, z6, z7, ptrBlk] at S ⊢
        simp only [f7]
        simp only [does]
        go_simp
        try first | exact S | exact ⟨vv, S⟩ | exact vv
    case fin2 =>
      intro u w hf S
      have f0 : u 0 = .agg X := hf 0 (by simp)
      have f1 : u 1 = .agg X := hf 1 (by simp)
      have f2 : u 2 = .agg U := hf 2 (by simp)
      have f3 : u 3 = .bool true := hf 3 (by simp)
      have f4 : u 4 = (.bool true) := hf 4 (by simp)
      have f5 : u 5 = .agg X := hf 5 (by simp)
      have f6 : u 6 = .bool D := hf 6 (by simp)
      have f7 : u 7 = .bool D := hf 7 (by simp)
      have f8 : u 8 = (.bool D) := hf 8 (by simp)
      simp only [resOf, spec, RSpec.resAt, z0, z1, z2, z3, z4, z5, z6, z7, ptrBlk] at S
      clear hf
      simp only [List.length_cons, List.length_nil, Nat.zero_add, Nat.reduceAdd, List.drop_succ_cons, List.drop_zero, f0, f1, f2, f3, f4, f5, f6, f7, f8]
      clear f0 f1 f2 f3 f4 f5 f6 f7 f8
      go_wp2_with (first | ((with_reducible refine iD 1 (.box 53 (.tmp 0)) ?_); refine step_boxA (dst := some 1) S 53 (.tmp 0) _ rfl gw ?_; clear S; intro g1 w S) | ((with_reducible refine iO _ (.load 5 _) ?_); refine step_load1 5 _ _ _ rfl (cL) _ Try.underlying5 rfl gw ?_) | ((with_reducible refine iO _ (.load 24 _) ?_); refine step_load1 24 _ _ _ rfl (cL) _ Try.underlying24 rfl gw ?_) | ((with_reducible refine iO _ (.load 32 _) ?_); refine step_load1 32 _ _ _ rfl (cL) _ Try.underlying32 rfl gw ?_) | ((with_reducible refine iO _ (.load 53 _) ?_); first | (refine step_load S 53 _ _ rfl _ _ _ pk _ Try.underlying53 rfl 46 kR lN gw ?_) | (refine step_loadO 53 _ _ rfl _ _ _ (S.old_heap (Hid.out (by assumption))) _ Try.underlying53 rfl 46 kR lN gw ?_) | (refine step_loadR 53 _ _ _ rfl _ (S.old_range hy) _ Try.underlying53 rfl 46 kR lN _ rfl gw ?_)) | fail)
      go_ret
      exact ⟨rfl, S.nil⟩
set_option maxRecDepth 100000 in
set_option maxHeartbeats 2000000 in
theorem refCheckReply_s (r : Rp) (vr vc : Value) (w0 : World) (hvr : Sl w0 3 vr r.robots.length (r.robots.flatMap sgtL)) (hvc : Sl w0 35 vc r.records.length (r.records.flatMap rcdL)) :
    Calls Try.prog 20 #[.agg (rpL r vr vc).toArray] w0 fun e w' => e = .returned (.int .i64 (rpE r)) ∧ Has w0 w' [] := by
  have S := Has.start w0
  have pv := fun w h1 h2 => refValidReply_s r vr vc w h1 h2
  have hsz := rpL_size r vr vc
  unfold rpE
  obtain ⟨X, hX⟩ : ∃ X, X = (rpL r vr vc).toArray := ⟨_, rfl⟩
  rw [← hX] at pv hsz ⊢
  cases hv : rpV r <;> rw [hv] at pv
  all_goals
    have PV := Lib.hid pv; have HVR := Lib.hid hvr; have HVC := Lib.hid hvc; have HSZ := Lib.hid hsz; clear pv hvr hvc hsz
    clear hv hX
    go_enter Try.func20, Try.ntmps20
    go_wp2_with (first | ((with_reducible refine iD 1 (.box 53 (.tmp 0)) ?_); refine step_boxA (dst := some 1) S 53 (.tmp 0) _ rfl rfl ?_; clear S; intro g1 w S) | ((with_reducible refine iO _ (.load 53 _) ?_); first | (refine step_load S 53 _ _ rfl _ _ _ pk _ Try.underlying53 rfl 46 kR lN rfl ?_) | (refine step_loadO 53 _ _ rfl _ _ _ (S.old_heap (Hid.out (by assumption))) _ Try.underlying53 rfl 46 kR lN rfl ?_) | (refine step_loadR 53 _ _ _ rfl _ (S.old_range hy) _ Try.underlying53 rfl 46 kR lN _ rfl rfl ?_)) | (go_at_call 41; (with_reducible refine (PV.out _ (S.old HVR.out) (S.old HVC.out)).mono ?_); rintro e w1 ⟨rfl, T⟩; replace S := S.call T; clear T; (try simp only [z4, z5] at S)) | fail)
    go_ret
    exact ⟨rfl, S.nil⟩
end Go.Proofs.Ytfhkmmagpnojmaa
