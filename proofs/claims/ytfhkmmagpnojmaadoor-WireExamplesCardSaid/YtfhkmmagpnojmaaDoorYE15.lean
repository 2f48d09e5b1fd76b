/- Several texts under one header: what the claim needs of RpC. No condition but those that each names. -/
import Derived.Test.YtfhkmmagpnojmaaDoorYE1
import Derived.Test.YtfhkmmagpnojmaaDoorYE14
import Derived.Test.YtfhkmmagpnojmaaDoorYE12
import Derived.Test.YtfhkmmagpnojmaaDoorYE13
set_option linter.unusedSimpArgs false
set_option linter.unusedVariables false

/- CheckReply. No condition but the reach. -/
namespace Go.Proofs.YtfhkmmagpnojmaaDoor
open Go.RowKit

/-- Whether a kind may have a code. -/
def cdB (k : UInt8) (c : Int) : Bool := if k = 0 then decide (c ≠ 0) else if k = 16 then decide (c = 0) else if k = 17 then decide (c = 280) else decide (k.toNat ≤ 6 ∨ k = 18)
set_option maxRecDepth 100000 in
set_option maxHeartbeats 2000000 in
theorem coded_s (k : UInt8) (c : Int) (w0 : World) : Calls Tryd.prog 72 #[.int .u8 (k.toNat : Int), .int .i64 c] w0 fun e w' => e = .returned (.bool (cdB k c)) ∧ Has w0 w' [] := by
  have S := Has.start w0
  have e0 := eqU8 k 0
  have e16 := eqU8 k 16
  have e17 := eqU8 k 17
  have e18 := eqU8 k 18
  simp only [show ((0 : UInt8).toNat : Int) = 0 from rfl, show ((16 : UInt8).toNat : Int) = 16 from rfl, show ((17 : UInt8).toNat : Int) = 17 from rfl, show ((18 : UInt8).toNat : Int) = 18 from rfl] at e0 e16 e17 e18
  obtain ⟨D, hD⟩ : ∃ D, D = cdB k c := ⟨_, rfl⟩
  rw [← hD]
  unfold cdB at hD
  have n0 : (c != 0) = decide (c ≠ 0) := by rw [Bool.eq_iff_iff, bne_iff_ne, decide_eq_true_eq]
  have n1 : (c == 0) = decide (c = 0) := by rw [Bool.eq_iff_iff, beq_iff_eq, decide_eq_true_eq]
  have n2 : (c == 280) = decide (c = 280) := by rw [Bool.eq_iff_iff, beq_iff_eq, decide_eq_true_eq]
  have key : (((k.toNat : Int) == 0) = true ∧ (c != 0) = D) ∨ (((k.toNat : Int) == 0) = false ∧ ((((k.toNat : Int) == 16) = true ∧ (c == 0) = D) ∨ (((k.toNat : Int) == 16) = false ∧ ((((k.toNat : Int) == 17) = true ∧ (c == 280) = D) ∨ (((k.toNat : Int) == 17) = false ∧ (((k.toNat : Int) ≤ 6 ∧ D = true) ∨ (¬ (k.toNat : Int) ≤ 6 ∧ ((k.toNat : Int) == 18) = D))))))) := by
    rw [e0, e16, e17, e18, n0, n1, n2]
    by_cases h0 : k = 0
    · rw [if_pos h0] at hD; exact .inl ⟨decide_eq_true h0, hD.symm⟩
    rw [if_neg h0] at hD
    refine .inr ⟨decide_eq_false h0, ?_⟩
    by_cases h16 : k = 16
    · rw [if_pos h16] at hD; exact .inl ⟨decide_eq_true h16, hD.symm⟩
    rw [if_neg h16] at hD
    refine .inr ⟨decide_eq_false h16, ?_⟩
    by_cases h17 : k = 17
    · rw [if_pos h17] at hD; exact .inl ⟨decide_eq_true h17, hD.symm⟩
    rw [if_neg h17] at hD
    refine .inr ⟨decide_eq_false h17, ?_⟩
    by_cases h6 : k.toNat ≤ 6
    · exact .inl ⟨by omega, by rw [hD]; exact decide_eq_true (.inl h6)⟩
    · refine .inr ⟨by omega, ?_⟩
      rw [hD, Bool.eq_iff_iff, decide_eq_true_eq, decide_eq_true_eq]
      exact ⟨.inr, fun h => h.resolve_left h6⟩
  clear hD n0 n1 n2 e0 e16 e17 e18
  rcases key with ⟨j0, j1⟩ | ⟨j0, ⟨j1, j2⟩ | ⟨j1, ⟨j2, j3⟩ | ⟨j2, ⟨j3, rfl⟩ | ⟨j3, j4⟩⟩⟩⟩
  all_goals
    go_enter Tryd.func72, Tryd.ntmps72
    go_wp2_with (first | fail)
    go_ret
    exact ⟨rfl, S.nil⟩
/-- The five tests of a reply. -/
theorem rpV_eq (r : Rp) : rpV r = (decide (0 ≤ r.code.v ∧ r.code.v ≤ 65535) && (cdB r.kind r.code.v && (decide (r.tick.toNat ≤ 4611686018427387904) && (bkV (bk r) r && decide (r = usR r))))) := by
  have hhd : hdR r = (decide (0 ≤ r.code.v ∧ r.code.v ≤ 65535) && (cdB r.kind r.code.v && decide (r.tick.toNat ≤ 4611686018427387904))) := by
    unfold hdR cdB
    have u0 : r.kind = 0 ↔ r.kind.toNat = 0 := by rw [← UInt8.toNat_inj]; rfl
    have u16 : r.kind = 16 ↔ r.kind.toNat = 16 := by rw [← UInt8.toNat_inj]; rfl
    have u17 : r.kind = 17 ↔ r.kind.toNat = 17 := by rw [← UInt8.toNat_inj]; rfl
    have u18 : r.kind = 18 ↔ r.kind.toNat = 18 := by rw [← UInt8.toNat_inj]; rfl
    rw [Bool.eq_iff_iff]
    simp only [u0, u16, u17, u18]
    repeat' split
    all_goals
      simp only [Bool.and_eq_true, decide_eq_true_eq]
      omega
  unfold rpV
  rw [hhd]
  by_cases hu : r = usR r
  · rw [decide_eq_true hu, Bool.true_and, Bool.and_true]
    have hf : flR r = bkV (bk r) r := by
      have h2 := usR_bk r
      rw [← hu] at h2
      have hs : bk r = .s ↔ (r.code.v = 0 ∧ r.kind = 3) := by
        unfold bk
        by_cases h0 : r.code.v ≠ 0
        · rw [if_pos h0]; exact ⟨(fun h => nomatch h), fun h => absurd h.1 h0⟩
        rw [if_neg h0]
        by_cases h1 : r.kind = 1 ∨ r.kind = 16
        · rw [if_pos h1]
          refine ⟨(fun h => nomatch h), fun h => ?_⟩
          rw [h.2] at h1
          exact absurd h1 (by decide)
        rw [if_neg h1]
        by_cases h3 : r.kind = 3
        · rw [if_pos h3]; exact ⟨fun _ => ⟨by omega, h3⟩, fun _ => rfl⟩
        rw [if_neg h3]
        refine ⟨fun h => ?_, fun h => absurd h.2 h3⟩
        repeat' split at h
        all_goals cases h
      cases hq : bk r with
      | n =>
        rw [hq] at h2 hs
        have g3 := congrArg Rp.order h2; have g5 := congrArg Rp.done h2; have g6 := congrArg Rp.robots h2; have g7 := congrArg Rp.queued h2; have g9 := congrArg Rp.records h2
        simp only [usK, rpH] at g3 g5 g6 g7 g9
        unfold flR bkV
        rw [g3, g5, g6, g7, g9]
        have : ¬ (r.kind = 3 ∧ r.code.v = 0 ∧ (r.state.toNat < 1 ∨ 5 < r.state.toNat)) := fun h => by have := hs.2 ⟨h.2.1, h.1⟩; cases this
        rw [decide_eq_true this]
        rfl
      | o =>
        rw [hq] at h2 hs
        have g5 := congrArg Rp.done h2; have g6 := congrArg Rp.robots h2; have g7 := congrArg Rp.queued h2; have g9 := congrArg Rp.records h2
        simp only [usK, rpH] at g5 g6 g7 g9
        unfold flR bkV
        rw [g5, g6, g7, g9]
        have : ¬ (r.kind = 3 ∧ r.code.v = 0 ∧ (r.state.toNat < 1 ∨ 5 < r.state.toNat)) := fun h => by have := hs.2 ⟨h.2.1, h.1⟩; cases this
        rw [decide_eq_true this, Bool.eq_iff_iff]
        simp [i64Z]
      | s =>
        have h03 := hs.1 hq
        rw [hq] at h2
        have g3 := congrArg Rp.order h2; have g6 := congrArg Rp.robots h2; have g7 := congrArg Rp.queued h2; have g9 := congrArg Rp.records h2
        simp only [usK, rpH] at g3 g6 g7 g9
        unfold flR bkV
        rw [g3, g6, g7, g9, Bool.eq_iff_iff]
        simp [i64Z, h03.1, h03.2]
        omega
      | w =>
        rw [hq] at h2 hs
        have g3 := congrArg Rp.order h2; have g5 := congrArg Rp.done h2; have g9 := congrArg Rp.records h2
        simp only [usK, rpH] at g3 g5 g9
        unfold flR bkV
        rw [g3, g5, g9]
        have : ¬ (r.kind = 3 ∧ r.code.v = 0 ∧ (r.state.toNat < 1 ∨ 5 < r.state.toNat)) := fun h => by have := hs.2 ⟨h.2.1, h.1⟩; cases this
        rw [decide_eq_true this, Bool.eq_iff_iff]
        simp [i64Z]
        constructor
        · rintro ⟨⟨h1, h2, h3⟩, h4⟩; exact ⟨h1, h4, h2, h3⟩
        · rintro ⟨h1, h4, h2, h3⟩; exact ⟨⟨h1, h2, h3⟩, h4⟩
      | c =>
        rw [hq] at h2 hs
        have g3 := congrArg Rp.order h2; have g5 := congrArg Rp.done h2; have g6 := congrArg Rp.robots h2; have g7 := congrArg Rp.queued h2
        simp only [usK, rpH] at g3 g5 g6 g7
        unfold flR bkV
        rw [g3, g5, g6, g7]
        have : ¬ (r.kind = 3 ∧ r.code.v = 0 ∧ (r.state.toNat < 1 ∨ 5 < r.state.toNat)) := fun h => by have := hs.2 ⟨h.2.1, h.1⟩; cases this
        rw [decide_eq_true this, Bool.eq_iff_iff, chV_iff]
        simp [i64Z]
      | t =>
        rw [hq] at h2 hs
        have g3 := congrArg Rp.order h2; have g5 := congrArg Rp.done h2; have g6 := congrArg Rp.robots h2; have g7 := congrArg Rp.queued h2; have g9 := congrArg Rp.records h2
        simp only [usK, rpH] at g3 g5 g6 g7 g9
        unfold flR bkV
        rw [g3, g5, g6, g7, g9]
        have : ¬ (r.kind = 3 ∧ r.code.v = 0 ∧ (r.state.toNat < 1 ∨ 5 < r.state.toNat)) := fun h => by have := hs.2 ⟨h.2.1, h.1⟩; cases this
        rw [decide_eq_true this]
        rfl
    rw [hf]
    cases decide (0 ≤ r.code.v ∧ r.code.v ≤ 65535) <;> cases cdB r.kind r.code.v <;> cases decide (r.tick.toNat ≤ 4611686018427387904) <;> cases bkV (bk r) r <;> rfl
  · rw [decide_eq_false hu, Bool.false_and, Bool.and_false, Bool.and_false, Bool.and_false, Bool.and_false, Bool.and_false]
theorem Sl.nil0 (w : World) (s : Nat) : Sl w s nilV 0 [] := ⟨by simp, .inl ⟨none, rfl, rfl⟩⟩
def rpE (r : Rp) : Int := if rpV r = true then 0 else 8
set_option maxRecDepth 100000 in
set_option maxHeartbeats 16000000 in
theorem checkReply_s (r : Rp) (vr vc : Value) (w0 : World) (hvr : Sl w0 3 vr r.robots.length (r.robots.flatMap sgtL)) (hvc : Sl w0 35 vc r.records.length (r.records.flatMap rcdL)) :
    Calls Tryd.prog 41 #[.agg (rpL r vr vc).toArray] w0 fun e w' => e = .returned (.int .i64 (rpE r)) ∧ Has w0 w' [] := by
  have S := Has.start w0
  obtain ⟨ar, cr, rfl, _, _⟩ := Sl.shape hvr
  obtain ⟨ac, cc, rfl, _, _⟩ := Sl.shape hvc
  have p1 := fun w => replyBody_s r ar ac r.robots.length cr r.records.length cc w
  have p2 := fun w => in_s r.code.v 65535 w
  have p3 := fun w => coded_s r.kind r.code.v w
  obtain ⟨fv, a4, mv, p4⟩ := bodyValid_s (bk r) r ar ac r.robots.length cr r.records.length cc
  obtain ⟨q, hq⟩ : ∃ q, q = bk r := ⟨_, rfl⟩
  have p5 := fun w => replyOf_s q r r (.slice ar r.robots.length cr) (.slice ac r.records.length cc) rfl rfl ar ac r.robots.length cr r.records.length cc w
  have hU := usR_bk r
  have hE := rpV_eq r
  unfold bodyV at p1
  rw [← hq] at p1 mv p4 hU hE
  rw [← hU] at p5
  obtain ⟨BV, hBV⟩ : ∃ B, B = bodyK q r (.slice ar r.robots.length cr) (.slice ac r.records.length cc) := ⟨_, rfl⟩
  rw [← hBV] at p1 mv p5
  obtain ⟨ur, hur⟩ : ∃ u, u = vrK q (.slice ar r.robots.length cr) := ⟨_, rfl⟩
  obtain ⟨uc, huc⟩ : ∃ u, u = vcK q (.slice ac r.records.length cc) := ⟨_, rfl⟩
  rw [← hur, ← huc] at p5
  have hUR : Sl w0 3 ur (usR r).robots.length ((usR r).robots.flatMap sgtL) := by
    rw [hur, hU]
    cases q
    all_goals first | exact hvr | exact Sl.nil0 _ _
  have hUC : Sl w0 35 uc (usR r).records.length ((usR r).records.flatMap rcdL) := by
    rw [huc, hU]
    cases q
    all_goals first | exact hvc | exact Sl.nil0 _ _
  obtain ⟨h0, h1, h2⟩ := usR_head r
  have p6 := fun w h1' h2' h3' h4' => sameReply_s r (usR r) (.slice ar r.robots.length cr) (.slice ac r.records.length cc) ur uc w h0.symm h1.symm h2.symm h1' h2' h3' h4'
  have d0 := rpL_0 r (.slice ar r.robots.length cr) (.slice ac r.records.length cc)
  have d1 := rpL_1 r (.slice ar r.robots.length cr) (.slice ac r.records.length cc)
  have d2 := rpL_2 r (.slice ar r.robots.length cr) (.slice ac r.records.length cc)
  obtain ⟨vr, hvr'⟩ : ∃ v, v = Value.slice ar r.robots.length cr := ⟨_, rfl⟩
  obtain ⟨vc, hvc'⟩ : ∃ v, v = Value.slice ac r.records.length cc := ⟨_, rfl⟩
  rw [← hvr'] at p1 p4 p5 p6 d0 d1 d2 hvr ⊢
  rw [← hvc'] at p1 p4 p5 p6 d0 d1 d2 hvc ⊢
  have hone : vr.oneCell' = true ∧ vc.oneCell' = true := by rw [hvr', hvc']; exact ⟨rfl, rfl⟩
  have ho1 := rpL_one r vr vc hone.1 hone.2
  obtain ⟨U, hUU⟩ : ∃ U, U = usR r := ⟨_, rfl⟩
  rw [← hUU] at p5 p6 hUR hUC hE
  obtain ⟨k, hk⟩ : ∃ k, k = r.kind := ⟨_, rfl⟩
  obtain ⟨c, hc⟩ : ∃ c, c = r.code := ⟨_, rfl⟩
  obtain ⟨t, ht⟩ : ∃ t, t = r.tick := ⟨_, rfl⟩
  rw [← hk] at p3 d0 hE
  rw [← hc] at p2 p3 d1 hE
  rw [← ht] at d2 hE
  obtain ⟨B1, hB1⟩ : ∃ B, B = decide (0 ≤ c.v ∧ c.v ≤ 65535) := ⟨_, rfl⟩
  obtain ⟨B2, hB2⟩ : ∃ B, B = cdB k c.v := ⟨_, rfl⟩
  obtain ⟨B3, hB3⟩ : ∃ B, B = decide (t.toNat ≤ 4611686018427387904) := ⟨_, rfl⟩
  obtain ⟨B4, hB4⟩ : ∃ B, B = bkV q r := ⟨_, rfl⟩
  obtain ⟨B5, hB5⟩ : ∃ B, B = decide (r = U) := ⟨_, rfl⟩
  rw [← hB1] at p2 hE
  rw [← hB2] at p3 hE
  rw [← hB3] at hE
  rw [← hB4] at p4 hE
  rw [← hB5] at p6 hE
  have hX : ∀ b, rpV r = b → rpE r = if b = true then 0 else 8 := fun b h => by unfold rpE; rw [h]
  have hX := hX _ hE
  obtain ⟨X, hXe⟩ : ∃ X, X = rpE r := ⟨_, rfl⟩
  rw [← hXe] at hX ⊢
  have i3 : (4611686018427387904 < (t.toNat : Int) ∧ B3 = false) ∨ (¬ 4611686018427387904 < (t.toNat : Int) ∧ B3 = true) := by
    rw [hB3]
    simp only [decide_eq_true_eq, decide_eq_false_iff_not]
    omega
  clear hE hXe hB1 hB2 hB3 hB4 hB5 hk hc ht hUU hone hvr' hvc' hur huc hBV hU hq h0 h1 h2
  have P1 := Lib.hid p1; have P2 := Lib.hid p2; have P3 := Lib.hid p3; have P4 := Lib.hid p4; have P5 := Lib.hid p5; have P6 := Lib.hid p6; have MV := Lib.hid mv; have D0 := Lib.hid d0; have D1 := Lib.hid d1; have D2 := Lib.hid d2; have HVR := Lib.hid hvr; have HVC := Lib.hid hvc; have HUR := Lib.hid hUR; have HUC := Lib.hid hUC; have HO1 := Lib.hid ho1; clear p1 p2 p3 p4 p5 p6 mv d0 d1 d2 hvr hvc hUR hUC ho1
  cases B1 with
  | false =>
    obtain rfl : X = 8 := hX
    go_enter Tryd.func41, Tryd.ntmps41
    go_wp2_with (first | ((with_reducible refine iD 1 (.box 79 (.tmp 0)) ?_); refine step_boxA (dst := some 1) S 79 (.tmp 0) _ rfl gw ?_; clear S; intro g1 w S) | ((with_reducible refine iO _ (.load 79 _) ?_); first | (refine step_load S 79 _ _ rfl _ _ _ pk _ Tryd.underlying79 rfl 46 kR lN gw ?_) | (refine step_loadO 79 _ _ rfl _ _ _ (S.old_heap (Hid.out (by assumption))) _ Tryd.underlying79 rfl 46 kR lN gw ?_) | (refine step_loadR 79 _ _ _ rfl _ (S.old_range hy) _ Tryd.underlying79 rfl 46 kR lN _ rfl gw ?_)) | (go_at_call 68; (with_reducible refine (P1.out _).mono ?_); rintro e w1 ⟨rfl, T⟩; replace S := S.call T; clear T; (try simp only [z4, z5] at S)) | fail)
    refine wp_rely S [sv [] (.pointer (some ⟨g1, 1, none⟩)), sv [0] (.int .i64 (iw c)), sv [0, 1] (.bool false), sv [0, 1, 2] (.bool true), sv [0, 1, 2, 3] (.bool true), sv [0, 1, 2, 3, 4] undef, sv [0, 1, 2, 3, 4, 5] undef, sv [0, 1, 2, 3, 4] undef, sv [0, 1, 2, 3, 4, 7] undef, sv [0, 1, 2, 3, 4, 5, 6, 7, 8] undef, sv [0, 1, 2, 3, 4, 5, 6, 7, 8, 9] undef, sv [0, 1, 2, 3, 4, 5, 6, 7, 8, 9, 10] (.bool true), sv [0, 1, 2, 3, 4, 5, 6, 7, 8, 9, 10, 11] (.bool true), sv [0, 1, 2, 3, 4, 5, 6, 7, 8, 9, 10, 11, 12] undef, sv [0, 1, 2, 3, 4, 5, 6, 7, 8, 9, 10, 11, 12, 13] undef, sv [0, 1, 2, 3, 4, 5, 6, 7, 8, 9, 10, 11, 12, 13, 14] undef, sv [0, 1, 2, 3, 4, 5, 6, 7, 8, 9, 10, 11, 12, 13, 14, 15] (.bool true), sv [0, 1, 2, 3, 4, 5, 6, 7, 8, 9, 10, 11, 12, 13, 14, 15, 16] (.bool true), sv [0, 1, 2, 3, 4, 5, 6, 7, 8, 9, 10, 11, 12, 13, 14, 15, 16, 17] undef, sv [0, 1, 2, 3, 4, 5, 6, 7, 8, 9, 10, 11, 12, 13, 14, 15, 16, 17, 18] undef, sv [0, 1, 2, 3, 4, 5, 6, 7, 8, 9, 10, 11, 12, 13, 14, 15, 16, 17, 18, 19] undef, sv [0, 1, 2, 3, 4, 5, 6, 7, 8, 9, 10, 11, 12, 13, 14, 15, 16, 17, 18, 19, 20] (.bool true), sv [0, 1, 2, 3, 4, 5, 6, 7, 8, 9, 10, 11, 12, 13, 14, 15, 16, 17, 18, 19, 20, 21] (.bool true), sv [0, 1, 2, 3, 4, 5, 6, 7, 8, 9, 10, 11, 12, 13, 14, 15, 16, 17, 18, 19, 20, 21, 22] undef, sv [0, 1, 2, 3, 4, 5, 6, 7, 8, 9, 10, 11, 12, 13, 14, 15, 16, 17, 18, 19, 20, 21, 22] undef, sv [0, 1, 2, 3, 4, 5, 6, 7, 8, 9, 10, 11, 12, 13, 14, 15, 16, 17, 18, 19, 20, 21, 22] undef, sv [0, 1, 2, 3, 4, 5, 6, 7, 8, 9, 10, 11, 12, 13, 14, 15, 16, 17, 18, 19, 20, 21, 22, 24, 25] undef, sv [0, 1, 2, 3, 4, 5, 6, 7, 8, 9, 10, 11, 12, 13, 14, 15, 16, 17, 18, 19, 20, 21, 22, 23, 24, 25, 26] undef, sv [0, 1, 2, 3, 4, 5, 6, 7, 8, 9, 10, 11, 12, 13, 14, 15, 16, 17, 18, 19, 20, 21, 22, 23, 24, 25, 26, 27] undef, sv [0, 1, 2, 3, 4, 5, 6, 7, 8, 9, 10, 11, 12, 13, 14, 15, 16, 17, 18, 19, 20, 21, 22, 23, 24, 25, 26, 27, 28] (.bool true)] ?A1 ?hA1 kR kR kR [0, 1, 2, 3, 4, 5, 6, 7, 8, 9, 10, 11, 12, 13, 14, 15, 16, 17, 18, 19, 20, 21, 22, 23, 24, 25, 26, 27, 28, 29] kR ?hok1 ?fin1
    case hA1 => intro u; simp only [putAll, List.length_cons, List.length_nil, Nat.zero_add, Nat.reduceAdd, dstAt, List.getElem?_toArray, List.getElem?_cons_zero, List.getElem?_cons_succ, Option.bind_some, Act.put, List.setIfInBounds_toArray, List.set_cons_zero, List.set_cons_succ]; rfl
    case hok1 =>
      intro i hi
      obtain rfl | rfl | rfl | rfl | rfl | rfl | rfl | rfl | rfl | rfl | rfl | rfl | rfl | rfl | rfl | rfl | rfl | rfl | rfl | rfl | rfl | rfl | rfl | rfl | rfl | rfl | rfl | rfl | rfl | rfl : i = 0 ∨ i = 1 ∨ i = 2 ∨ i = 3 ∨ i = 4 ∨ i = 5 ∨ i = 6 ∨ i = 7 ∨ i = 8 ∨ i = 9 ∨ i = 10 ∨ i = 11 ∨ i = 12 ∨ i = 13 ∨ i = 14 ∨ i = 15 ∨ i = 16 ∨ i = 17 ∨ i = 18 ∨ i = 19 ∨ i = 20 ∨ i = 21 ∨ i = 22 ∨ i = 23 ∨ i = 24 ∨ i = 25 ∨ i = 26 ∨ i = 27 ∨ i = 28 ∨ i = 29 := by simp only [List.length_cons, List.length_nil, Nat.zero_add, Nat.reduceAdd] at hi; omega
      · exact oP []
      · clear hi
        refine step_of rfl rfl rfl ?_
        intro u G w hf S
        have f0 : u 0 = .pointer (some ⟨g1, 1, none⟩) := hf 0 (by simp)
        simp only [fl, z4, z5, z6, z7, ptrBlk] at S ⊢
        simp only [f0]
        refine does_load1 24 (.tmp 6) _ _ rfl (S.cell (g := g1) pk co) _ Tryd.underlying24 rfl ?_; exact ⟨rfl, S⟩
      · clear hi
        refine step_of rfl rfl rfl ?_
        intro u G w hf S
        have f1 : u 1 = .int .i64 (iw c) := hf 1 (by simp)
        simp only [fl, z4, z5, z6, z7, ptrBlk] at S ⊢
        simp only [f1]
        refine does_fn (args := [(.int .i64 (iw c)), (.int .i64 65535)]) Tryd.func71 kR kR (P2.out w) rfl ?_
        rintro e w1 ⟨rfl, T⟩
        exact ⟨_, rfl, rfl, S.call T⟩
      · exact oP [2]
      · exact oP [3]
      · exact oX [4]
      · exact oX [4]
      · exact oX [4]
      · exact oX [4]
      · exact oX [4]
      · exact oX [4]
      · exact oP [4, 10]
      · exact oP [11]
      · exact oX [12]
      · exact oX [12]
      · exact oX [12]
      · exact oP [12, 15]
      · exact oP [16]
      · exact oX [17]
      · exact oX [17]
      · exact oX [17]
      · exact oP [17, 20]
      · exact oP [21]
      · exact oX [22]
      · exact oX [22]
      · exact oX [22]
      · exact oX [22]
      · exact oX [22]
      · exact oX [22]
      · exact oP [22, 28]
    case fin1 =>
      intro u w hf S
      have hvA := allV hf
      simp only [AllV, RSpec.valAt, sv, Nat.zero_add, Nat.reduceAdd] at hvA
      simp only [fl, z4, z5, z6, z7, ptrBlk] at S
      clear hf
      simp only [List.length_cons, List.length_nil, Nat.zero_add, Nat.reduceAdd, List.drop_succ_cons, List.drop_zero, hvA]
      clear hvA
      go_wp2_with (first | fail)
      go_ret
      exact ⟨rfl, S.nil⟩
  | true =>
  cases B2 with
  | false =>
    obtain rfl : X = 8 := hX
    go_enter Tryd.func41, Tryd.ntmps41
    go_wp2_with (first | ((with_reducible refine iD 1 (.box 79 (.tmp 0)) ?_); refine step_boxA (dst := some 1) S 79 (.tmp 0) _ rfl gw ?_; clear S; intro g1 w S) | ((with_reducible refine iO _ (.load 79 _) ?_); first | (refine step_load S 79 _ _ rfl _ _ _ pk _ Tryd.underlying79 rfl 46 kR lN gw ?_) | (refine step_loadO 79 _ _ rfl _ _ _ (S.old_heap (Hid.out (by assumption))) _ Tryd.underlying79 rfl 46 kR lN gw ?_) | (refine step_loadR 79 _ _ _ rfl _ (S.old_range hy) _ Tryd.underlying79 rfl 46 kR lN _ rfl gw ?_)) | (go_at_call 68; (with_reducible refine (P1.out _).mono ?_); rintro e w1 ⟨rfl, T⟩; replace S := S.call T; clear T; (try simp only [z4, z5] at S)) | fail)
    refine wp_rely S [sv [] (.pointer (some ⟨g1, 1, none⟩)), sv [0] (.int .i64 (iw c)), sv [0, 1] (.bool true), sv [0, 1, 2] (.bool false), sv [0, 1, 2, 3] (.bool false), sv [0, 1, 2, 3, 4] (.pointer (some ⟨g1, 0, none⟩)), sv [0, 1, 2, 3, 4, 5] (.int .u8 (k.toNat : Int)), sv [0, 1, 2, 3, 4] (.pointer (some ⟨g1, 1, none⟩)), sv [0, 1, 2, 3, 4, 7] (.int .i64 (iw c)), sv [0, 1, 2, 3, 4, 5, 6, 7, 8] (.bool false), sv [0, 1, 2, 3, 4, 5, 6, 7, 8, 9] (.bool true), sv [0, 1, 2, 3, 4, 5, 6, 7, 8, 9, 10] (.bool true), sv [0, 1, 2, 3, 4, 5, 6, 7, 8, 9, 10, 11] (.bool true), sv [0, 1, 2, 3, 4, 5, 6, 7, 8, 9, 10, 11, 12] undef, sv [0, 1, 2, 3, 4, 5, 6, 7, 8, 9, 10, 11, 12, 13] undef, sv [0, 1, 2, 3, 4, 5, 6, 7, 8, 9, 10, 11, 12, 13, 14] undef, sv [0, 1, 2, 3, 4, 5, 6, 7, 8, 9, 10, 11, 12, 13, 14, 15] (.bool true), sv [0, 1, 2, 3, 4, 5, 6, 7, 8, 9, 10, 11, 12, 13, 14, 15, 16] (.bool true), sv [0, 1, 2, 3, 4, 5, 6, 7, 8, 9, 10, 11, 12, 13, 14, 15, 16, 17] undef, sv [0, 1, 2, 3, 4, 5, 6, 7, 8, 9, 10, 11, 12, 13, 14, 15, 16, 17, 18] undef, sv [0, 1, 2, 3, 4, 5, 6, 7, 8, 9, 10, 11, 12, 13, 14, 15, 16, 17, 18, 19] undef, sv [0, 1, 2, 3, 4, 5, 6, 7, 8, 9, 10, 11, 12, 13, 14, 15, 16, 17, 18, 19, 20] (.bool true), sv [0, 1, 2, 3, 4, 5, 6, 7, 8, 9, 10, 11, 12, 13, 14, 15, 16, 17, 18, 19, 20, 21] (.bool true), sv [0, 1, 2, 3, 4, 5, 6, 7, 8, 9, 10, 11, 12, 13, 14, 15, 16, 17, 18, 19, 20, 21, 22] undef, sv [0, 1, 2, 3, 4, 5, 6, 7, 8, 9, 10, 11, 12, 13, 14, 15, 16, 17, 18, 19, 20, 21, 22] undef, sv [0, 1, 2, 3, 4, 5, 6, 7, 8, 9, 10, 11, 12, 13, 14, 15, 16, 17, 18, 19, 20, 21, 22] undef, sv [0, 1, 2, 3, 4, 5, 6, 7, 8, 9, 10, 11, 12, 13, 14, 15, 16, 17, 18, 19, 20, 21, 22, 24, 25] undef, sv [0, 1, 2, 3, 4, 5, 6, 7, 8, 9, 10, 11, 12, 13, 14, 15, 16, 17, 18, 19, 20, 21, 22, 23, 24, 25, 26] undef, sv [0, 1, 2, 3, 4, 5, 6, 7, 8, 9, 10, 11, 12, 13, 14, 15, 16, 17, 18, 19, 20, 21, 22, 23, 24, 25, 26, 27] undef, sv [0, 1, 2, 3, 4, 5, 6, 7, 8, 9, 10, 11, 12, 13, 14, 15, 16, 17, 18, 19, 20, 21, 22, 23, 24, 25, 26, 27, 28] (.bool true)] ?A2 ?hA2 kR kR kR [0, 1, 2, 3, 4, 5, 6, 7, 8, 9, 10, 11, 12, 13, 14, 15, 16, 17, 18, 19, 20, 21, 22, 23, 24, 25, 26, 27, 28, 29] kR ?hok2 ?fin2
    case hA2 => intro u; simp only [putAll, List.length_cons, List.length_nil, Nat.zero_add, Nat.reduceAdd, dstAt, List.getElem?_toArray, List.getElem?_cons_zero, List.getElem?_cons_succ, Option.bind_some, Act.put, List.setIfInBounds_toArray, List.set_cons_zero, List.set_cons_succ]; rfl
    case hok2 =>
      intro i hi
      obtain rfl | rfl | rfl | rfl | rfl | rfl | rfl | rfl | rfl | rfl | rfl | rfl | rfl | rfl | rfl | rfl | rfl | rfl | rfl | rfl | rfl | rfl | rfl | rfl | rfl | rfl | rfl | rfl | rfl | rfl : i = 0 ∨ i = 1 ∨ i = 2 ∨ i = 3 ∨ i = 4 ∨ i = 5 ∨ i = 6 ∨ i = 7 ∨ i = 8 ∨ i = 9 ∨ i = 10 ∨ i = 11 ∨ i = 12 ∨ i = 13 ∨ i = 14 ∨ i = 15 ∨ i = 16 ∨ i = 17 ∨ i = 18 ∨ i = 19 ∨ i = 20 ∨ i = 21 ∨ i = 22 ∨ i = 23 ∨ i = 24 ∨ i = 25 ∨ i = 26 ∨ i = 27 ∨ i = 28 ∨ i = 29 := by simp only [List.length_cons, List.length_nil, Nat.zero_add, Nat.reduceAdd] at hi; omega
      · exact oP []
      · clear hi
        refine step_of rfl rfl rfl ?_
        intro u G w hf S
        have f0 : u 0 = .pointer (some ⟨g1, 1, none⟩) := hf 0 (by simp)
        simp only [fl, z4, z5, z6, z7, ptrBlk] at S ⊢
        simp only [f0]
        refine does_load1 24 (.tmp 6) _ _ rfl (S.cell (g := g1) pk co) _ Tryd.underlying24 rfl ?_; exact ⟨rfl, S⟩
      · clear hi
        refine step_of rfl rfl rfl ?_
        intro u G w hf S
        have f1 : u 1 = .int .i64 (iw c) := hf 1 (by simp)
        simp only [fl, z4, z5, z6, z7, ptrBlk] at S ⊢
        simp only [f1]
        refine does_fn (args := [(.int .i64 (iw c)), (.int .i64 65535)]) Tryd.func71 kR kR (P2.out w) rfl ?_
        rintro e w1 ⟨rfl, T⟩
        exact ⟨_, rfl, rfl, S.call T⟩
      · exact oP [2]
      · exact oP [3]
      · exact oG [4]
      · clear hi
        refine step_of_g rfl rfl ?_
        intro u G w hf S
        have f4 : u 4 = (.bool false) := hf 4 (by simp)
        have f5 : u 5 = .pointer (some ⟨g1, 0, none⟩) := hf 5 (by simp)
        simp only [fl, z4, z5, z6, z7, ptrBlk] at S ⊢
        simp only [f4, f5]
        refine ⟨rfl, ?_⟩
        refine does_load1 5 (.tmp 11) _ _ rfl (S.cell (g := g1) pk co) _ Tryd.underlying5 rfl ?_; exact ⟨rfl, S⟩
      · exact oG [4]
      · clear hi
        refine step_of_g rfl rfl ?_
        intro u G w hf S
        have f4 : u 4 = (.bool false) := hf 4 (by simp)
        have f7 : u 7 = .pointer (some ⟨g1, 1, none⟩) := hf 7 (by simp)
        simp only [fl, z4, z5, z6, z7, ptrBlk] at S ⊢
        simp only [f4, f7]
        refine ⟨rfl, ?_⟩
        refine does_load1 24 (.tmp 13) _ _ rfl (S.cell (g := g1) pk co) _ Tryd.underlying24 rfl ?_; exact ⟨rfl, S⟩
      · clear hi
        refine step_of_g rfl rfl ?_
        intro u G w hf S
        have f4 : u 4 = (.bool false) := hf 4 (by simp)
        have f6 : u 6 = .int .u8 (k.toNat : Int) := hf 6 (by simp)
        have f8 : u 8 = .int .i64 (iw c) := hf 8 (by simp)
        simp only [fl, z4, z5, z6, z7, ptrBlk] at S ⊢
        simp only [f4, f6, f8]
        refine ⟨rfl, ?_⟩
        refine does_fn (args := [(.int .u8 (k.toNat : Int)), (.int .i64 (iw c))]) Tryd.func72 kR kR (P3.out w) rfl ?_
        rintro e w1 ⟨rfl, T⟩
        exact ⟨_, rfl, rfl, S.call T⟩
      · exact oG [4, 9]
      · exact oP [4, 10]
      · exact oP [11]
      · exact oX [12]
      · exact oX [12]
      · exact oX [12]
      · exact oP [12, 15]
      · exact oP [16]
      · exact oX [17]
      · exact oX [17]
      · exact oX [17]
      · exact oP [17, 20]
      · exact oP [21]
      · exact oX [22]
      · exact oX [22]
      · exact oX [22]
      · exact oX [22]
      · exact oX [22]
      · exact oX [22]
      · exact oP [22, 28]
    case fin2 =>
      intro u w hf S
      have hvA := allV hf
      simp only [AllV, RSpec.valAt, sv, Nat.zero_add, Nat.reduceAdd] at hvA
      simp only [fl, z4, z5, z6, z7, ptrBlk] at S
      clear hf
      simp only [List.length_cons, List.length_nil, Nat.zero_add, Nat.reduceAdd, List.drop_succ_cons, List.drop_zero, hvA]
      clear hvA
      go_wp2_with (first | fail)
      go_ret
      exact ⟨rfl, S.nil⟩
  | true =>
  rcases i3 with ⟨j3, rfl⟩ | ⟨j3, rfl⟩
  · obtain rfl : X = 8 := hX
    go_enter Tryd.func41, Tryd.ntmps41
    go_wp2_with (first | ((with_reducible refine iD 1 (.box 79 (.tmp 0)) ?_); refine step_boxA (dst := some 1) S 79 (.tmp 0) _ rfl gw ?_; clear S; intro g1 w S) | ((with_reducible refine iO _ (.load 79 _) ?_); first | (refine step_load S 79 _ _ rfl _ _ _ pk _ Tryd.underlying79 rfl 46 kR lN gw ?_) | (refine step_loadO 79 _ _ rfl _ _ _ (S.old_heap (Hid.out (by assumption))) _ Tryd.underlying79 rfl 46 kR lN gw ?_) | (refine step_loadR 79 _ _ _ rfl _ (S.old_range hy) _ Tryd.underlying79 rfl 46 kR lN _ rfl gw ?_)) | (go_at_call 68; (with_reducible refine (P1.out _).mono ?_); rintro e w1 ⟨rfl, T⟩; replace S := S.call T; clear T; (try simp only [z4, z5] at S)) | fail)
    refine wp_rely S [sv [] (.pointer (some ⟨g1, 1, none⟩)), sv [0] (.int .i64 (iw c)), sv [0, 1] (.bool true), sv [0, 1, 2] (.bool false), sv [0, 1, 2, 3] (.bool false), sv [0, 1, 2, 3, 4] (.pointer (some ⟨g1, 0, none⟩)), sv [0, 1, 2, 3, 4, 5] (.int .u8 (k.toNat : Int)), sv [0, 1, 2, 3, 4] (.pointer (some ⟨g1, 1, none⟩)), sv [0, 1, 2, 3, 4, 7] (.int .i64 (iw c)), sv [0, 1, 2, 3, 4, 5, 6, 7, 8] (.bool true), sv [0, 1, 2, 3, 4, 5, 6, 7, 8, 9] (.bool false), sv [0, 1, 2, 3, 4, 5, 6, 7, 8, 9, 10] (.bool false), sv [0, 1, 2, 3, 4, 5, 6, 7, 8, 9, 10, 11] (.bool false), sv [0, 1, 2, 3, 4, 5, 6, 7, 8, 9, 10, 11, 12] (.pointer (some ⟨g1, 2, none⟩)), sv [0, 1, 2, 3, 4, 5, 6, 7, 8, 9, 10, 11, 12, 13] (.int .u64 (t.toNat : Int)), sv [0, 1, 2, 3, 4, 5, 6, 7, 8, 9, 10, 11, 12, 13, 14] (.bool true), sv [0, 1, 2, 3, 4, 5, 6, 7, 8, 9, 10, 11, 12, 13, 14, 15] (.bool true), sv [0, 1, 2, 3, 4, 5, 6, 7, 8, 9, 10, 11, 12, 13, 14, 15, 16] (.bool true), sv [0, 1, 2, 3, 4, 5, 6, 7, 8, 9, 10, 11, 12, 13, 14, 15, 16, 17] undef, sv [0, 1, 2, 3, 4, 5, 6, 7, 8, 9, 10, 11, 12, 13, 14, 15, 16, 17, 18] undef, sv [0, 1, 2, 3, 4, 5, 6, 7, 8, 9, 10, 11, 12, 13, 14, 15, 16, 17, 18, 19] undef, sv [0, 1, 2, 3, 4, 5, 6, 7, 8, 9, 10, 11, 12, 13, 14, 15, 16, 17, 18, 19, 20] (.bool true), sv [0, 1, 2, 3, 4, 5, 6, 7, 8, 9, 10, 11, 12, 13, 14, 15, 16, 17, 18, 19, 20, 21] (.bool true), sv [0, 1, 2, 3, 4, 5, 6, 7, 8, 9, 10, 11, 12, 13, 14, 15, 16, 17, 18, 19, 20, 21, 22] undef, sv [0, 1, 2, 3, 4, 5, 6, 7, 8, 9, 10, 11, 12, 13, 14, 15, 16, 17, 18, 19, 20, 21, 22] undef, sv [0, 1, 2, 3, 4, 5, 6, 7, 8, 9, 10, 11, 12, 13, 14, 15, 16, 17, 18, 19, 20, 21, 22] undef, sv [0, 1, 2, 3, 4, 5, 6, 7, 8, 9, 10, 11, 12, 13, 14, 15, 16, 17, 18, 19, 20, 21, 22, 24, 25] undef, sv [0, 1, 2, 3, 4, 5, 6, 7, 8, 9, 10, 11, 12, 13, 14, 15, 16, 17, 18, 19, 20, 21, 22, 23, 24, 25, 26] undef, sv [0, 1, 2, 3, 4, 5, 6, 7, 8, 9, 10, 11, 12, 13, 14, 15, 16, 17, 18, 19, 20, 21, 22, 23, 24, 25, 26, 27] undef, sv [0, 1, 2, 3, 4, 5, 6, 7, 8, 9, 10, 11, 12, 13, 14, 15, 16, 17, 18, 19, 20, 21, 22, 23, 24, 25, 26, 27, 28] (.bool true)] ?A3 ?hA3 kR kR kR [0, 1, 2, 3, 4, 5, 6, 7, 8, 9, 10, 11, 12, 13, 14, 15, 16, 17, 18, 19, 20, 21, 22, 23, 24, 25, 26, 27, 28, 29] kR ?hok3 ?fin3
    case hA3 => intro u; simp only [putAll, List.length_cons, List.length_nil, Nat.zero_add, Nat.reduceAdd, dstAt, List.getElem?_toArray, List.getElem?_cons_zero, List.getElem?_cons_succ, Option.bind_some, Act.put, List.setIfInBounds_toArray, List.set_cons_zero, List.set_cons_succ]; rfl
    case hok3 =>
      intro i hi
      obtain rfl | rfl | rfl | rfl | rfl | rfl | rfl | rfl | rfl | rfl | rfl | rfl | rfl | rfl | rfl | rfl | rfl | rfl | rfl | rfl | rfl | rfl | rfl | rfl | rfl | rfl | rfl | rfl | rfl | rfl : i = 0 ∨ i = 1 ∨ i = 2 ∨ i = 3 ∨ i = 4 ∨ i = 5 ∨ i = 6 ∨ i = 7 ∨ i = 8 ∨ i = 9 ∨ i = 10 ∨ i = 11 ∨ i = 12 ∨ i = 13 ∨ i = 14 ∨ i = 15 ∨ i = 16 ∨ i = 17 ∨ i = 18 ∨ i = 19 ∨ i = 20 ∨ i = 21 ∨ i = 22 ∨ i = 23 ∨ i = 24 ∨ i = 25 ∨ i = 26 ∨ i = 27 ∨ i = 28 ∨ i = 29 := by simp only [List.length_cons, List.length_nil, Nat.zero_add, Nat.reduceAdd] at hi; omega
      · exact oP []
      · clear hi
        refine step_of rfl rfl rfl ?_
        intro u G w hf S
        have f0 : u 0 = .pointer (some ⟨g1, 1, none⟩) := hf 0 (by simp)
        simp only [fl, z4, z5, z6, z7, ptrBlk] at S ⊢
        simp only [f0]
        refine does_load1 24 (.tmp 6) _ _ rfl (S.cell (g := g1) pk co) _ Tryd.underlying24 rfl ?_; exact ⟨rfl, S⟩
      · clear hi
        refine step_of rfl rfl rfl ?_
        intro u G w hf S
        have f1 : u 1 = .int .i64 (iw c) := hf 1 (by simp)
        simp only [fl, z4, z5, z6, z7, ptrBlk] at S ⊢
        simp only [f1]
        refine does_fn (args := [(.int .i64 (iw c)), (.int .i64 65535)]) Tryd.func71 kR kR (P2.out w) rfl ?_
        rintro e w1 ⟨rfl, T⟩
        exact ⟨_, rfl, rfl, S.call T⟩
      · exact oP [2]
      · exact oP [3]
      · exact oG [4]
      · clear hi
        refine step_of_g rfl rfl ?_
        intro u G w hf S
        have f4 : u 4 = (.bool false) := hf 4 (by simp)
        have f5 : u 5 = .pointer (some ⟨g1, 0, none⟩) := hf 5 (by simp)
        simp only [fl, z4, z5, z6, z7, ptrBlk] at S ⊢
        simp only [f4, f5]
        refine ⟨rfl, ?_⟩
        refine does_load1 5 (.tmp 11) _ _ rfl (S.cell (g := g1) pk co) _ Tryd.underlying5 rfl ?_; exact ⟨rfl, S⟩
      · exact oG [4]
      · clear hi
        refine step_of_g rfl rfl ?_
        intro u G w hf S
        have f4 : u 4 = (.bool false) := hf 4 (by simp)
        have f7 : u 7 = .pointer (some ⟨g1, 1, none⟩) := hf 7 (by simp)
        simp only [fl, z4, z5, z6, z7, ptrBlk] at S ⊢
        simp only [f4, f7]
        refine ⟨rfl, ?_⟩
        refine does_load1 24 (.tmp 13) _ _ rfl (S.cell (g := g1) pk co) _ Tryd.underlying24 rfl ?_; exact ⟨rfl, S⟩
      · clear hi
        refine step_of_g rfl rfl ?_
        intro u G w hf S
        have f4 : u 4 = (.bool false) := hf 4 (by simp)
        have f6 : u 6 = .int .u8 (k.toNat : Int) := hf 6 (by simp)
        have f8 : u 8 = .int .i64 (iw c) := hf 8 (by simp)
        simp only [fl, z4, z5, z6, z7, ptrBlk] at S ⊢
        simp only [f4, f6, f8]
        refine ⟨rfl, ?_⟩
        refine does_fn (args := [(.int .u8 (k.toNat : Int)), (.int .i64 (iw c))]) Tryd.func72 kR kR (P3.out w) rfl ?_
        rintro e w1 ⟨rfl, T⟩
        exact ⟨_, rfl, rfl, S.call T⟩
      · exact oG [4, 9]
      · exact oP [4, 10]
      · exact oP [11]
      · exact oG [12]
      · clear hi
        refine step_of_g rfl rfl ?_
        intro u G w hf S
        have f12 : u 12 = (.bool false) := hf 12 (by simp)
        have f13 : u 13 = .pointer (some ⟨g1, 2, none⟩) := hf 13 (by simp)
        simp only [fl, z4, z5, z6, z7, ptrBlk] at S ⊢
        simp only [f12, f13]
        refine ⟨rfl, ?_⟩
        refine does_load1 23 (.tmp 19) _ _ rfl (S.cell (g := g1) pk co) _ Tryd.underlying23 rfl ?_; exact ⟨rfl, S⟩
      · exact oG [12, 14]
      · exact oP [12, 15]
      · exact oP [16]
      · exact oX [17]
      · exact oX [17]
      · exact oX [17]
      · exact oP [17, 20]
      · exact oP [21]
      · exact oX [22]
      · exact oX [22]
      · exact oX [22]
      · exact oX [22]
      · exact oX [22]
      · exact oX [22]
      · exact oP [22, 28]
    case fin3 =>
      intro u w hf S
      have hvA := allV hf
      simp only [AllV, RSpec.valAt, sv, Nat.zero_add, Nat.reduceAdd] at hvA
      simp only [fl, z4, z5, z6, z7, ptrBlk] at S
      clear hf
      simp only [List.length_cons, List.length_nil, Nat.zero_add, Nat.reduceAdd, List.drop_succ_cons, List.drop_zero, hvA]
      clear hvA
      go_wp2_with (first | fail)
      go_ret
      exact ⟨rfl, S.nil⟩
  cases B4 with
  | false =>
    obtain rfl : X = 8 := hX
    go_enter Tryd.func41, Tryd.ntmps41
    go_wp2_with (first | ((with_reducible refine iD 1 (.box 79 (.tmp 0)) ?_); refine step_boxA (dst := some 1) S 79 (.tmp 0) _ rfl gw ?_; clear S; intro g1 w S) | ((with_reducible refine iO _ (.load 79 _) ?_); first | (refine step_load S 79 _ _ rfl _ _ _ pk _ Tryd.underlying79 rfl 46 kR lN gw ?_) | (refine step_loadO 79 _ _ rfl _ _ _ (S.old_heap (Hid.out (by assumption))) _ Tryd.underlying79 rfl 46 kR lN gw ?_) | (refine step_loadR 79 _ _ _ rfl _ (S.old_range hy) _ Tryd.underlying79 rfl 46 kR lN _ rfl gw ?_)) | (go_at_call 68; (with_reducible refine (P1.out _).mono ?_); rintro e w1 ⟨rfl, T⟩; replace S := S.call T; clear T; (try simp only [z4, z5] at S)) | fail)
    refine wp_rely S [sv [] (.pointer (some ⟨g1, 1, none⟩)), sv [0] (.int .i64 (iw c)), sv [0, 1] (.bool true), sv [0, 1, 2] (.bool false), sv [0, 1, 2, 3] (.bool false), sv [0, 1, 2, 3, 4] (.pointer (some ⟨g1, 0, none⟩)), sv [0, 1, 2, 3, 4, 5] (.int .u8 (k.toNat : Int)), sv [0, 1, 2, 3, 4] (.pointer (some ⟨g1, 1, none⟩)), sv [0, 1, 2, 3, 4, 7] (.int .i64 (iw c)), sv [0, 1, 2, 3, 4, 5, 6, 7, 8] (.bool true), sv [0, 1, 2, 3, 4, 5, 6, 7, 8, 9] (.bool false), sv [0, 1, 2, 3, 4, 5, 6, 7, 8, 9, 10] (.bool false), sv [0, 1, 2, 3, 4, 5, 6, 7, 8, 9, 10, 11] (.bool false), sv [0, 1, 2, 3, 4, 5, 6, 7, 8, 9, 10, 11, 12] (.pointer (some ⟨g1, 2, none⟩)), sv [0, 1, 2, 3, 4, 5, 6, 7, 8, 9, 10, 11, 12, 13] (.int .u64 (t.toNat : Int)), sv [0, 1, 2, 3, 4, 5, 6, 7, 8, 9, 10, 11, 12, 13, 14] (.bool false), sv [0, 1, 2, 3, 4, 5, 6, 7, 8, 9, 10, 11, 12, 13, 14, 15] (.bool false), sv [0, 1, 2, 3, 4, 5, 6, 7, 8, 9, 10, 11, 12, 13, 14, 15, 16] (.bool false), sv [0, 1, 2, 3, 4, 5, 6, 7, 8, 9, 10, 11, 12, 13, 14, 15, 16, 17] (BV), sv [0, 1, 2, 3, 4, 5, 6, 7, 8, 9, 10, 11, 12, 13, 14, 15, 16, 17, 18] (.bool false), sv [0, 1, 2, 3, 4, 5, 6, 7, 8, 9, 10, 11, 12, 13, 14, 15, 16, 17, 18, 19] (.bool true), sv [0, 1, 2, 3, 4, 5, 6, 7, 8, 9, 10, 11, 12, 13, 14, 15, 16, 17, 18, 19, 20] (.bool true), sv [0, 1, 2, 3, 4, 5, 6, 7, 8, 9, 10, 11, 12, 13, 14, 15, 16, 17, 18, 19, 20, 21] (.bool true), sv [0, 1, 2, 3, 4, 5, 6, 7, 8, 9, 10, 11, 12, 13, 14, 15, 16, 17, 18, 19, 20, 21, 22] undef, sv [0, 1, 2, 3, 4, 5, 6, 7, 8, 9, 10, 11, 12, 13, 14, 15, 16, 17, 18, 19, 20, 21, 22] undef, sv [0, 1, 2, 3, 4, 5, 6, 7, 8, 9, 10, 11, 12, 13, 14, 15, 16, 17, 18, 19, 20, 21, 22] undef, sv [0, 1, 2, 3, 4, 5, 6, 7, 8, 9, 10, 11, 12, 13, 14, 15, 16, 17, 18, 19, 20, 21, 22, 24, 25] undef, sv [0, 1, 2, 3, 4, 5, 6, 7, 8, 9, 10, 11, 12, 13, 14, 15, 16, 17, 18, 19, 20, 21, 22, 23, 24, 25, 26] undef, sv [0, 1, 2, 3, 4, 5, 6, 7, 8, 9, 10, 11, 12, 13, 14, 15, 16, 17, 18, 19, 20, 21, 22, 23, 24, 25, 26, 27] undef, sv [0, 1, 2, 3, 4, 5, 6, 7, 8, 9, 10, 11, 12, 13, 14, 15, 16, 17, 18, 19, 20, 21, 22, 23, 24, 25, 26, 27, 28] (.bool true)] ?A4 ?hA4 kR kR kR [0, 1, 2, 3, 4, 5, 6, 7, 8, 9, 10, 11, 12, 13, 14, 15, 16, 17, 18, 19, 20, 21, 22, 23, 24, 25, 26, 27, 28, 29] kR ?hok4 ?fin4
    case hA4 => intro u; simp only [putAll, List.length_cons, List.length_nil, Nat.zero_add, Nat.reduceAdd, dstAt, List.getElem?_toArray, List.getElem?_cons_zero, List.getElem?_cons_succ, Option.bind_some, Act.put, List.setIfInBounds_toArray, List.set_cons_zero, List.set_cons_succ]; rfl
    case hok4 =>
      intro i hi
      obtain rfl | rfl | rfl | rfl | rfl | rfl | rfl | rfl | rfl | rfl | rfl | rfl | rfl | rfl | rfl | rfl | rfl | rfl | rfl | rfl | rfl | rfl | rfl | rfl | rfl | rfl | rfl | rfl | rfl | rfl : i = 0 ∨ i = 1 ∨ i = 2 ∨ i = 3 ∨ i = 4 ∨ i = 5 ∨ i = 6 ∨ i = 7 ∨ i = 8 ∨ i = 9 ∨ i = 10 ∨ i = 11 ∨ i = 12 ∨ i = 13 ∨ i = 14 ∨ i = 15 ∨ i = 16 ∨ i = 17 ∨ i = 18 ∨ i = 19 ∨ i = 20 ∨ i = 21 ∨ i = 22 ∨ i = 23 ∨ i = 24 ∨ i = 25 ∨ i = 26 ∨ i = 27 ∨ i = 28 ∨ i = 29 := by simp only [List.length_cons, List.length_nil, Nat.zero_add, Nat.reduceAdd] at hi; omega
      · exact oP []
      · clear hi
        refine step_of rfl rfl rfl ?_
        intro u G w hf S
        have f0 : u 0 = .pointer (some ⟨g1, 1, none⟩) := hf 0 (by simp)
        simp only [fl, z4, z5, z6, z7, ptrBlk] at S ⊢
        simp only [f0]
        refine does_load1 24 (.tmp 6) _ _ rfl (S.cell (g := g1) pk co) _ Tryd.underlying24 rfl ?_; exact ⟨rfl, S⟩
      · clear hi
        refine step_of rfl rfl rfl ?_
        intro u G w hf S
        have f1 : u 1 = .int .i64 (iw c) := hf 1 (by simp)
        simp only [fl, z4, z5, z6, z7, ptrBlk] at S ⊢
        simp only [f1]
        refine does_fn (args := [(.int .i64 (iw c)), (.int .i64 65535)]) Tryd.func71 kR kR (P2.out w) rfl ?_
        rintro e w1 ⟨rfl, T⟩
        exact ⟨_, rfl, rfl, S.call T⟩
      · exact oP [2]
      · exact oP [3]
      · exact oG [4]
      · clear hi
        refine step_of_g rfl rfl ?_
        intro u G w hf S
        have f4 : u 4 = (.bool false) := hf 4 (by simp)
        have f5 : u 5 = .pointer (some ⟨g1, 0, none⟩) := hf 5 (by simp)
        simp only [fl, z4, z5, z6, z7, ptrBlk] at S ⊢
        simp only [f4, f5]
        refine ⟨rfl, ?_⟩
        refine does_load1 5 (.tmp 11) _ _ rfl (S.cell (g := g1) pk co) _ Tryd.underlying5 rfl ?_; exact ⟨rfl, S⟩
      · exact oG [4]
      · clear hi
        refine step_of_g rfl rfl ?_
        intro u G w hf S
        have f4 : u 4 = (.bool false) := hf 4 (by simp)
        have f7 : u 7 = .pointer (some ⟨g1, 1, none⟩) := hf 7 (by simp)
        simp only [fl, z4, z5, z6, z7, ptrBlk] at S ⊢
        simp only [f4, f7]
        refine ⟨rfl, ?_⟩
        refine does_load1 24 (.tmp 13) _ _ rfl (S.cell (g := g1) pk co) _ Tryd.underlying24 rfl ?_; exact ⟨rfl, S⟩
      · clear hi
        refine step_of_g rfl rfl ?_
        intro u G w hf S
        have f4 : u 4 = (.bool false) := hf 4 (by simp)
        have f6 : u 6 = .int .u8 (k.toNat : Int) := hf 6 (by simp)
        have f8 : u 8 = .int .i64 (iw c) := hf 8 (by simp)
        simp only [fl, z4, z5, z6, z7, ptrBlk] at S ⊢
        simp only [f4, f6, f8]
        refine ⟨rfl, ?_⟩
        refine does_fn (args := [(.int .u8 (k.toNat : Int)), (.int .i64 (iw c))]) Tryd.func72 kR kR (P3.out w) rfl ?_
        rintro e w1 ⟨rfl, T⟩
        exact ⟨_, rfl, rfl, S.call T⟩
      · exact oG [4, 9]
      · exact oP [4, 10]
      · exact oP [11]
      · exact oG [12]
      · clear hi
        refine step_of_g rfl rfl ?_
        intro u G w hf S
        have f12 : u 12 = (.bool false) := hf 12 (by simp)
        have f13 : u 13 = .pointer (some ⟨g1, 2, none⟩) := hf 13 (by simp)
        simp only [fl, z4, z5, z6, z7, ptrBlk] at S ⊢
        simp only [f12, f13]
        refine ⟨rfl, ?_⟩
        refine does_load1 23 (.tmp 19) _ _ rfl (S.cell (g := g1) pk co) _ Tryd.underlying23 rfl ?_; exact ⟨rfl, S⟩
      · exact oG [12, 14]
      · exact oP [12, 15]
      · exact oP [16]
      · exact oG [17]
      · clear hi
        refine step_of_g rfl rfl ?_
        intro u G w hf S
        have f17 : u 17 = (.bool false) := hf 17 (by simp)
        have f18 : u 18 = (BV) := hf 18 (by simp)
        simp only [fl, z4, z5, z6, z7, ptrBlk] at S ⊢
        simp only [f17, f18]
        refine ⟨rfl, ?_⟩
        refine does_inv (.tmp 24) "dunnage/wire.valid" [] _ _ [] fv _ rfl rfl (MV.out w) (P4.out w (S.old HVR.out) (S.old HVC.out)) ?_; rintro e w1 ⟨rfl, T⟩; exact ⟨_, rfl, rfl, S.call T⟩
      · exact oG [17, 19]
      · exact oP [17, 20]
      · exact oP [21]
      · exact oX [22]
      · exact oX [22]
      · exact oX [22]
      · exact oX [22]
      · exact oX [22]
      · exact oX [22]
      · exact oP [22, 28]
    case fin4 =>
      intro u w hf S
      have hvA := allV hf
      simp only [AllV, RSpec.valAt, sv, Nat.zero_add, Nat.reduceAdd] at hvA
      simp only [fl, z4, z5, z6, z7, ptrBlk] at S
      clear hf
      simp only [List.length_cons, List.length_nil, Nat.zero_add, Nat.reduceAdd, List.drop_succ_cons, List.drop_zero, hvA]
      clear hvA
      go_wp2_with (first | fail)
      go_ret
      exact ⟨rfl, S.nil⟩
  | true =>
    have HX := Lib.hid hX
    clear hX
    go_enter Tryd.func41, Tryd.ntmps41
    go_wp2_with (first | ((with_reducible refine iD 1 (.box 79 (.tmp 0)) ?_); refine step_boxA (dst := some 1) S 79 (.tmp 0) _ rfl gw ?_; clear S; intro g1 w S) | ((with_reducible refine iO _ (.load 79 _) ?_); first | (refine step_load S 79 _ _ rfl _ _ _ pk _ Tryd.underlying79 rfl 46 kR lN gw ?_) | (refine step_loadO 79 _ _ rfl _ _ _ (S.old_heap (Hid.out (by assumption))) _ Tryd.underlying79 rfl 46 kR lN gw ?_) | (refine step_loadR 79 _ _ _ rfl _ (S.old_range hy) _ Tryd.underlying79 rfl 46 kR lN _ rfl gw ?_)) | (go_at_call 68; (with_reducible refine (P1.out _).mono ?_); rintro e w1 ⟨rfl, T⟩; replace S := S.call T; clear T; (try simp only [z4, z5] at S)) | fail)
    refine wp_rely S [sv [] (.pointer (some ⟨g1, 1, none⟩)), sv [0] (.int .i64 (iw c)), sv [0, 1] (.bool true), sv [0, 1, 2] (.bool false), sv [0, 1, 2, 3] (.bool false), sv [0, 1, 2, 3, 4] (.pointer (some ⟨g1, 0, none⟩)), sv [0, 1, 2, 3, 4, 5] (.int .u8 (k.toNat : Int)), sv [0, 1, 2, 3, 4] (.pointer (some ⟨g1, 1, none⟩)), sv [0, 1, 2, 3, 4, 7] (.int .i64 (iw c)), sv [0, 1, 2, 3, 4, 5, 6, 7, 8] (.bool true), sv [0, 1, 2, 3, 4, 5, 6, 7, 8, 9] (.bool false), sv [0, 1, 2, 3, 4, 5, 6, 7, 8, 9, 10] (.bool false), sv [0, 1, 2, 3, 4, 5, 6, 7, 8, 9, 10, 11] (.bool false), sv [0, 1, 2, 3, 4, 5, 6, 7, 8, 9, 10, 11, 12] (.pointer (some ⟨g1, 2, none⟩)), sv [0, 1, 2, 3, 4, 5, 6, 7, 8, 9, 10, 11, 12, 13] (.int .u64 (t.toNat : Int)), sv [0, 1, 2, 3, 4, 5, 6, 7, 8, 9, 10, 11, 12, 13, 14] (.bool false), sv [0, 1, 2, 3, 4, 5, 6, 7, 8, 9, 10, 11, 12, 13, 14, 15] (.bool false), sv [0, 1, 2, 3, 4, 5, 6, 7, 8, 9, 10, 11, 12, 13, 14, 15, 16] (.bool false), sv [0, 1, 2, 3, 4, 5, 6, 7, 8, 9, 10, 11, 12, 13, 14, 15, 16, 17] (BV), sv [0, 1, 2, 3, 4, 5, 6, 7, 8, 9, 10, 11, 12, 13, 14, 15, 16, 17, 18] (.bool true), sv [0, 1, 2, 3, 4, 5, 6, 7, 8, 9, 10, 11, 12, 13, 14, 15, 16, 17, 18, 19] (.bool false), sv [0, 1, 2, 3, 4, 5, 6, 7, 8, 9, 10, 11, 12, 13, 14, 15, 16, 17, 18, 19, 20] (.bool false), sv [0, 1, 2, 3, 4, 5, 6, 7, 8, 9, 10, 11, 12, 13, 14, 15, 16, 17, 18, 19, 20, 21] (.bool false), sv [0, 1, 2, 3, 4, 5, 6, 7, 8, 9, 10, 11, 12, 13, 14, 15, 16, 17, 18, 19, 20, 21, 22] (.agg (rpL r vr vc).toArray), sv [0, 1, 2, 3, 4, 5, 6, 7, 8, 9, 10, 11, 12, 13, 14, 15, 16, 17, 18, 19, 20, 21, 22] (.agg (rpL r vr vc).toArray), sv [0, 1, 2, 3, 4, 5, 6, 7, 8, 9, 10, 11, 12, 13, 14, 15, 16, 17, 18, 19, 20, 21, 22] (BV), sv [0, 1, 2, 3, 4, 5, 6, 7, 8, 9, 10, 11, 12, 13, 14, 15, 16, 17, 18, 19, 20, 21, 22, 24, 25] (.agg (rpL U ur uc).toArray), sv [0, 1, 2, 3, 4, 5, 6, 7, 8, 9, 10, 11, 12, 13, 14, 15, 16, 17, 18, 19, 20, 21, 22, 23, 24, 25, 26] (.bool B5), sv [0, 1, 2, 3, 4, 5, 6, 7, 8, 9, 10, 11, 12, 13, 14, 15, 16, 17, 18, 19, 20, 21, 22, 23, 24, 25, 26, 27] (.bool (!B5)), sv [0, 1, 2, 3, 4, 5, 6, 7, 8, 9, 10, 11, 12, 13, 14, 15, 16, 17, 18, 19, 20, 21, 22, 23, 24, 25, 26, 27, 28] (.bool (!B5))] ?A5 ?hA5 kR kR kR [0, 1, 2, 3, 4, 5, 6, 7, 8, 9, 10, 11, 12, 13, 14, 15, 16, 17, 18, 19, 20, 21, 22, 23, 24, 25, 26, 27, 28, 29] kR ?hok5 ?fin5
    case hA5 => intro u; simp only [putAll, List.length_cons, List.length_nil, Nat.zero_add, Nat.reduceAdd, dstAt, List.getElem?_toArray, List.getElem?_cons_zero, List.getElem?_cons_succ, Option.bind_some, Act.put, List.setIfInBounds_toArray, List.set_cons_zero, List.set_cons_succ]; rfl
    case hok5 =>
      intro i hi
      obtain rfl | rfl | rfl | rfl | rfl | rfl | rfl | rfl | rfl | rfl | rfl | rfl | rfl | rfl | rfl | rfl | rfl | rfl | rfl | rfl | rfl | rfl | rfl | rfl | rfl | rfl | rfl | rfl | rfl | rfl : i = 0 ∨ i = 1 ∨ i = 2 ∨ i = 3 ∨ i = 4 ∨ i = 5 ∨ i = 6 ∨ i = 7 ∨ i = 8 ∨ i = 9 ∨ i = 10 ∨ i = 11 ∨ i = 12 ∨ i = 13 ∨ i = 14 ∨ i = 15 ∨ i = 16 ∨ i = 17 ∨ i = 18 ∨ i = 19 ∨ i = 20 ∨ i = 21 ∨ i = 22 ∨ i = 23 ∨ i = 24 ∨ i = 25 ∨ i = 26 ∨ i = 27 ∨ i = 28 ∨ i = 29 := by simp only [List.length_cons, List.length_nil, Nat.zero_add, Nat.reduceAdd] at hi; omega
      · exact oP []
      · clear hi
        refine step_of rfl rfl rfl ?_
        intro u G w hf S
        have f0 : u 0 = .pointer (some ⟨g1, 1, none⟩) := hf 0 (by simp)
        simp only [fl, z4, z5, z6, z7, ptrBlk] at S ⊢
        simp only [f0]
        refine does_load1 24 (.tmp 6) _ _ rfl (S.cell (g := g1) pk co) _ Tryd.underlying24 rfl ?_; exact ⟨rfl, S⟩
      · clear hi
        refine step_of rfl rfl rfl ?_
        intro u G w hf S
        have f1 : u 1 = .int .i64 (iw c) := hf 1 (by simp)
        simp only [fl, z4, z5, z6, z7, ptrBlk] at S ⊢
        simp only [f1]
        refine does_fn (args := [(.int .i64 (iw c)), (.int .i64 65535)]) Tryd.func71 kR kR (P2.out w) rfl ?_
        rintro e w1 ⟨rfl, T⟩
        exact ⟨_, rfl, rfl, S.call T⟩
      · exact oP [2]
      · exact oP [3]
      · exact oG [4]
      · clear hi
        refine step_of_g rfl rfl ?_
        intro u G w hf S
        have f4 : u 4 = (.bool false) := hf 4 (by simp)
        have f5 : u 5 = .pointer (some ⟨g1, 0, none⟩) := hf 5 (by simp)
        simp only [fl, z4, z5, z6, z7, ptrBlk] at S ⊢
        simp only [f4, f5]
        refine ⟨rfl, ?_⟩
        refine does_load1 5 (.tmp 11) _ _ rfl (S.cell (g := g1) pk co) _ Tryd.underlying5 rfl ?_; exact ⟨rfl, S⟩
      · exact oG [4]
      · clear hi
        refine step_of_g rfl rfl ?_
        intro u G w hf S
        have f4 : u 4 = (.bool false) := hf 4 (by simp)
        have f7 : u 7 = .pointer (some ⟨g1, 1, none⟩) := hf 7 (by simp)
        simp only [fl, z4, z5, z6, z7, ptrBlk] at S ⊢
        simp only [f4, f7]
        refine ⟨rfl, ?_⟩
        refine does_load1 24 (.tmp 13) _ _ rfl (S.cell (g := g1) pk co) _ Tryd.underlying24 rfl ?_; exact ⟨rfl, S⟩
      · clear hi
        refine step_of_g rfl rfl ?_
        intro u G w hf S
        have f4 : u 4 = (.bool false) := hf 4 (by simp)
        have f6 : u 6 = .int .u8 (k.toNat : Int) := hf 6 (by simp)
        have f8 : u 8 = .int .i64 (iw c) := hf 8 (by simp)
        simp only [fl, z4, z5, z6, z7, ptrBlk] at S ⊢
        simp only [f4, f6, f8]
        refine ⟨rfl, ?_⟩
        refine does_fn (args := [(.int .u8 (k.toNat : Int)), (.int .i64 (iw c))]) Tryd.func72 kR kR (P3.out w) rfl ?_
        rintro e w1 ⟨rfl, T⟩
        exact ⟨_, rfl, rfl, S.call T⟩
      · exact oG [4, 9]
      · exact oP [4, 10]
      · exact oP [11]
      · exact oG [12]
      · clear hi
        refine step_of_g rfl rfl ?_
        intro u G w hf S
        have f12 : u 12 = (.bool false) := hf 12 (by simp)
        have f13 : u 13 = .pointer (some ⟨g1, 2, none⟩) := hf 13 (by simp)
        simp only [fl, z4, z5, z6, z7, ptrBlk] at S ⊢
        simp only [f12, f13]
        refine ⟨rfl, ?_⟩
        refine does_load1 23 (.tmp 19) _ _ rfl (S.cell (g := g1) pk co) _ Tryd.underlying23 rfl ?_; exact ⟨rfl, S⟩
      · exact oG [12, 14]
      · exact oP [12, 15]
      · exact oP [16]
      · exact oG [17]
      · clear hi
        refine step_of_g rfl rfl ?_
        intro u G w hf S
        have f17 : u 17 = (.bool false) := hf 17 (by simp)
        have f18 : u 18 = (BV) := hf 18 (by simp)
        simp only [fl, z4, z5, z6, z7, ptrBlk] at S ⊢
        simp only [f17, f18]
        refine ⟨rfl, ?_⟩
        refine does_inv (.tmp 24) "dunnage/wire.valid" [] _ _ [] fv _ rfl rfl (MV.out w) (P4.out w (S.old HVR.out) (S.old HVC.out)) ?_; rintro e w1 ⟨rfl, T⟩; exact ⟨_, rfl, rfl, S.call T⟩
      · exact oG [17, 19]
      · exact oP [17, 20]
      · exact oP [21]
      · clear hi
        refine step_of_g rfl rfl ?_
        intro u G w hf S
        have f22 : u 22 = (.bool false) := hf 22 (by simp)
        simp only [fl, z4, z5, z6, z7, ptrBlk] at S ⊢
        simp only [f22]
        refine ⟨rfl, ?_⟩
        refine does_load 79 (.tmp 1) g1 rfl _ _ _ (S.get (r := blk g1 _) pk) _ Tryd.underlying79 rfl 46 kR lN ?_; exact ⟨rfl, S⟩
      · clear hi
        refine step_of_g rfl rfl ?_
        intro u G w hf S
        have f22 : u 22 = (.bool false) := hf 22 (by simp)
        simp only [fl, z4, z5, z6, z7, ptrBlk] at S ⊢
        simp only [f22]
        refine ⟨rfl, ?_⟩
        refine does_load 79 (.tmp 1) g1 rfl _ _ _ (S.get (r := blk g1 _) pk) _ Tryd.underlying79 rfl 46 kR lN ?_; exact ⟨rfl, S⟩
      · exact oG [22]
      · clear hi
        refine step_of_g rfl rfl ?_
        intro u G w hf S
        have f22 : u 22 = (.bool false) := hf 22 (by simp)
        have f24 : u 24 = .agg (rpL r vr vc).toArray := hf 24 (by simp)
        have f25 : u 25 = (BV) := hf 25 (by simp)
        simp only [fl, z4, z5, z6, z7, ptrBlk] at S ⊢
        simp only [f22, f24, f25]
        refine ⟨rfl, ?_⟩
        refine does_fn (args := [(.agg (rpL r vr vc).toArray), ((BV))]) Tryd.func70 kR kR (P5.out w) rfl ?_
        rintro e w1 ⟨rfl, T⟩
        exact ⟨_, rfl, rfl, S.call T⟩
      · clear hi
        refine step_of_g rfl rfl ?_
        intro u G w hf S
        have f22 : u 22 = (.bool false) := hf 22 (by simp)
        have f23 : u 23 = .agg (rpL r vr vc).toArray := hf 23 (by simp)
        have f26 : u 26 = .agg (rpL U ur uc).toArray := hf 26 (by simp)
        simp only [fl, z4, z5, z6, z7, ptrBlk] at S ⊢
        simp only [f22, f23, f26]
        refine ⟨rfl, ?_⟩
        refine does_fn (args := [(.agg (rpL r vr vc).toArray), (.agg (rpL U ur uc).toArray)]) Tryd.func73 kR kR (P6.out w (S.old HVR.out) (S.old HVC.out) (S.old HUR.out) (S.old HUC.out)) rfl ?_
        rintro e w1 ⟨rfl, T⟩
        exact ⟨_, rfl, rfl, S.call T⟩
      · exact oG [22, 27]
      · exact oP [22, 28]
    case fin5 =>
      intro u w hf S
      have hvA := allV hf
      simp only [AllV, RSpec.valAt, sv, Nat.zero_add, Nat.reduceAdd] at hvA
      simp only [fl, z4, z5, z6, z7, ptrBlk] at S
      clear hf
      simp only [List.length_cons, List.length_nil, Nat.zero_add, Nat.reduceAdd, List.drop_succ_cons, List.drop_zero, hvA]
      clear hvA
      cases B5 with
      | false =>
        obtain rfl : X = 8 := HX.out
        go_wp2_with (first | fail)
        go_ret
        exact ⟨rfl, S.nil⟩
      | true =>
        obtain rfl : X = 0 := HX.out
        go_wp2_with (first | fail)
        go_ret
        exact ⟨rfl, S.nil⟩
end Go.Proofs.YtfhkmmagpnojmaaDoor
