/- The reference's fields, ValidReply, CheckReply. No condition but the reach. -/
import Derived.Test.YtfhkmmagpnojmaaZBd
import Derived.Deep.DeepCutAuto
import Derived.Test.YtfhkmmagpnojmaaZRfS
import Derived.Test.YtfhkmmagpnojmaaZRfU
import Derived.Test.YtfhkmmagpnojmaaZRcV
set_option linter.unusedSimpArgs false
set_option linter.unusedVariables false
namespace Go.Proofs.Ytfhkmmagpnojmaa
open Go.RowKit

/-- The tests on the numbers of a reply. -/
def flA (r : Rp) : Prop := 0 ≤ r.order.v ∧ r.order.v ≤ 65535 ∧ r.done.toNat ≤ 4611686018427387904 ∧ r.robots.length ≤ 3 ∧ 0 ≤ r.queued.v ∧ r.queued.v ≤ 8 ∧ r.records.length ≤ 32
def flS (r : Rp) : Prop := r.kind = 3 ∧ r.code.v = 0 ∧ (r.state.toNat < 1 ∨ 5 < r.state.toNat)
theorem flR_iff (r : Rp) : flR r = true ↔ (flA r ∧ ¬ flS r ∧ (∀ x ∈ r.robots, sgtV x = true) ∧ (∀ x ∈ r.records, rcdV x = true)) := by
  unfold flR flA flS
  simp only [Bool.and_eq_true, decide_eq_true_eq, List.all_eq_true]
  constructor
  · rintro ⟨⟨⟨a, b⟩, c⟩, d⟩; exact ⟨a, b, c, d⟩
  · rintro ⟨a, b, c, d⟩; exact ⟨⟨⟨a, b⟩, c⟩, d⟩
theorem flR_no (r : Rp) (h : ¬ (flA r ∧ ¬ flS r ∧ (∀ x ∈ r.robots, sgtV x = true) ∧ (∀ x ∈ r.records, rcdV x = true))) : flR r = false := by
  cases hq : flR r with
  | false => rfl
  | true => exact absurd ((flR_iff r).1 hq) h
theorem flR_notA (r : Rp) (h : ¬ flA r) : flR r = false := flR_no r fun hn => h hn.1
theorem flR_S (r : Rp) (h : flS r) : flR r = false := flR_no r fun hn => hn.2.1 h
theorem flR_good (r : Rp) (hA : flA r) (hS : ¬ flS r) (h1 : ∀ x ∈ r.robots, sgtV x = true) (h2 : ∀ x ∈ r.records, rcdV x = true) : flR r = true := (flR_iff r).2 ⟨hA, hS, h1, h2⟩
theorem flR_bad1 (r : Rp) (x : Sgt) (hx : x ∈ r.robots) (h : sgtV x = false) : flR r = false := flR_no r fun hn => by
  have := hn.2.2.1 x hx
  rw [h] at this
  cases this
theorem flR_bad2 (r : Rp) (x : Rcd) (hx : x ∈ r.records) (h : rcdV x = false) : flR r = false := flR_no r fun hn => by
  have := hn.2.2.2 x hx
  rw [h] at this
  cases this
set_option maxRecDepth 100000 in
set_option maxHeartbeats 32000000 in
theorem refFields_s (r : Rp) (vr vc : Value) (w0 : World) (hvr : Sl w0 3 vr r.robots.length (r.robots.flatMap sgtL)) (hvc : Sl w0 35 vc r.records.length (r.records.flatMap rcdL)) :
    Calls Try.prog 60 #[.agg (rpL r vr vc).toArray] w0 fun e w' => e = .returned (.bool (flR r)) ∧ Has w0 w' [] := by
  have S := Has.start w0
  obtain ⟨a0, c0, rfl, k1, k2⟩ := Sl.shape hvr
  obtain ⟨a1, c1, rfl, k3, k4⟩ := Sl.shape hvc
  unfold maxLen at k2 k4
  have d0 := rpL_0 r (.slice a0 r.robots.length c0) (.slice a1 r.records.length c1)
  have d1 := rpL_1 r (.slice a0 r.robots.length c0) (.slice a1 r.records.length c1)
  have d3 := rpL_3 r (.slice a0 r.robots.length c0) (.slice a1 r.records.length c1)
  have d4 := rpL_4 r (.slice a0 r.robots.length c0) (.slice a1 r.records.length c1)
  have d5 := rpL_5 r (.slice a0 r.robots.length c0) (.slice a1 r.records.length c1)
  have d6 := rpL_6 r (.slice a0 r.robots.length c0) (.slice a1 r.records.length c1)
  have d7 := rpL_7 r (.slice a0 r.robots.length c0) (.slice a1 r.records.length c1)
  have d9 := rpL_9 r (.slice a0 r.robots.length c0) (.slice a1 r.records.length c1)
  have g1 := flR_notA r
  have g2 := flR_S r
  have g3 := flR_good r
  have g4 := flR_bad1 r
  have g5 := flR_bad2 r
  unfold flA at g1 g3
  unfold flS at g2 g3
  have pvr := fun x w => refValidRecord_s x w
  obtain ⟨X, hX⟩ : ∃ X, X = (rpL r (.slice a0 r.robots.length c0) (.slice a1 r.records.length c1)).toArray := ⟨_, rfl⟩
  have hsz : X.size = 46 := by rw [hX]; exact rpL_size _ _ _
  rw [← hX] at d0 d1 d3 d4 d5 d6 d7 d9 ⊢
  obtain ⟨D, hD⟩ : ∃ D, D = flR r := ⟨_, rfl⟩
  rw [← hD] at g1 g2 g3 g4 g5 ⊢
  clear hD hX
  obtain ⟨k0, c, t, o, st, dn, l, q, nn, m, tk⟩ := r
  dsimp only at *
  have hst : ((st.toNat : Int) < 1 ↔ st.toNat < 1) ∧ (5 < (st.toNat : Int) ↔ 5 < st.toNat) := by omega
  have hk3 := beqU8 k0 3
  have hk3' : ((k0.toNat : Int) == 3) = decide (k0 = 3) := hk3
  have hc0 : (c.v == 0) = decide (c.v = 0) := by rw [Bool.eq_iff_iff, beq_iff_eq, decide_eq_true_eq]
  clear hk3
  by_cases hA : 0 ≤ o.v ∧ o.v ≤ 65535 ∧ dn.toNat ≤ 4611686018427387904 ∧ l.length ≤ 3 ∧ 0 ≤ q.v ∧ q.v ≤ 8 ∧ m.length ≤ 32
  case neg =>
    obtain rfl := g1 hA
    have key : o.v < 0 ∨ (¬ o.v < 0 ∧ (65535 < o.v ∨ (¬ 65535 < o.v ∧ (4611686018427387904 < (dn.toNat : Int) ∨ (¬ 4611686018427387904 < (dn.toNat : Int) ∧ (3 < (l.length : Int) ∨ (¬ 3 < (l.length : Int) ∧ (q.v < 0 ∨ (¬ q.v < 0 ∧ (8 < q.v ∨ (¬ 8 < q.v ∧ 32 < (m.length : Int)))))))))))) := by omega
    clear g1 g2 g3 g4 g5 hA hst hk3' hc0 pvr
    rcases key with j | ⟨i1, j | ⟨i2, j | ⟨i3, j | ⟨i4, j | ⟨i5, j | ⟨i6, j⟩⟩⟩⟩⟩⟩
    all_goals
      have D0 := Lib.hid d0; have D1 := Lib.hid d1; have D3 := Lib.hid d3; have D4 := Lib.hid d4; have D5 := Lib.hid d5; have D6 := Lib.hid d6; have D7 := Lib.hid d7; have D9 := Lib.hid d9; have HVR := Lib.hid hvr; have HVC := Lib.hid hvc; have HSZ := Lib.hid hsz; clear d0 d1 d3 d4 d5 d6 d7 d9 hvr hvc hsz
      go_enter Try.func60, Try.ntmps60
      go_wp2_with (first | ((with_reducible refine iD 1 (.box 53 (.tmp 0)) ?_); refine step_boxA (dst := some 1) S 53 (.tmp 0) _ rfl gw ?_; clear S; intro g1 w S) | ((with_reducible refine iO _ (.load 3 _) ?_); refine step_load1 3 _ _ _ rfl (cL) _ Try.underlying3 rfl gw ?_) | ((with_reducible refine iO _ (.load 32 _) ?_); refine step_load1 32 _ _ _ rfl (cL) _ Try.underlying32 rfl gw ?_) | ((with_reducible refine iO _ (.load 50 _) ?_); refine step_load1 50 _ _ _ rfl (cL) _ Try.underlying50 rfl gw ?_) | ((with_reducible refine iO _ (.load 51 _) ?_); refine step_load1 51 _ _ _ rfl (cL) _ Try.underlying51 rfl gw ?_) | ((with_reducible refine iO _ (.load 5 _) ?_); refine step_load1 5 _ _ _ rfl (cL) _ Try.underlying5 rfl gw ?_) | ((with_reducible refine iO _ (.load 24 _) ?_); refine step_load1 24 _ _ _ rfl (cL) _ Try.underlying24 rfl gw ?_) | ((with_reducible refine iO _ (.load 101 _) ?_); first | (refine step_loadR 101 _ _ _ rfl _ (S.old_range hy) _ Try.underlying101 rfl 3 kR lN _ rfl gw ?_) | (refine step_loadP S 101 _ _ _ rfl _ _ _ pk 3 _ pT lN _ Try.underlying101 rfl kR gw ?_)) | ((with_reducible refine iD 4 (.alloc 101) ?_); refine step_alloc (dst := some 4) S 101 (.agg ((sgtL sgtZ).toArray)) ((sgtL sgtZ).toArray) kR rfl gw ?_; clear S; intro g4 w S) | ((with_reducible refine iO none (.store 101 (.tmp 4) (.tmp 70)) ?_); refine step_store S 101 (.tmp 4) (.tmp 70) _ _ rfl rfl _ _ pk 3 kR lN lN on1 gw ?_; clear S; intro w S) | ((with_reducible refine iO _ (.load 106 _) ?_); first | (refine step_loadR 106 _ _ _ rfl _ (S.old_range hy) _ Try.underlying106 rfl 35 kR lN _ rfl gw ?_) | (refine step_loadP S 106 _ _ _ rfl _ _ _ pk 35 _ pT lN _ Try.underlying106 rfl kR gw ?_)) | fail)
      go_ret
      exact ⟨rfl, S.nil⟩
  clear g1
  have hA2 := hA
  obtain ⟨i1, i2, i3, i4, i5, i6, i7⟩ := hA
  have i1 : ¬ o.v < 0 := by omega
  have i2 : ¬ 65535 < o.v := by omega
  have i3 : ¬ 4611686018427387904 < (dn.toNat : Int) := by omega
  have i4 : ¬ 3 < (l.length : Int) := by omega
  have i5 : ¬ q.v < 0 := by omega
  have i6 : ¬ 8 < q.v := by omega
  have i7 : ¬ 32 < (m.length : Int) := by omega
  by_cases hS : k0 = 3 ∧ c.v = 0 ∧ (st.toNat < 1 ∨ 5 < st.toNat)
  · obtain rfl := g2 hS
    obtain ⟨j1, j2, j3⟩ := hS
    rw [decide_eq_true j1] at hk3'
    rw [decide_eq_true j2] at hc0
    have key : ((st.toNat : Int) < 1) ∨ (¬ (st.toNat : Int) < 1 ∧ 5 < (st.toNat : Int)) := by omega
    clear g2 g3 g4 g5 hA2 j1 j2 j3 hst pvr
    rcases key with j | ⟨j1, j⟩
    all_goals
      have D0 := Lib.hid d0; have D1 := Lib.hid d1; have D3 := Lib.hid d3; have D4 := Lib.hid d4; have D5 := Lib.hid d5; have D6 := Lib.hid d6; have D7 := Lib.hid d7; have D9 := Lib.hid d9; have HVR := Lib.hid hvr; have HVC := Lib.hid hvc; have HSZ := Lib.hid hsz; clear d0 d1 d3 d4 d5 d6 d7 d9 hvr hvc hsz
      go_enter Try.func60, Try.ntmps60
      go_wp2_with (first | ((with_reducible refine iD 1 (.box 53 (.tmp 0)) ?_); refine step_boxA (dst := some 1) S 53 (.tmp 0) _ rfl gw ?_; clear S; intro g1 w S) | ((with_reducible refine iO _ (.load 3 _) ?_); refine step_load1 3 _ _ _ rfl (cL) _ Try.underlying3 rfl gw ?_) | ((with_reducible refine iO _ (.load 32 _) ?_); refine step_load1 32 _ _ _ rfl (cL) _ Try.underlying32 rfl gw ?_) | ((with_reducible refine iO _ (.load 50 _) ?_); refine step_load1 50 _ _ _ rfl (cL) _ Try.underlying50 rfl gw ?_) | ((with_reducible refine iO _ (.load 51 _) ?_); refine step_load1 51 _ _ _ rfl (cL) _ Try.underlying51 rfl gw ?_) | ((with_reducible refine iO _ (.load 5 _) ?_); refine step_load1 5 _ _ _ rfl (cL) _ Try.underlying5 rfl gw ?_) | ((with_reducible refine iO _ (.load 24 _) ?_); refine step_load1 24 _ _ _ rfl (cL) _ Try.underlying24 rfl gw ?_) | ((with_reducible refine iO _ (.load 101 _) ?_); first | (refine step_loadR 101 _ _ _ rfl _ (S.old_range hy) _ Try.underlying101 rfl 3 kR lN _ rfl gw ?_) | (refine step_loadP S 101 _ _ _ rfl _ _ _ pk 3 _ pT lN _ Try.underlying101 rfl kR gw ?_)) | ((with_reducible refine iD 4 (.alloc 101) ?_); refine step_alloc (dst := some 4) S 101 (.agg ((sgtL sgtZ).toArray)) ((sgtL sgtZ).toArray) kR rfl gw ?_; clear S; intro g4 w S) | ((with_reducible refine iO none (.store 101 (.tmp 4) (.tmp 70)) ?_); refine step_store S 101 (.tmp 4) (.tmp 70) _ _ rfl rfl _ _ pk 3 kR lN lN on1 gw ?_; clear S; intro w S) | ((with_reducible refine iO _ (.load 106 _) ?_); first | (refine step_loadR 106 _ _ _ rfl _ (S.old_range hy) _ Try.underlying106 rfl 35 kR lN _ rfl gw ?_) | (refine step_loadP S 106 _ _ _ rfl _ _ _ pk 35 _ pT lN _ Try.underlying106 rfl kR gw ?_)) | fail)
      go_ret
      exact ⟨rfl, S.nil⟩
  clear g2
  have g3 := g3 hA2 hS
  have key : (((k0.toNat : Int) == 3) = false) ∨ (((k0.toNat : Int) == 3) = true ∧ ((c.v == 0) = false ∨ ((c.v == 0) = true ∧ ¬ (st.toNat : Int) < 1 ∧ ¬ 5 < (st.toNat : Int)))) := by
    rw [hk3', hc0]
    by_cases j1 : k0 = 3
    · rw [decide_eq_true j1]
      refine .inr ⟨rfl, ?_⟩
      by_cases j2 : c.v = 0
      · rw [decide_eq_true j2]
        refine .inr ⟨rfl, ?_⟩
        have : ¬ (st.toNat < 1 ∨ 5 < st.toNat) := fun h => hS ⟨j1, j2, h⟩
        omega
      · exact .inl (decide_eq_false j2)
    · exact .inl (decide_eq_false j1)
  clear hA2 hS hst hk3' hc0
  have D0 := Lib.hid d0; have D1 := Lib.hid d1; have D3 := Lib.hid d3; have D4 := Lib.hid d4; have D5 := Lib.hid d5; have D6 := Lib.hid d6; have D7 := Lib.hid d7; have D9 := Lib.hid d9; have HVR := Lib.hid hvr; have HVC := Lib.hid hvc; have HSZ := Lib.hid hsz; have G3 := Lib.hid g3; have G4 := Lib.hid g4; have G5 := Lib.hid g5; have PVR := Lib.hid pvr; clear d0 d1 d3 d4 d5 d6 d7 d9 hvr hvc hsz g3 g4 g5 pvr
  go_enter Try.func60, Try.ntmps60
  go_upto_region 3 with (first | ((with_reducible refine iD 1 (.box 53 (.tmp 0)) ?_); refine step_boxA (dst := some 1) S 53 (.tmp 0) _ rfl gw ?_; clear S; intro g1 w S) | ((with_reducible refine iO _ (.load 3 _) ?_); refine step_load1 3 _ _ _ rfl (cL) _ Try.underlying3 rfl gw ?_) | ((with_reducible refine iO _ (.load 32 _) ?_); refine step_load1 32 _ _ _ rfl (cL) _ Try.underlying32 rfl gw ?_) | ((with_reducible refine iO _ (.load 50 _) ?_); refine step_load1 50 _ _ _ rfl (cL) _ Try.underlying50 rfl gw ?_) | ((with_reducible refine iO _ (.load 51 _) ?_); refine step_load1 51 _ _ _ rfl (cL) _ Try.underlying51 rfl gw ?_) | ((with_reducible refine iO _ (.load 5 _) ?_); refine step_load1 5 _ _ _ rfl (cL) _ Try.underlying5 rfl gw ?_) | ((with_reducible refine iO _ (.load 24 _) ?_); refine step_load1 24 _ _ _ rfl (cL) _ Try.underlying24 rfl gw ?_) | ((with_reducible refine iO _ (.load 101 _) ?_); first | (refine step_loadR 101 _ _ _ rfl _ (S.old_range hy) _ Try.underlying101 rfl 3 kR lN _ rfl gw ?_) | (refine step_loadP S 101 _ _ _ rfl _ _ _ pk 3 _ pT lN _ Try.underlying101 rfl kR gw ?_)) | ((with_reducible refine iD 4 (.alloc 101) ?_); refine step_alloc (dst := some 4) S 101 (.agg ((sgtL sgtZ).toArray)) ((sgtL sgtZ).toArray) kR rfl gw ?_; clear S; intro g4 w S) | ((with_reducible refine iO none (.store 101 (.tmp 4) (.tmp 70)) ?_); refine step_store S 101 (.tmp 4) (.tmp 70) _ _ rfl rfl _ _ pk 3 kR lN lN on1 gw ?_; clear S; intro w S) | ((with_reducible refine iO _ (.load 106 _) ?_); first | (refine step_loadR 106 _ _ _ rfl _ (S.old_range hy) _ Try.underlying106 rfl 35 kR lN _ rfl gw ?_) | (refine step_loadP S 106 _ _ _ rfl _ _ _ pk 35 _ pT lN _ Try.underlying106 rfl kR gw ?_)) | fail)
  clear i1 i2 i3 i4 i5 i6 i7
  go_cut [58] (fun t w' => t = .bool false ∧ Has w0 w' [blk g1 (.cells X 53 (0, 0))])
  case first =>
    rcases key with j1 | ⟨j1, j2 | ⟨j2, j3, j4⟩⟩
    all_goals
      go_wp2_with (first | ((with_reducible refine iD 1 (.box 53 (.tmp 0)) ?_); refine step_boxA (dst := some 1) S 53 (.tmp 0) _ rfl gw ?_; clear S; intro g1 w S) | ((with_reducible refine iO _ (.load 3 _) ?_); refine step_load1 3 _ _ _ rfl (cL) _ Try.underlying3 rfl gw ?_) | ((with_reducible refine iO _ (.load 32 _) ?_); refine step_load1 32 _ _ _ rfl (cL) _ Try.underlying32 rfl gw ?_) | ((with_reducible refine iO _ (.load 50 _) ?_); refine step_load1 50 _ _ _ rfl (cL) _ Try.underlying50 rfl gw ?_) | ((with_reducible refine iO _ (.load 51 _) ?_); refine step_load1 51 _ _ _ rfl (cL) _ Try.underlying51 rfl gw ?_) | ((with_reducible refine iO _ (.load 5 _) ?_); refine step_load1 5 _ _ _ rfl (cL) _ Try.underlying5 rfl gw ?_) | ((with_reducible refine iO _ (.load 24 _) ?_); refine step_load1 24 _ _ _ rfl (cL) _ Try.underlying24 rfl gw ?_) | ((with_reducible refine iO _ (.load 101 _) ?_); first | (refine step_loadR 101 _ _ _ rfl _ (S.old_range hy) _ Try.underlying101 rfl 3 kR lN _ rfl gw ?_) | (refine step_loadP S 101 _ _ _ rfl _ _ _ pk 3 _ pT lN _ Try.underlying101 rfl kR gw ?_)) | ((with_reducible refine iD 4 (.alloc 101) ?_); refine step_alloc (dst := some 4) S 101 (.agg ((sgtL sgtZ).toArray)) ((sgtL sgtZ).toArray) kR rfl gw ?_; clear S; intro g4 w S) | ((with_reducible refine iO none (.store 101 (.tmp 4) (.tmp 70)) ?_); refine step_store S 101 (.tmp 4) (.tmp 70) _ _ rfl rfl _ _ pk 3 kR lN lN on1 gw ?_; clear S; intro w S) | ((with_reducible refine iO _ (.load 106 _) ?_); first | (refine step_loadR 106 _ _ _ rfl _ (S.old_range hy) _ Try.underlying106 rfl 35 kR lN _ rfl gw ?_) | (refine step_loadP S 106 _ _ _ rfl _ _ _ pk 35 _ pT lN _ Try.underlying106 rfl kR gw ?_)) | fail)
      go_meet
      case rel => exact ⟨rfl, S⟩
  case rest =>
  clear S key
  obtain ⟨rfl, S⟩ := hcut
  go_wp2_with (first | ((with_reducible refine iD 1 (.box 53 (.tmp 0)) ?_); refine step_boxA (dst := some 1) S 53 (.tmp 0) _ rfl gw ?_; clear S; intro g1 w S) | ((with_reducible refine iO _ (.load 3 _) ?_); refine step_load1 3 _ _ _ rfl (cL) _ Try.underlying3 rfl gw ?_) | ((with_reducible refine iO _ (.load 32 _) ?_); refine step_load1 32 _ _ _ rfl (cL) _ Try.underlying32 rfl gw ?_) | ((with_reducible refine iO _ (.load 50 _) ?_); refine step_load1 50 _ _ _ rfl (cL) _ Try.underlying50 rfl gw ?_) | ((with_reducible refine iO _ (.load 51 _) ?_); refine step_load1 51 _ _ _ rfl (cL) _ Try.underlying51 rfl gw ?_) | ((with_reducible refine iO _ (.load 5 _) ?_); refine step_load1 5 _ _ _ rfl (cL) _ Try.underlying5 rfl gw ?_) | ((with_reducible refine iO _ (.load 24 _) ?_); refine step_load1 24 _ _ _ rfl (cL) _ Try.underlying24 rfl gw ?_) | ((with_reducible refine iO _ (.load 101 _) ?_); first | (refine step_loadR 101 _ _ _ rfl _ (S.old_range hy) _ Try.underlying101 rfl 3 kR lN _ rfl gw ?_) | (refine step_loadP S 101 _ _ _ rfl _ _ _ pk 3 _ pT lN _ Try.underlying101 rfl kR gw ?_)) | ((with_reducible refine iD 4 (.alloc 101) ?_); refine step_alloc (dst := some 4) S 101 (.agg ((sgtL sgtZ).toArray)) ((sgtL sgtZ).toArray) kR rfl gw ?_; clear S; intro g4 w S) | ((with_reducible refine iO none (.store 101 (.tmp 4) (.tmp 70)) ?_); refine step_store S 101 (.tmp 4) (.tmp 70) _ _ rfl rfl _ _ pk 3 kR lN lN on1 gw ?_; clear S; intro w S) | ((with_reducible refine iO _ (.load 106 _) ?_); first | (refine step_loadR 106 _ _ _ rfl _ (S.old_range hy) _ Try.underlying106 rfl 35 kR lN _ rfl gw ?_) | (refine step_loadP S 106 _ _ _ rfl _ _ _ pk 35 _ pT lN _ Try.underlying106 rfl kR gw ?_)) | fail)
  go_loopw [3] (fun u wr => ∃ (k : Nat), k ≤ l.length ∧ u = .int .i64 (k : Int) ∧ (∀ (j : Nat) (hj : j < l.length), j < k → sgtV l[j] = true) ∧ Has w0 wr [blk g1 (.cells X 53 (0, 0))]) (fun u _ => l.length - (intOf u).toNat)
  case atStart => exact ⟨0, Nat.zero_le _, rfl, fun j _ hj => by omega, S⟩
  case round =>
    clear S
    obtain ⟨k, hk, rfl, hgood, S⟩ := hrel
    by_cases hlt : k < l.length
    · have hx : l[k]? = some l[k] := List.getElem?_eq_getElem hlt
      have hrr := HVR.out
      obtain ⟨b, off, rfl, hcell⟩ := hrr.atA (by omega)
      have hrg := hrr.elem sgtL_length (by decide) k _ hx
      have hm : l[k] ∈ l := List.getElem_mem hlt
      have hsucc : sgtV l[k] = true → ∀ (j : Nat) (hj : j < l.length), j < k + 1 → sgtV l[j] = true := fun h j hj hjk => by
        by_cases hjk2 : j = k
        · subst hjk2; exact h
        · exact hgood j hj (by omega)
      obtain ⟨x, hxe⟩ : ∃ x, x = l[k] := ⟨_, rfl⟩
      rw [← hxe] at hrg hm hsucc
      have hki : (k : Int) < (l.length : Int) := by omega
      have hki2 : (k : Int) < 9223372036854775807 := by omega
      have q0 : (sgtL x).toArray[0]? = some (.int .i64 x.place.v) := rfl
      have q1 : (sgtL x).toArray[1]? = some (.int .u8 (x.state.toNat : Int)) := rfl
      have q2 : (sgtL x).toArray[2]? = some (.int .i64 x.order.v) := rfl
      by_cases hq : sgtV x = true
      · have hgd := hsucc hq
        have hv : 0 ≤ x.place.v ∧ x.place.v ≤ 63 ∧ x.state.toNat ≤ 8 ∧ 0 ≤ x.order.v ∧ x.order.v ≤ 64 := of_decide_eq_true hq
        have j1 : ¬ x.place.v < 0 := by omega
        have j2 : ¬ 63 < x.place.v := by omega
        have j3 : ¬ 8 < (x.state.toNat : Int) := by omega
        have j4 : ¬ x.order.v < 0 := by omega
        have j5 : ¬ 64 < x.order.v := by omega
        clear hx hcell hsucc hxe hq hm hgood hrr hv
        have HRG := Lib.hid hrg; have HGD := Lib.hid hgd; have Q0 := Lib.hid q0; have Q1 := Lib.hid q1; have Q2 := Lib.hid q2; clear hrg hgd q0 q1 q2
        go_wp2_with (first | ((with_reducible refine iD 1 (.box 53 (.tmp 0)) ?_); refine step_boxA (dst := some 1) S 53 (.tmp 0) _ rfl gw ?_; clear S; intro g1 w S) | ((with_reducible refine iO _ (.load 3 _) ?_); refine step_load1 3 _ _ _ rfl (cL) _ Try.underlying3 rfl gw ?_) | ((with_reducible refine iO _ (.load 32 _) ?_); refine step_load1 32 _ _ _ rfl (cL) _ Try.underlying32 rfl gw ?_) | ((with_reducible refine iO _ (.load 50 _) ?_); refine step_load1 50 _ _ _ rfl (cL) _ Try.underlying50 rfl gw ?_) | ((with_reducible refine iO _ (.load 51 _) ?_); refine step_load1 51 _ _ _ rfl (cL) _ Try.underlying51 rfl gw ?_) | ((with_reducible refine iO _ (.load 5 _) ?_); refine step_load1 5 _ _ _ rfl (cL) _ Try.underlying5 rfl gw ?_) | ((with_reducible refine iO _ (.load 24 _) ?_); refine step_load1 24 _ _ _ rfl (cL) _ Try.underlying24 rfl gw ?_) | ((with_reducible refine iO _ (.load 101 _) ?_); first | (refine step_loadR 101 _ _ _ rfl _ (S.old_range hy) _ Try.underlying101 rfl 3 kR lN _ rfl gw ?_) | (refine step_loadP S 101 _ _ _ rfl _ _ _ pk 3 _ pT lN _ Try.underlying101 rfl kR gw ?_)) | ((with_reducible refine iD 4 (.alloc 101) ?_); refine step_alloc (dst := some 4) S 101 (.agg ((sgtL sgtZ).toArray)) ((sgtL sgtZ).toArray) kR rfl gw ?_; clear S; intro g4 w S) | ((with_reducible refine iO none (.store 101 (.tmp 4) (.tmp 70)) ?_); refine step_store S 101 (.tmp 4) (.tmp 70) _ _ rfl rfl _ _ pk 3 kR lN lN on1 gw ?_; clear S; intro w S) | ((with_reducible refine iO _ (.load 106 _) ?_); first | (refine step_loadR 106 _ _ _ rfl _ (S.old_range hy) _ Try.underlying106 rfl 35 kR lN _ rfl gw ?_) | (refine step_loadP S 106 _ _ _ rfl _ _ _ pk 35 _ pT lN _ Try.underlying106 rfl kR gw ?_)) | fail)
        go_roundw
        case rel => exact ⟨k + 1, by omega, by go_num, HGD.out, S.sub (by repeat (first | exact Sub.nil _ | refine Sub.cons pk ?_))⟩
        case measure => simp [intOf]; omega
      · have hv : ¬ (0 ≤ x.place.v ∧ x.place.v ≤ 63 ∧ x.state.toNat ≤ 8 ∧ 0 ≤ x.order.v ∧ x.order.v ≤ 64) := fun h => hq (decide_eq_true h)
        obtain rfl := G4.out x hm (by simpa using hq)
        have key : x.place.v < 0 ∨ (¬ x.place.v < 0 ∧ (63 < x.place.v ∨ (¬ 63 < x.place.v ∧ (8 < (x.state.toNat : Int) ∨ (¬ 8 < (x.state.toNat : Int) ∧ (x.order.v < 0 ∨ (¬ x.order.v < 0 ∧ 64 < x.order.v))))))) := by omega
        clear hx hcell hsucc hxe hq hm hgood hrr hv
        rcases key with j | ⟨j1, j | ⟨j2, j | ⟨j3, j | ⟨j4, j⟩⟩⟩⟩
        all_goals
          have HRG := Lib.hid hrg; have Q0 := Lib.hid q0; have Q1 := Lib.hid q1; have Q2 := Lib.hid q2; clear hrg q0 q1 q2
          go_wp2_with (first | ((with_reducible refine iD 1 (.box 53 (.tmp 0)) ?_); refine step_boxA (dst := some 1) S 53 (.tmp 0) _ rfl gw ?_; clear S; intro g1 w S) | ((with_reducible refine iO _ (.load 3 _) ?_); refine step_load1 3 _ _ _ rfl (cL) _ Try.underlying3 rfl gw ?_) | ((with_reducible refine iO _ (.load 32 _) ?_); refine step_load1 32 _ _ _ rfl (cL) _ Try.underlying32 rfl gw ?_) | ((with_reducible refine iO _ (.load 50 _) ?_); refine step_load1 50 _ _ _ rfl (cL) _ Try.underlying50 rfl gw ?_) | ((with_reducible refine iO _ (.load 51 _) ?_); refine step_load1 51 _ _ _ rfl (cL) _ Try.underlying51 rfl gw ?_) | ((with_reducible refine iO _ (.load 5 _) ?_); refine step_load1 5 _ _ _ rfl (cL) _ Try.underlying5 rfl gw ?_) | ((with_reducible refine iO _ (.load 24 _) ?_); refine step_load1 24 _ _ _ rfl (cL) _ Try.underlying24 rfl gw ?_) | ((with_reducible refine iO _ (.load 101 _) ?_); first | (refine step_loadR 101 _ _ _ rfl _ (S.old_range hy) _ Try.underlying101 rfl 3 kR lN _ rfl gw ?_) | (refine step_loadP S 101 _ _ _ rfl _ _ _ pk 3 _ pT lN _ Try.underlying101 rfl kR gw ?_)) | ((with_reducible refine iD 4 (.alloc 101) ?_); refine step_alloc (dst := some 4) S 101 (.agg ((sgtL sgtZ).toArray)) ((sgtL sgtZ).toArray) kR rfl gw ?_; clear S; intro g4 w S) | ((with_reducible refine iO none (.store 101 (.tmp 4) (.tmp 70)) ?_); refine step_store S 101 (.tmp 4) (.tmp 70) _ _ rfl rfl _ _ pk 3 kR lN lN on1 gw ?_; clear S; intro w S) | ((with_reducible refine iO _ (.load 106 _) ?_); first | (refine step_loadR 106 _ _ _ rfl _ (S.old_range hy) _ Try.underlying106 rfl 35 kR lN _ rfl gw ?_) | (refine step_loadP S 106 _ _ _ rfl _ _ _ pk 35 _ pT lN _ Try.underlying106 rfl kR gw ?_)) | fail)
          go_ret
          exact ⟨rfl, S.nil⟩
    · obtain rfl : k = l.length := by omega
      have hki : ¬ (l.length : Int) < (l.length : Int) := by omega
      have hall : ∀ x ∈ l, sgtV x = true := fun x hx => by
        obtain ⟨j, hj, rfl⟩ := List.getElem_of_mem hx
        exact hgood j hj hj
      have g3 := G3.out hall
      clear hgood hall
      have G3 := Lib.hid g3; clear g3
      go_wp2_with (first | ((with_reducible refine iD 1 (.box 53 (.tmp 0)) ?_); refine step_boxA (dst := some 1) S 53 (.tmp 0) _ rfl gw ?_; clear S; intro g1 w S) | ((with_reducible refine iO _ (.load 3 _) ?_); refine step_load1 3 _ _ _ rfl (cL) _ Try.underlying3 rfl gw ?_) | ((with_reducible refine iO _ (.load 32 _) ?_); refine step_load1 32 _ _ _ rfl (cL) _ Try.underlying32 rfl gw ?_) | ((with_reducible refine iO _ (.load 50 _) ?_); refine step_load1 50 _ _ _ rfl (cL) _ Try.underlying50 rfl gw ?_) | ((with_reducible refine iO _ (.load 51 _) ?_); refine step_load1 51 _ _ _ rfl (cL) _ Try.underlying51 rfl gw ?_) | ((with_reducible refine iO _ (.load 5 _) ?_); refine step_load1 5 _ _ _ rfl (cL) _ Try.underlying5 rfl gw ?_) | ((with_reducible refine iO _ (.load 24 _) ?_); refine step_load1 24 _ _ _ rfl (cL) _ Try.underlying24 rfl gw ?_) | ((with_reducible refine iO _ (.load 101 _) ?_); first | (refine step_loadR 101 _ _ _ rfl _ (S.old_range hy) _ Try.underlying101 rfl 3 kR lN _ rfl gw ?_) | (refine step_loadP S 101 _ _ _ rfl _ _ _ pk 3 _ pT lN _ Try.underlying101 rfl kR gw ?_)) | ((with_reducible refine iD 4 (.alloc 101) ?_); refine step_alloc (dst := some 4) S 101 (.agg ((sgtL sgtZ).toArray)) ((sgtL sgtZ).toArray) kR rfl gw ?_; clear S; intro g4 w S) | ((with_reducible refine iO none (.store 101 (.tmp 4) (.tmp 70)) ?_); refine step_store S 101 (.tmp 4) (.tmp 70) _ _ rfl rfl _ _ pk 3 kR lN lN on1 gw ?_; clear S; intro w S) | ((with_reducible refine iO _ (.load 106 _) ?_); first | (refine step_loadR 106 _ _ _ rfl _ (S.old_range hy) _ Try.underlying106 rfl 35 kR lN _ rfl gw ?_) | (refine step_loadP S 106 _ _ _ rfl _ _ _ pk 35 _ pT lN _ Try.underlying106 rfl kR gw ?_)) | fail)
      go_loopw [5] (fun u wr => ∃ (k : Nat), k ≤ m.length ∧ u = .int .i64 (k : Int) ∧ (∀ (j : Nat) (hj : j < m.length), j < k → rcdV m[j] = true) ∧ Has w0 wr [blk g1 (.cells X 53 (0, 0))]) (fun u _ => m.length - (intOf u).toNat)
      case atStart => exact ⟨0, Nat.zero_le _, rfl, fun j _ hj => by omega, S⟩
      case round =>
        clear S hk hki
        obtain ⟨k, hk, rfl, hgood, S⟩ := hrel
        by_cases hlt : k < m.length
        · have hx : m[k]? = some m[k] := List.getElem?_eq_getElem hlt
          have hrr := HVC.out
          obtain ⟨b, off, rfl, hcell⟩ := hrr.atA (by omega)
          have hrg := hrr.elem rcdL_length (by decide) k _ hx
          have hm : m[k] ∈ m := List.getElem_mem hlt
          have hsucc : rcdV m[k] = true → ∀ (j : Nat) (hj : j < m.length), j < k + 1 → rcdV m[j] = true := fun h j hj hjk => by
            by_cases hjk2 : j = k
            · subst hjk2; exact h
            · exact hgood j hj (by omega)
          obtain ⟨x, hxe⟩ : ∃ x, x = m[k] := ⟨_, rfl⟩
          rw [← hxe] at hrg hm hsucc
          have hki : (k : Int) < (m.length : Int) := by omega
          have hki2 : (k : Int) < 9223372036854775807 := by omega
          have pv := PVR.out x
          cases hq : rcdV x with
          | true =>
            have hgd := hsucc hq
            rw [hq] at pv
            clear hx hcell hsucc hxe hq hm hgood hrr
            have HRG := Lib.hid hrg; have HGD := Lib.hid hgd; have PV := Lib.hid pv; clear hrg hgd pv
            go_wp2_with (first | ((with_reducible refine iD 1 (.box 53 (.tmp 0)) ?_); refine step_boxA (dst := some 1) S 53 (.tmp 0) _ rfl gw ?_; clear S; intro g1 w S) | ((with_reducible refine iO _ (.load 3 _) ?_); refine step_load1 3 _ _ _ rfl (cL) _ Try.underlying3 rfl gw ?_) | ((with_reducible refine iO _ (.load 32 _) ?_); refine step_load1 32 _ _ _ rfl (cL) _ Try.underlying32 rfl gw ?_) | ((with_reducible refine iO _ (.load 50 _) ?_); refine step_load1 50 _ _ _ rfl (cL) _ Try.underlying50 rfl gw ?_) | ((with_reducible refine iO _ (.load 51 _) ?_); refine step_load1 51 _ _ _ rfl (cL) _ Try.underlying51 rfl gw ?_) | ((with_reducible refine iO _ (.load 5 _) ?_); refine step_load1 5 _ _ _ rfl (cL) _ Try.underlying5 rfl gw ?_) | ((with_reducible refine iO _ (.load 24 _) ?_); refine step_load1 24 _ _ _ rfl (cL) _ Try.underlying24 rfl gw ?_) | ((with_reducible refine iO _ (.load 101 _) ?_); first | (refine step_loadR 101 _ _ _ rfl _ (S.old_range hy) _ Try.underlying101 rfl 3 kR lN _ rfl gw ?_) | (refine step_loadP S 101 _ _ _ rfl _ _ _ pk 3 _ pT lN _ Try.underlying101 rfl kR gw ?_)) | ((with_reducible refine iD 4 (.alloc 101) ?_); refine step_alloc (dst := some 4) S 101 (.agg ((sgtL sgtZ).toArray)) ((sgtL sgtZ).toArray) kR rfl gw ?_; clear S; intro g4 w S) | ((with_reducible refine iO none (.store 101 (.tmp 4) (.tmp 70)) ?_); refine step_store S 101 (.tmp 4) (.tmp 70) _ _ rfl rfl _ _ pk 3 kR lN lN on1 gw ?_; clear S; intro w S) | ((with_reducible refine iO _ (.load 106 _) ?_); first | (refine step_loadR 106 _ _ _ rfl _ (S.old_range hy) _ Try.underlying106 rfl 35 kR lN _ rfl gw ?_) | (refine step_loadP S 106 _ _ _ rfl _ _ _ pk 35 _ pT lN _ Try.underlying106 rfl kR gw ?_)) | (go_at_call 66; (with_reducible refine (PV.out _).mono ?_); rintro e w1 ⟨rfl, T⟩; replace S := S.call T; clear T; (try simp only [z4, z5] at S)) | fail)
            go_roundw
            case rel => exact ⟨k + 1, by omega, by go_num, HGD.out, S.sub (by repeat (first | exact Sub.nil _ | refine Sub.cons pk ?_))⟩
            case measure => simp [intOf]; omega
          | false =>
            obtain rfl := G5.out x hm hq
            rw [hq] at pv
            clear hx hcell hsucc hxe hq hm hgood hrr
            have HRG := Lib.hid hrg; have PV := Lib.hid pv; clear hrg pv
            go_wp2_with (first | ((with_reducible refine iD 1 (.box 53 (.tmp 0)) ?_); refine step_boxA (dst := some 1) S 53 (.tmp 0) _ rfl gw ?_; clear S; intro g1 w S) | ((with_reducible refine iO _ (.load 3 _) ?_); refine step_load1 3 _ _ _ rfl (cL) _ Try.underlying3 rfl gw ?_) | ((with_reducible refine iO _ (.load 32 _) ?_); refine step_load1 32 _ _ _ rfl (cL) _ Try.underlying32 rfl gw ?_) | ((with_reducible refine iO _ (.load 50 _) ?_); refine step_load1 50 _ _ _ rfl (cL) _ Try.underlying50 rfl gw ?_) | ((with_reducible refine iO _ (.load 51 _) ?_); refine step_load1 51 _ _ _ rfl (cL) _ Try.underlying51 rfl gw ?_) | ((with_reducible refine iO _ (.load 5 _) ?_); refine step_load1 5 _ _ _ rfl (cL) _ Try.underlying5 rfl gw ?_) | ((with_reducible refine iO _ (.load 24 _) ?_); refine step_load1 24 _ _ _ rfl (cL) _ Try.underlying24 rfl gw ?_) | ((with_reducible refine iO _ (.load 101 _) ?_); first | (refine step_loadR 101 _ _ _ rfl _ (S.old_range hy) _ Try.underlying101 rfl 3 kR lN _ rfl gw ?_) | (refine step_loadP S 101 _ _ _ rfl _ _ _ pk 3 _ pT lN _ Try.underlying101 rfl kR gw ?_)) | ((with_reducible refine iD 4 (.alloc 101) ?_); refine step_alloc (dst := some 4) S 101 (.agg ((sgtL sgtZ).toArray)) ((sgtL sgtZ).toArray) kR rfl gw ?_; clear S; intro g4 w S) | ((with_reducible refine iO none (.store 101 (.tmp 4) (.tmp 70)) ?_); refine step_store S 101 (.tmp 4) (.tmp 70) _ _ rfl rfl _ _ pk 3 kR lN lN on1 gw ?_; clear S; intro w S) | ((with_reducible refine iO _ (.load 106 _) ?_); first | (refine step_loadR 106 _ _ _ rfl _ (S.old_range hy) _ Try.underlying106 rfl 35 kR lN _ rfl gw ?_) | (refine step_loadP S 106 _ _ _ rfl _ _ _ pk 35 _ pT lN _ Try.underlying106 rfl kR gw ?_)) | (go_at_call 66; (with_reducible refine (PV.out _).mono ?_); rintro e w1 ⟨rfl, T⟩; replace S := S.call T; clear T; (try simp only [z4, z5] at S)) | fail)
            go_ret
            exact ⟨rfl, S.nil⟩
        · obtain rfl : k = m.length := by omega
          have hki : ¬ (m.length : Int) < (m.length : Int) := by omega
          have hall : ∀ x ∈ m, rcdV x = true := fun x hx => by
            obtain ⟨j, hj, rfl⟩ := List.getElem_of_mem hx
            exact hgood j hj hj
          obtain rfl := G3.out hall
          clear hgood hall
          go_wp2_with (first | ((with_reducible refine iD 1 (.box 53 (.tmp 0)) ?_); refine step_boxA (dst := some 1) S 53 (.tmp 0) _ rfl gw ?_; clear S; intro g1 w S) | ((with_reducible refine iO _ (.load 3 _) ?_); refine step_load1 3 _ _ _ rfl (cL) _ Try.underlying3 rfl gw ?_) | ((with_reducible refine iO _ (.load 32 _) ?_); refine step_load1 32 _ _ _ rfl (cL) _ Try.underlying32 rfl gw ?_) | ((with_reducible refine iO _ (.load 50 _) ?_); refine step_load1 50 _ _ _ rfl (cL) _ Try.underlying50 rfl gw ?_) | ((with_reducible refine iO _ (.load 51 _) ?_); refine step_load1 51 _ _ _ rfl (cL) _ Try.underlying51 rfl gw ?_) | ((with_reducible refine iO _ (.load 5 _) ?_); refine step_load1 5 _ _ _ rfl (cL) _ Try.underlying5 rfl gw ?_) | ((with_reducible refine iO _ (.load 24 _) ?_); refine step_load1 24 _ _ _ rfl (cL) _ Try.underlying24 rfl gw ?_) | ((with_reducible refine iO _ (.load 101 _) ?_); first | (refine step_loadR 101 _ _ _ rfl _ (S.old_range hy) _ Try.underlying101 rfl 3 kR lN _ rfl gw ?_) | (refine step_loadP S 101 _ _ _ rfl _ _ _ pk 3 _ pT lN _ Try.underlying101 rfl kR gw ?_)) | ((with_reducible refine iD 4 (.alloc 101) ?_); refine step_alloc (dst := some 4) S 101 (.agg ((sgtL sgtZ).toArray)) ((sgtL sgtZ).toArray) kR rfl gw ?_; clear S; intro g4 w S) | ((with_reducible refine iO none (.store 101 (.tmp 4) (.tmp 70)) ?_); refine step_store S 101 (.tmp 4) (.tmp 70) _ _ rfl rfl _ _ pk 3 kR lN lN on1 gw ?_; clear S; intro w S) | ((with_reducible refine iO _ (.load 106 _) ?_); first | (refine step_loadR 106 _ _ _ rfl _ (S.old_range hy) _ Try.underlying106 rfl 35 kR lN _ rfl gw ?_) | (refine step_loadP S 106 _ _ _ rfl _ _ _ pk 35 _ pT lN _ Try.underlying106 rfl kR gw ?_)) | fail)
          go_ret
          exact ⟨rfl, S.nil⟩
end Go.Proofs.Ytfhkmmagpnojmaa
