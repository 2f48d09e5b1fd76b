/- Several texts under one header: what the claim needs of RfV, RfW, Rk1, ReadTok, ReadRec, ReadRp, Laid. No condition but those that each names. -/
import Derived.Test.YtfhkmmagpnojmaaDoorYR1
import Derived.Deep.DeepCutAuto
import Derived.Test.YtfhkmmagpnojmaaDoorYR12
import Derived.Test.YtfhkmmagpnojmaaDoorYR9
import Derived.Test.YtfhkmmagpnojmaaDoorYR10
import Derived.Test.YtfhkmmagpnojmaaDoorYR11
import Derived.Test.YtfhkmmagpnojmaaDoorYR0
import Derived.Test.YtfhkmmagpnojmaaDoorYR4
import Derived.Test.YtfhkmmagpnojmaaDoorYR5
import Derived.Test.YtfhkmmagpnojmaaDoorRows
import Derived.Test.YtfhkmmagpnojmaaDoorYR2
import Derived.Deep.DeepHandedRow
import Derived.Lib.LaidTab
import Derived.SevenTiedAt
set_option linter.unusedSimpArgs false
set_option linter.unusedVariables false

/- The reference's fields, ValidReply, CheckReply. No condition but the reach. -/
namespace Go.Proofs.YtfhkmmagpnojmaaDoor
open Go.RowKit

/-- The tests on the numbers of a reply. -/
def flA (r : Rp) : Prop := 0 ≤ r.order.v ∧ r.order.v ≤ 65535 ∧ r.done.toNat ≤ 4611686018427387904 ∧ r.robots.length ≤ 3 ∧ 0 ≤ r.queued.v ∧ r.queued.v ≤ 8 ∧ r.records.length ≤ 32
def flS (r : Rp) : Prop := r.kind = 3 ∧ r.code.v = 0 ∧ (r.state.toNat < 1 ∨ 5 < r.state.toNat)
theorem flR_iff (r : Rp) : flR r = true ↔ (flA r ∧ ¬ flS r ∧ (∀ x ∈ r.robots, sgtV x = true) ∧ (∀ x ∈ r.records, rcdV x = true)) := by
  unfold flR flA flS
  simp only [Bool.and_eq_true, decide_eq_true_eq, List.all_eq_true]
  constructor
  · rintro ⟨⟨⟨a, b⟩, c⟩, d⟩; exact ⟨a, b, c, d⟩
  · rintro ⟨a, b, c, d⟩; exact ⟨⟨⟨a, b⟩, c⟩, d⟩
theorem flR_no (r : Rp) (h : ¬ (flA r ∧ ¬ flS r ∧ (∀ x ∈ r.robots, sgtV x = true) ∧ (∀ x ∈ r.records, rcdV x = true))) : flR r = false := by
  cases hq : flR r with
  | false => rfl
  | true => exact absurd ((flR_iff r).1 hq) h
theorem flR_notA (r : Rp) (h : ¬ flA r) : flR r = false := flR_no r fun hn => h hn.1
theorem flR_S (r : Rp) (h : flS r) : flR r = false := flR_no r fun hn => hn.2.1 h
theorem flR_good (r : Rp) (hA : flA r) (hS : ¬ flS r) (h1 : ∀ x ∈ r.robots, sgtV x = true) (h2 : ∀ x ∈ r.records, rcdV x = true) : flR r = true := (flR_iff r).2 ⟨hA, hS, h1, h2⟩
theorem flR_bad1 (r : Rp) (x : Sgt) (hx : x ∈ r.robots) (h : sgtV x = false) : flR r = false := flR_no r fun hn => by
  have := hn.2.2.1 x hx
  rw [h] at this
  cases this
theorem flR_bad2 (r : Rp) (x : Rcd) (hx : x ∈ r.records) (h : rcdV x = false) : flR r = false := flR_no r fun hn => by
  have := hn.2.2.2 x hx
  rw [h] at this
  cases this
set_option maxRecDepth 100000 in
set_option maxHeartbeats 32000000 in
theorem refFields_s (r : Rp) (vr vc : Value) (w0 : World) (hvr : Sl w0 3 vr r.robots.length (r.robots.flatMap sgtL)) (hvc : Sl w0 35 vc r.records.length (r.records.flatMap rcdL)) :
    Calls Tryd.prog 67 #[.agg (rpL r vr vc).toArray] w0 fun e w' => e = .returned (.bool (flR r)) ∧ Has w0 w' [] := by
  have S := Has.start w0
  obtain ⟨a0, c0, rfl, k1, k2⟩ := Sl.shape hvr
  obtain ⟨a1, c1, rfl, k3, k4⟩ := Sl.shape hvc
  unfold maxLen at k2 k4
  have d0 := rpL_0 r (.slice a0 r.robots.length c0) (.slice a1 r.records.length c1)
  have d1 := rpL_1 r (.slice a0 r.robots.length c0) (.slice a1 r.records.length c1)
  have d3 := rpL_3 r (.slice a0 r.robots.length c0) (.slice a1 r.records.length c1)
  have d4 := rpL_4 r (.slice a0 r.robots.length c0) (.slice a1 r.records.length c1)
  have d5 := rpL_5 r (.slice a0 r.robots.length c0) (.slice a1 r.records.length c1)
  have d6 := rpL_6 r (.slice a0 r.robots.length c0) (.slice a1 r.records.length c1)
  have d7 := rpL_7 r (.slice a0 r.robots.length c0) (.slice a1 r.records.length c1)
  have d9 := rpL_9 r (.slice a0 r.robots.length c0) (.slice a1 r.records.length c1)
  have g1 := flR_notA r
  have g2 := flR_S r
  have g3 := flR_good r
  have g4 := flR_bad1 r
  have g5 := flR_bad2 r
  unfold flA at g1 g3
  unfold flS at g2 g3
  have pvr := fun x w => refValidRecord_s x w
  obtain ⟨X, hX⟩ : ∃ X, X = (rpL r (.slice a0 r.robots.length c0) (.slice a1 r.records.length c1)).toArray := ⟨_, rfl⟩
  have hsz : X.size = 46 := by rw [hX]; exact rpL_size _ _ _
  rw [← hX] at d0 d1 d3 d4 d5 d6 d7 d9 ⊢
  obtain ⟨D, hD⟩ : ∃ D, D = flR r := ⟨_, rfl⟩
  rw [← hD] at g1 g2 g3 g4 g5 ⊢
  clear hD hX
  obtain ⟨k0, c, t, o, st, dn, l, q, nn, m, tk⟩ := r
  dsimp only at *
  have hst : ((st.toNat : Int) < 1 ↔ st.toNat < 1) ∧ (5 < (st.toNat : Int) ↔ 5 < st.toNat) := by omega
  have hk3 := beqU8 k0 3
  have hk3' : ((k0.toNat : Int) == 3) = decide (k0 = 3) := hk3
  have hc0 : (c.v == 0) = decide (c.v = 0) := by rw [Bool.eq_iff_iff, beq_iff_eq, decide_eq_true_eq]
  clear hk3
  by_cases hA : 0 ≤ o.v ∧ o.v ≤ 65535 ∧ dn.toNat ≤ 4611686018427387904 ∧ l.length ≤ 3 ∧ 0 ≤ q.v ∧ q.v ≤ 8 ∧ m.length ≤ 32
  case neg =>
    obtain rfl := g1 hA
    have key : o.v < 0 ∨ (¬ o.v < 0 ∧ (65535 < o.v ∨ (¬ 65535 < o.v ∧ (4611686018427387904 < (dn.toNat : Int) ∨ (¬ 4611686018427387904 < (dn.toNat : Int) ∧ (3 < (l.length : Int) ∨ (¬ 3 < (l.length : Int) ∧ (q.v < 0 ∨ (¬ q.v < 0 ∧ (8 < q.v ∨ (¬ 8 < q.v ∧ 32 < (m.length : Int)))))))))))) := by omega
    clear g1 g2 g3 g4 g5 hA hst hk3' hc0 pvr
    rcases key with j | ⟨i1, j | ⟨i2, j | ⟨i3, j | ⟨i4, j | ⟨i5, j | ⟨i6, j⟩⟩⟩⟩⟩⟩
    all_goals
      have D0 := Lib.hid d0; have D1 := Lib.hid d1; have D3 := Lib.hid d3; have D4 := Lib.hid d4; have D5 := Lib.hid d5; have D6 := Lib.hid d6; have D7 := Lib.hid d7; have D9 := Lib.hid d9; have HVR := Lib.hid hvr; have HVC := Lib.hid hvc; have HSZ := Lib.hid hsz; clear d0 d1 d3 d4 d5 d6 d7 d9 hvr hvc hsz
      go_enter Tryd.func67, Tryd.ntmps67
      go_wp2_with (first | ((with_reducible refine iD 1 (.box 79 (.tmp 0)) ?_); refine step_boxA (dst := some 1) S 79 (.tmp 0) _ rfl gw ?_; clear S; intro g1 w S) | ((with_reducible refine iO _ (.load 3 _) ?_); refine step_load1 3 _ _ _ rfl (cL) _ Tryd.underlying3 rfl gw ?_) | ((with_reducible refine iO _ (.load 23 _) ?_); refine step_load1 23 _ _ _ rfl (cL) _ Tryd.underlying23 rfl gw ?_) | ((with_reducible refine iO _ (.load 77 _) ?_); refine step_load1 77 _ _ _ rfl (cL) _ Tryd.underlying77 rfl gw ?_) | ((with_reducible refine iO _ (.load 31 _) ?_); refine step_load1 31 _ _ _ rfl (cL) _ Tryd.underlying31 rfl gw ?_) | fail)
      go_ret
      exact ⟨rfl, S.nil⟩
  clear g1
  have hA2 := hA
  obtain ⟨i1, i2, i3, i4, i5, i6, i7⟩ := hA
  have i1 : ¬ o.v < 0 := by omega
  have i2 : ¬ 65535 < o.v := by omega
  have i3 : ¬ 4611686018427387904 < (dn.toNat : Int) := by omega
  have i4 : ¬ 3 < (l.length : Int) := by omega
  have i5 : ¬ q.v < 0 := by omega
  have i6 : ¬ 8 < q.v := by omega
  have i7 : ¬ 32 < (m.length : Int) := by omega
  by_cases hS : k0 = 3 ∧ c.v = 0 ∧ (st.toNat < 1 ∨ 5 < st.toNat)
  · obtain rfl := g2 hS
    obtain ⟨j1, j2, j3⟩ := hS
    rw [decide_eq_true j1] at hk3'
    rw [decide_eq_true j2] at hc0
    have key : ((st.toNat : Int) < 1) ∨ (¬ (st.toNat : Int) < 1 ∧ 5 < (st.toNat : Int)) := by omega
    clear g2 g3 g4 g5 hA2 j1 j2 j3 hst pvr
    rcases key with j | ⟨j1, j⟩
    all_goals
      have D0 := Lib.hid d0; have D1 := Lib.hid d1; have D3 := Lib.hid d3; have D4 := Lib.hid d4; have D5 := Lib.hid d5; have D6 := Lib.hid d6; have D7 := Lib.hid d7; have D9 := Lib.hid d9; have HVR := Lib.hid hvr; have HVC := Lib.hid hvc; have HSZ := Lib.hid hsz; clear d0 d1 d3 d4 d5 d6 d7 d9 hvr hvc hsz
      go_enter Tryd.func67, Tryd.ntmps67
      go_wp2_with (first | ((with_reducible refine iD 1 (.box 79 (.tmp 0)) ?_); refine step_boxA (dst := some 1) S 79 (.tmp 0) _ rfl gw ?_; clear S; intro g1 w S) | ((with_reducible refine iO _ (.load 3 _) ?_); refine step_load1 3 _ _ _ rfl (cL) _ Tryd.underlying3 rfl gw ?_) | ((with_reducible refine iO _ (.load 23 _) ?_); refine step_load1 23 _ _ _ rfl (cL) _ Tryd.underlying23 rfl gw ?_) | ((with_reducible refine iO _ (.load 77 _) ?_); refine step_load1 77 _ _ _ rfl (cL) _ Tryd.underlying77 rfl gw ?_) | ((with_reducible refine iO _ (.load 31 _) ?_); refine step_load1 31 _ _ _ rfl (cL) _ Tryd.underlying31 rfl gw ?_) | ((with_reducible refine iO _ (.load 5 _) ?_); refine step_load1 5 _ _ _ rfl (cL) _ Tryd.underlying5 rfl gw ?_) | ((with_reducible refine iO _ (.load 24 _) ?_); refine step_load1 24 _ _ _ rfl (cL) _ Tryd.underlying24 rfl gw ?_) | fail)
      go_ret
      exact ⟨rfl, S.nil⟩
  clear g2
  have g3 := g3 hA2 hS
  have key : (((k0.toNat : Int) == 3) = false) ∨ (((k0.toNat : Int) == 3) = true ∧ ((c.v == 0) = false ∨ ((c.v == 0) = true ∧ ¬ (st.toNat : Int) < 1 ∧ ¬ 5 < (st.toNat : Int)))) := by
    rw [hk3', hc0]
    by_cases j1 : k0 = 3
    · rw [decide_eq_true j1]
      refine .inr ⟨rfl, ?_⟩
      by_cases j2 : c.v = 0
      · rw [decide_eq_true j2]
        refine .inr ⟨rfl, ?_⟩
        have : ¬ (st.toNat < 1 ∨ 5 < st.toNat) := fun h => hS ⟨j1, j2, h⟩
        omega
      · exact .inl (decide_eq_false j2)
    · exact .inl (decide_eq_false j1)
  clear hA2 hS hst hk3' hc0
  have D0 := Lib.hid d0; have D1 := Lib.hid d1; have D3 := Lib.hid d3; have D4 := Lib.hid d4; have D5 := Lib.hid d5; have D6 := Lib.hid d6; have D7 := Lib.hid d7; have D9 := Lib.hid d9; have HVR := Lib.hid hvr; have HVC := Lib.hid hvc; have HSZ := Lib.hid hsz; have G3 := Lib.hid g3; have G4 := Lib.hid g4; have G5 := Lib.hid g5; have PVR := Lib.hid pvr; clear d0 d1 d3 d4 d5 d6 d7 d9 hvr hvc hsz g3 g4 g5 pvr
  go_enter Tryd.func67, Tryd.ntmps67
  go_upto_region 3 with (first | ((with_reducible refine iD 1 (.box 79 (.tmp 0)) ?_); refine step_boxA (dst := some 1) S 79 (.tmp 0) _ rfl gw ?_; clear S; intro g1 w S) | ((with_reducible refine iO _ (.load 3 _) ?_); refine step_load1 3 _ _ _ rfl (cL) _ Tryd.underlying3 rfl gw ?_) | ((with_reducible refine iO _ (.load 23 _) ?_); refine step_load1 23 _ _ _ rfl (cL) _ Tryd.underlying23 rfl gw ?_) | ((with_reducible refine iO _ (.load 77 _) ?_); refine step_load1 77 _ _ _ rfl (cL) _ Tryd.underlying77 rfl gw ?_) | ((with_reducible refine iO _ (.load 31 _) ?_); refine step_load1 31 _ _ _ rfl (cL) _ Tryd.underlying31 rfl gw ?_) | fail)
  clear i1 i2 i3 i4 i5 i6 i7
  go_cut [58] (fun t w' => t = .bool false ∧ Has w0 w' [blk g1 (.cells X 79 (0, 0))])
  case first =>
    rcases key with j1 | ⟨j1, j2 | ⟨j2, j3, j4⟩⟩
    all_goals
      go_wp2_with (first | ((with_reducible refine iO _ (.load 5 _) ?_); refine step_load1 5 _ _ _ rfl (cL) _ Tryd.underlying5 rfl gw ?_) | ((with_reducible refine iO _ (.load 24 _) ?_); refine step_load1 24 _ _ _ rfl (cL) _ Tryd.underlying24 rfl gw ?_) | fail)
      go_meet
      case rel => exact ⟨rfl, S⟩
  case rest =>
  clear S key
  obtain ⟨rfl, S⟩ := hcut
  go_wp2_with (first | fail)
  go_loopw [3] (fun u wr => ∃ (k : Nat), k ≤ l.length ∧ u = .int .i64 (k : Int) ∧ (∀ (j : Nat) (hj : j < l.length), j < k → sgtV l[j] = true) ∧ Has w0 wr [blk g1 (.cells X 79 (0, 0))]) (fun u _ => l.length - (intOf u).toNat)
  case atStart => exact ⟨0, Nat.zero_le _, rfl, fun j _ hj => by omega, S⟩
  case round =>
    clear S
    obtain ⟨k, hk, rfl, hgood, S⟩ := hrel
    by_cases hlt : k < l.length
    · have hx : l[k]? = some l[k] := List.getElem?_eq_getElem hlt
      have hrr := HVR.out
      obtain ⟨b, off, rfl, hcell⟩ := hrr.atA (by omega)
      have hrg := hrr.elem sgtL_length (by decide) k _ hx
      have hm : l[k] ∈ l := List.getElem_mem hlt
      have hsucc : sgtV l[k] = true → ∀ (j : Nat) (hj : j < l.length), j < k + 1 → sgtV l[j] = true := fun h j hj hjk => by
        by_cases hjk2 : j = k
        · subst hjk2; exact h
        · exact hgood j hj (by omega)
      obtain ⟨x, hxe⟩ : ∃ x, x = l[k] := ⟨_, rfl⟩
      rw [← hxe] at hrg hm hsucc
      have hki : (k : Int) < (l.length : Int) := by omega
      have hki2 : (k : Int) < 9223372036854775807 := by omega
      have q0 : (sgtL x).toArray[0]? = some (.int .i64 x.place.v) := rfl
      have q1 : (sgtL x).toArray[1]? = some (.int .u8 (x.state.toNat : Int)) := rfl
      have q2 : (sgtL x).toArray[2]? = some (.int .i64 x.order.v) := rfl
      by_cases hq : sgtV x = true
      · have hgd := hsucc hq
        have hv : 0 ≤ x.place.v ∧ x.place.v ≤ 63 ∧ x.state.toNat ≤ 8 ∧ 0 ≤ x.order.v ∧ x.order.v ≤ 64 := of_decide_eq_true hq
        have j1 : ¬ x.place.v < 0 := by omega
        have j2 : ¬ 63 < x.place.v := by omega
        have j3 : ¬ 8 < (x.state.toNat : Int) := by omega
        have j4 : ¬ x.order.v < 0 := by omega
        have j5 : ¬ 64 < x.order.v := by omega
        clear hx hcell hsucc hxe hq hm hgood hrr hv
        have HRG := Lib.hid hrg; have HGD := Lib.hid hgd; have Q0 := Lib.hid q0; have Q1 := Lib.hid q1; have Q2 := Lib.hid q2; clear hrg hgd q0 q1 q2
        go_wp2_with (first | ((with_reducible refine iO _ (.load 3 _) ?_); refine step_load1 3 _ _ _ rfl (cL) _ Tryd.underlying3 rfl gw ?_) | ((with_reducible refine iO _ (.load 77 _) ?_); refine step_load1 77 _ _ _ rfl (cL) _ Tryd.underlying77 rfl gw ?_) | ((with_reducible refine iO _ (.load 5 _) ?_); refine step_load1 5 _ _ _ rfl (cL) _ Tryd.underlying5 rfl gw ?_) | ((with_reducible refine iO _ (.load 95 _) ?_); first | (refine step_loadR 95 _ _ _ rfl _ (S.old_range hy) _ Tryd.underlying95 rfl 3 kR lN _ rfl gw ?_) | (refine step_loadP S 95 _ _ _ rfl _ _ _ pk 3 _ pT lN _ Tryd.underlying95 rfl kR gw ?_)) | ((with_reducible refine iD 4 (.alloc 95) ?_); refine step_alloc (dst := some 4) S 95 (.agg ((sgtL sgtZ).toArray)) ((sgtL sgtZ).toArray) kR rfl gw ?_; clear S; intro g4 w S) | ((with_reducible refine iO none (.store 95 (.tmp 4) (.tmp 70)) ?_); refine step_store S 95 (.tmp 4) (.tmp 70) _ _ rfl rfl _ _ pk 3 kR lN lN on1 gw ?_; clear S; intro w S) | fail)
        go_roundw
        case rel => exact ⟨k + 1, by omega, by go_num, HGD.out, S.sub (by repeat (first | exact Sub.nil _ | refine Sub.cons pk ?_))⟩
        case measure => simp [intOf]; omega
      · have hv : ¬ (0 ≤ x.place.v ∧ x.place.v ≤ 63 ∧ x.state.toNat ≤ 8 ∧ 0 ≤ x.order.v ∧ x.order.v ≤ 64) := fun h => hq (decide_eq_true h)
        obtain rfl := G4.out x hm (by simpa using hq)
        have key : x.place.v < 0 ∨ (¬ x.place.v < 0 ∧ (63 < x.place.v ∨ (¬ 63 < x.place.v ∧ (8 < (x.state.toNat : Int) ∨ (¬ 8 < (x.state.toNat : Int) ∧ (x.order.v < 0 ∨ (¬ x.order.v < 0 ∧ 64 < x.order.v))))))) := by omega
        clear hx hcell hsucc hxe hq hm hgood hrr hv
        rcases key with j | ⟨j1, j | ⟨j2, j | ⟨j3, j | ⟨j4, j⟩⟩⟩⟩
        all_goals
          have HRG := Lib.hid hrg; have Q0 := Lib.hid q0; have Q1 := Lib.hid q1; have Q2 := Lib.hid q2; clear hrg q0 q1 q2
          go_wp2_with (first | ((with_reducible refine iO _ (.load 3 _) ?_); refine step_load1 3 _ _ _ rfl (cL) _ Tryd.underlying3 rfl gw ?_) | ((with_reducible refine iO _ (.load 77 _) ?_); refine step_load1 77 _ _ _ rfl (cL) _ Tryd.underlying77 rfl gw ?_) | ((with_reducible refine iO _ (.load 5 _) ?_); refine step_load1 5 _ _ _ rfl (cL) _ Tryd.underlying5 rfl gw ?_) | ((with_reducible refine iO _ (.load 95 _) ?_); first | (refine step_loadR 95 _ _ _ rfl _ (S.old_range hy) _ Tryd.underlying95 rfl 3 kR lN _ rfl gw ?_) | (refine step_loadP S 95 _ _ _ rfl _ _ _ pk 3 _ pT lN _ Tryd.underlying95 rfl kR gw ?_)) | ((with_reducible refine iD 4 (.alloc 95) ?_); refine step_alloc (dst := some 4) S 95 (.agg ((sgtL sgtZ).toArray)) ((sgtL sgtZ).toArray) kR rfl gw ?_; clear S; intro g4 w S) | ((with_reducible refine iO none (.store 95 (.tmp 4) (.tmp 70)) ?_); refine step_store S 95 (.tmp 4) (.tmp 70) _ _ rfl rfl _ _ pk 3 kR lN lN on1 gw ?_; clear S; intro w S) | fail)
          go_ret
          exact ⟨rfl, S.nil⟩
    · obtain rfl : k = l.length := by omega
      have hki : ¬ (l.length : Int) < (l.length : Int) := by omega
      have hall : ∀ x ∈ l, sgtV x = true := fun x hx => by
        obtain ⟨j, hj, rfl⟩ := List.getElem_of_mem hx
        exact hgood j hj hj
      have g3 := G3.out hall
      clear hgood hall
      have G3 := Lib.hid g3; clear g3
      go_wp2_with (first | ((with_reducible refine iO _ (.load 77 _) ?_); refine step_load1 77 _ _ _ rfl (cL) _ Tryd.underlying77 rfl gw ?_) | fail)
      go_loopw [5] (fun u wr => ∃ (k : Nat), k ≤ m.length ∧ u = .int .i64 (k : Int) ∧ (∀ (j : Nat) (hj : j < m.length), j < k → rcdV m[j] = true) ∧ Has w0 wr [blk g1 (.cells X 79 (0, 0))]) (fun u _ => m.length - (intOf u).toNat)
      case atStart => exact ⟨0, Nat.zero_le _, rfl, fun j _ hj => by omega, S⟩
      case round =>
        clear S hk hki
        obtain ⟨k, hk, rfl, hgood, S⟩ := hrel
        by_cases hlt : k < m.length
        · have hx : m[k]? = some m[k] := List.getElem?_eq_getElem hlt
          have hrr := HVC.out
          obtain ⟨b, off, rfl, hcell⟩ := hrr.atA (by omega)
          have hrg := hrr.elem rcdL_length (by decide) k _ hx
          have hm : m[k] ∈ m := List.getElem_mem hlt
          have hsucc : rcdV m[k] = true → ∀ (j : Nat) (hj : j < m.length), j < k + 1 → rcdV m[j] = true := fun h j hj hjk => by
            by_cases hjk2 : j = k
            · subst hjk2; exact h
            · exact hgood j hj (by omega)
          obtain ⟨x, hxe⟩ : ∃ x, x = m[k] := ⟨_, rfl⟩
          rw [← hxe] at hrg hm hsucc
          have hki : (k : Int) < (m.length : Int) := by omega
          have hki2 : (k : Int) < 9223372036854775807 := by omega
          have pv := PVR.out x
          cases hq : rcdV x with
          | true =>
            have hgd := hsucc hq
            rw [hq] at pv
            clear hx hcell hsucc hxe hq hm hgood hrr
            have HRG := Lib.hid hrg; have HGD := Lib.hid hgd; have PV := Lib.hid pv; clear hrg hgd pv
            go_wp2_with (first | ((with_reducible refine iO _ (.load 31 _) ?_); refine step_load1 31 _ _ _ rfl (cL) _ Tryd.underlying31 rfl gw ?_) | ((with_reducible refine iO _ (.load 50 _) ?_); first | (refine step_loadR 50 _ _ _ rfl _ (S.old_range hy) _ Tryd.underlying50 rfl 35 kR lN _ rfl gw ?_) | (refine step_loadP S 50 _ _ _ rfl _ _ _ pk 35 _ pT lN _ Tryd.underlying50 rfl kR gw ?_)) | (go_at_call 44; (with_reducible refine (PV.out _).mono ?_); rintro e w1 ⟨rfl, T⟩; replace S := S.call T; clear T; (try simp only [z4, z5] at S)) | fail)
            go_roundw
            case rel => exact ⟨k + 1, by omega, by go_num, HGD.out, S.sub (by repeat (first | exact Sub.nil _ | refine Sub.cons pk ?_))⟩
            case measure => simp [intOf]; omega
          | false =>
            obtain rfl := G5.out x hm hq
            rw [hq] at pv
            clear hx hcell hsucc hxe hq hm hgood hrr
            have HRG := Lib.hid hrg; have PV := Lib.hid pv; clear hrg pv
            go_wp2_with (first | ((with_reducible refine iO _ (.load 31 _) ?_); refine step_load1 31 _ _ _ rfl (cL) _ Tryd.underlying31 rfl gw ?_) | ((with_reducible refine iO _ (.load 50 _) ?_); first | (refine step_loadR 50 _ _ _ rfl _ (S.old_range hy) _ Tryd.underlying50 rfl 35 kR lN _ rfl gw ?_) | (refine step_loadP S 50 _ _ _ rfl _ _ _ pk 35 _ pT lN _ Tryd.underlying50 rfl kR gw ?_)) | (go_at_call 44; (with_reducible refine (PV.out _).mono ?_); rintro e w1 ⟨rfl, T⟩; replace S := S.call T; clear T; (try simp only [z4, z5] at S)) | fail)
            go_ret
            exact ⟨rfl, S.nil⟩
        · obtain rfl : k = m.length := by omega
          have hki : ¬ (m.length : Int) < (m.length : Int) := by omega
          have hall : ∀ x ∈ m, rcdV x = true := fun x hx => by
            obtain ⟨j, hj, rfl⟩ := List.getElem_of_mem hx
            exact hgood j hj hj
          obtain rfl := G3.out hall
          clear hgood hall
          go_wp2_with (first | ((with_reducible refine iO _ (.load 31 _) ?_); refine step_load1 31 _ _ _ rfl (cL) _ Tryd.underlying31 rfl gw ?_) | fail)
          go_ret
          exact ⟨rfl, S.nil⟩
end Go.Proofs.YtfhkmmagpnojmaaDoor

/- The reference's ValidReply and CheckReply. No condition but the reach. -/
namespace Go.Proofs.YtfhkmmagpnojmaaDoor
open Go.RowKit

set_option maxRecDepth 100000 in
set_option maxHeartbeats 32000000 in
theorem refValidReply_s (r : Rp) (vr vc : Value) (w0 : World) (hvr : Sl w0 3 vr r.robots.length (r.robots.flatMap sgtL)) (hvc : Sl w0 35 vc r.records.length (r.records.flatMap rcdL)) :
    Calls Tryd.prog 37 #[.agg (rpL r vr vc).toArray] w0 fun e w' => e = .returned (.bool (rpV r)) ∧ Has w0 w' [] := by
  have S := Has.start w0
  obtain ⟨ar, cr, rfl, _, _⟩ := Sl.shape hvr
  obtain ⟨ac, cc, rfl, _, _⟩ := Sl.shape hvc
  have d0 := rpL_0 r (.slice ar r.robots.length cr) (.slice ac r.records.length cc)
  have d1 := rpL_1 r (.slice ar r.robots.length cr) (.slice ac r.records.length cc)
  have d2 := rpL_2 r (.slice ar r.robots.length cr) (.slice ac r.records.length cc)
  have p1 := fun w => code_s r.code.v w
  have p2 := fun w => refUsed_s r ar ac r.robots.length cr r.records.length cc w
  have p4 := fun w h1 h2 => refFields_s r (.slice ar r.robots.length cr) (.slice ac r.records.length cc) w h1 h2
  obtain ⟨ur, hur⟩ : ∃ u, u = vrK (bk r) (.slice ar r.robots.length cr) := ⟨_, rfl⟩
  obtain ⟨uc, huc⟩ : ∃ u, u = vcK (bk r) (.slice ac r.records.length cc) := ⟨_, rfl⟩
  rw [← hur, ← huc] at p2
  have hU := usR_bk r
  have hUR : Sl w0 3 ur (usR r).robots.length ((usR r).robots.flatMap sgtL) := by
    rw [hur, hU]
    generalize bk r = q
    cases q
    all_goals first | exact hvr | exact Sl.nil0 _ _
  have hUC : Sl w0 35 uc (usR r).records.length ((usR r).records.flatMap rcdL) := by
    rw [huc, hU]
    generalize bk r = q
    cases q
    all_goals first | exact hvc | exact Sl.nil0 _ _
  have p3 := fun w h1 h2 h3 h4 => refSameReply_s r (usR r) (.slice ar r.robots.length cr) (.slice ac r.records.length cc) ur uc w h1 h2 h3 h4
  have hone := rpL_one r (.slice ar r.robots.length cr) (.slice ac r.records.length cc) rfl rfl
  have hsz := rpL_size r (.slice ar r.robots.length cr) (.slice ac r.records.length cc)
  obtain ⟨vr, hvr'⟩ : ∃ v, v = Value.slice ar r.robots.length cr := ⟨_, rfl⟩
  obtain ⟨vc, hvc'⟩ : ∃ v, v = Value.slice ac r.records.length cc := ⟨_, rfl⟩
  rw [← hvr'] at p2 p3 p4 d0 d1 d2 hvr hone hsz ⊢
  rw [← hvc'] at p2 p3 p4 d0 d1 d2 hvc hone hsz ⊢
  obtain ⟨X, hX⟩ : ∃ X, X = (rpL r vr vc).toArray := ⟨_, rfl⟩
  rw [← hX] at p2 p3 p4 d0 d1 d2 hone hsz ⊢
  obtain ⟨U, hUe⟩ : ∃ U, U = (rpL (usR r) ur uc).toArray := ⟨_, rfl⟩
  rw [← hUe] at p2 p3
  have hV : rpV r = (decide (¬ (6 < r.kind.toNat ∧ r.kind.toNat < 16 ∨ 18 < r.kind.toNat) ∧ 0 ≤ r.code.v ∧ r.code.v ≤ 65535 ∧ r.tick.toNat ≤ 4611686018427387904) && decide (¬ (r.kind = 0 ∧ r.code.v = 0 ∨ r.kind = 16 ∧ r.code.v ≠ 0 ∨ r.kind = 17 ∧ r.code.v ≠ 280)) && (decide (r = usR r) && flR r)) := rfl
  have e0 := eqU8 r.kind 0
  have e16 := eqU8 r.kind 16
  have e17 := eqU8 r.kind 17
  simp only [show ((0 : UInt8).toNat : Int) = 0 from rfl, show ((16 : UInt8).toNat : Int) = 16 from rfl, show ((17 : UInt8).toNat : Int) = 17 from rfl] at e0 e16 e17
  have n0 : (r.code.v == 0) = decide (r.code.v = 0) := by rw [Bool.eq_iff_iff, beq_iff_eq, decide_eq_true_eq]
  have n1 : (r.code.v != 0) = decide (r.code.v ≠ 0) := by rw [Bool.eq_iff_iff, bne_iff_ne, decide_eq_true_eq]
  have n2 : (r.code.v != 280) = decide (r.code.v ≠ 280) := by rw [Bool.eq_iff_iff, bne_iff_ne, decide_eq_true_eq]
  obtain ⟨D, hD⟩ : ∃ D, D = rpV r := ⟨_, rfl⟩
  rw [← hD] at hV ⊢
  obtain ⟨B5, hB5⟩ : ∃ B, B = decide (r = usR r) := ⟨_, rfl⟩
  obtain ⟨F, hF⟩ : ∃ B, B = flR r := ⟨_, rfl⟩
  rw [← hB5] at p3 hV
  rw [← hF] at p4 hV
  obtain ⟨k, hk⟩ : ∃ k, k = r.kind := ⟨_, rfl⟩
  obtain ⟨c, hc⟩ : ∃ c, c = r.code := ⟨_, rfl⟩
  obtain ⟨t, ht⟩ : ∃ t, t = r.tick := ⟨_, rfl⟩
  rw [← hk] at d0 hV e0 e16 e17
  rw [← hc] at p1 d1 hV n0 n1 n2
  rw [← ht] at d2 hV
  obtain ⟨B1, hB1⟩ : ∃ B, B = decide (0 ≤ c.v ∧ c.v ≤ 65535) := ⟨_, rfl⟩
  rw [← hB1] at p1
  clear hk hc ht hD hB5 hF hX hUe hvr' hvc' hU hur huc
  by_cases hA : ¬ (6 < k.toNat ∧ k.toNat < 16 ∨ 18 < k.toNat) ∧ 0 ≤ c.v ∧ c.v ≤ 65535 ∧ t.toNat ≤ 4611686018427387904
  case neg =>
    rw [decide_eq_false hA, Bool.false_and, Bool.false_and] at hV
    obtain rfl := hV
    have key : (6 < (k.toNat : Int) ∧ (k.toNat : Int) < 16) ∨ (6 < (k.toNat : Int) ∧ ¬ (k.toNat : Int) < 16 ∧ 18 < (k.toNat : Int)) ∨ (¬ 6 < (k.toNat : Int) ∧ ¬ 18 < (k.toNat : Int) ∧ B1 = false) ∨ (6 < (k.toNat : Int) ∧ ¬ (k.toNat : Int) < 16 ∧ ¬ 18 < (k.toNat : Int) ∧ B1 = false) ∨ (¬ 6 < (k.toNat : Int) ∧ ¬ 18 < (k.toNat : Int) ∧ B1 = true ∧ 4611686018427387904 < (t.toNat : Int)) ∨ (6 < (k.toNat : Int) ∧ ¬ (k.toNat : Int) < 16 ∧ ¬ 18 < (k.toNat : Int) ∧ B1 = true ∧ 4611686018427387904 < (t.toNat : Int)) := by
      rw [hB1]
      simp only [decide_eq_true_eq, decide_eq_false_iff_not]
      omega
    clear hA hB1 e0 e16 e17 n0 n1 n2 p2 p3 p4
    rcases key with ⟨j1, j2⟩ | ⟨j1, j2, j3⟩ | ⟨j1, j2, rfl⟩ | ⟨j1, j2, j3, rfl⟩ | ⟨j1, j2, rfl, j3⟩ | ⟨j1, j2, j3, rfl, j4⟩
    all_goals
      have D0 := Lib.hid d0; have D1 := Lib.hid d1; have D2 := Lib.hid d2; have P1 := Lib.hid p1; have HVR := Lib.hid hvr; have HVC := Lib.hid hvc; have HONE := Lib.hid hone; have HSZ := Lib.hid hsz; have HUR := Lib.hid hUR; have HUC := Lib.hid hUC; clear d0 d1 d2 p1 hvr hvc hone hsz hUR hUC
      go_enter Tryd.func37, Tryd.ntmps37
      go_wp2_with (first | ((with_reducible refine iD 1 (.box 79 (.tmp 0)) ?_); refine step_boxA (dst := some 1) S 79 (.tmp 0) _ rfl gw ?_; clear S; intro g1 w S) | ((with_reducible refine iO _ (.load 5 _) ?_); refine step_load1 5 _ _ _ rfl (cL) _ Tryd.underlying5 rfl gw ?_) | ((with_reducible refine iO _ (.load 24 _) ?_); refine step_load1 24 _ _ _ rfl (cL) _ Tryd.underlying24 rfl gw ?_) | (go_at_call 65; (with_reducible refine (P1.out _).mono ?_); rintro e w1 ⟨rfl, T⟩; replace S := S.call T; clear T; (try simp only [z4, z5] at S)) | ((with_reducible refine iO _ (.load 23 _) ?_); refine step_load1 23 _ _ _ rfl (cL) _ Tryd.underlying23 rfl gw ?_) | fail)
      go_ret
      exact ⟨rfl, S.nil⟩
  rw [decide_eq_true hA, Bool.true_and] at hV
  have key : (¬ 6 < (k.toNat : Int) ∧ ¬ 18 < (k.toNat : Int)) ∨ (6 < (k.toNat : Int) ∧ ¬ (k.toNat : Int) < 16 ∧ ¬ 18 < (k.toNat : Int)) := by omega
  have i4 : ¬ 4611686018427387904 < (t.toNat : Int) := by omega
  have hB1t : B1 = true := by rw [hB1]; exact decide_eq_true ⟨hA.2.1, hA.2.2.1⟩
  subst hB1t
  clear hA hB1
  by_cases hC : k = 0 ∧ c.v = 0 ∨ k = 16 ∧ c.v ≠ 0 ∨ k = 17 ∧ c.v ≠ 280
  · rw [decide_eq_false (fun h => h hC), Bool.false_and] at hV
    obtain rfl := hV
    have key2 : (((k.toNat : Int) == 0) = true ∧ (c.v == 0) = true) ∨ (((k.toNat : Int) == 0) = false ∧ ((((k.toNat : Int) == 16) = true ∧ (c.v != 0) = true) ∨ (((k.toNat : Int) == 16) = false ∧ ((k.toNat : Int) == 17) = true ∧ (c.v != 280) = true))) := by
      rw [e0, e16, e17, n0, n1, n2]
      rcases hC with ⟨rfl, h⟩ | ⟨rfl, h⟩ | ⟨rfl, h⟩
      · exact .inl ⟨rfl, decide_eq_true h⟩
      · exact .inr ⟨rfl, .inl ⟨rfl, decide_eq_true h⟩⟩
      · exact .inr ⟨rfl, .inr ⟨rfl, rfl, decide_eq_true h⟩⟩
    clear hC e0 e16 e17 n0 n1 n2 p2 p3 p4
    have D0 := Lib.hid d0; have D1 := Lib.hid d1; have D2 := Lib.hid d2; have P1 := Lib.hid p1; have HVR := Lib.hid hvr; have HVC := Lib.hid hvc; have HONE := Lib.hid hone; have HSZ := Lib.hid hsz; have HUR := Lib.hid hUR; have HUC := Lib.hid hUC; clear d0 d1 d2 p1 hvr hvc hone hsz hUR hUC
    go_enter Tryd.func37, Tryd.ntmps37
    go_upto_region 1 with (first | ((with_reducible refine iD 1 (.box 79 (.tmp 0)) ?_); refine step_boxA (dst := some 1) S 79 (.tmp 0) _ rfl gw ?_; clear S; intro g1 w S) | fail)
    go_cut [26] (fun t w' => t = .bool false ∧ Has w0 w' [blk g1 (.cells X 79 (0, 0))])
    case first =>
      clear key2
      rcases key with ⟨j1, j2⟩ | ⟨j1, j2, j3⟩
      all_goals
        go_wp2_with (first | ((with_reducible refine iO _ (.load 5 _) ?_); refine step_load1 5 _ _ _ rfl (cL) _ Tryd.underlying5 rfl gw ?_) | ((with_reducible refine iO _ (.load 24 _) ?_); refine step_load1 24 _ _ _ rfl (cL) _ Tryd.underlying24 rfl gw ?_) | (go_at_call 65; (with_reducible refine (P1.out _).mono ?_); rintro e w1 ⟨rfl, T⟩; replace S := S.call T; clear T; (try simp only [z4, z5] at S)) | ((with_reducible refine iO _ (.load 23 _) ?_); refine step_load1 23 _ _ _ rfl (cL) _ Tryd.underlying23 rfl gw ?_) | fail)
        go_meet
        case rel => exact ⟨by rw [decide_eq_false (by omega)], S⟩
    case rest =>
    clear S key i4
    obtain ⟨rfl, S⟩ := hcut
    rcases key2 with ⟨j1, j2⟩ | ⟨j1, ⟨j2, j3⟩ | ⟨j2, j3, j4⟩⟩
    all_goals
      go_wp2_with (first | ((with_reducible refine iO _ (.load 5 _) ?_); refine step_load1 5 _ _ _ rfl (cL) _ Tryd.underlying5 rfl gw ?_) | ((with_reducible refine iO _ (.load 24 _) ?_); refine step_load1 24 _ _ _ rfl (cL) _ Tryd.underlying24 rfl gw ?_) | fail)
      go_ret
      exact ⟨rfl, S.nil⟩
  rw [decide_eq_true hC, Bool.true_and] at hV
  have key2 : (((k.toNat : Int) == 0) = true ∧ (c.v == 0) = false ∧ ((k.toNat : Int) == 16) = false ∧ ((k.toNat : Int) == 17) = false) ∨ (((k.toNat : Int) == 0) = false ∧ ((((k.toNat : Int) == 16) = true ∧ (c.v != 0) = false ∧ ((k.toNat : Int) == 17) = false) ∨ (((k.toNat : Int) == 16) = false ∧ (((k.toNat : Int) == 17) = false ∨ (((k.toNat : Int) == 17) = true ∧ (c.v != 280) = false))))) := by
    rw [e0, e16, e17, n0, n1, n2]
    by_cases h0 : k = 0
    · subst h0; exact .inl ⟨rfl, decide_eq_false fun h => hC (.inl ⟨rfl, h⟩), rfl, rfl⟩
    refine .inr ⟨decide_eq_false h0, ?_⟩
    by_cases h16 : k = 16
    · subst h16; exact .inl ⟨rfl, decide_eq_false fun h => hC (.inr (.inl ⟨rfl, h⟩)), rfl⟩
    refine .inr ⟨decide_eq_false h16, ?_⟩
    by_cases h17 : k = 17
    · subst h17; exact .inr ⟨rfl, decide_eq_false fun h => hC (.inr (.inr ⟨rfl, h⟩))⟩
    exact .inl (decide_eq_false h17)
  clear hC e0 e16 e17 n0 n1 n2
  have D0 := Lib.hid d0; have D1 := Lib.hid d1; have D2 := Lib.hid d2; have P1 := Lib.hid p1; have P2 := Lib.hid p2; have P3 := Lib.hid p3; have P4 := Lib.hid p4; have HVR := Lib.hid hvr; have HVC := Lib.hid hvc; have HONE := Lib.hid hone; have HSZ := Lib.hid hsz; have HUR := Lib.hid hUR; have HUC := Lib.hid hUC; clear d0 d1 d2 p1 p2 p3 p4 hvr hvc hone hsz hUR hUC
  go_enter Tryd.func37, Tryd.ntmps37
  go_upto_region 1 with (first | ((with_reducible refine iD 1 (.box 79 (.tmp 0)) ?_); refine step_boxA (dst := some 1) S 79 (.tmp 0) _ rfl gw ?_; clear S; intro g1 w S) | fail)
  go_cut [26] (fun t w' => t = .bool false ∧ Has w0 w' [blk g1 (.cells X 79 (0, 0))])
  case first =>
    clear key2
    rcases key with ⟨j1, j2⟩ | ⟨j1, j2, j3⟩
    all_goals
      go_wp2_with (first | ((with_reducible refine iO _ (.load 5 _) ?_); refine step_load1 5 _ _ _ rfl (cL) _ Tryd.underlying5 rfl gw ?_) | ((with_reducible refine iO _ (.load 24 _) ?_); refine step_load1 24 _ _ _ rfl (cL) _ Tryd.underlying24 rfl gw ?_) | (go_at_call 65; (with_reducible refine (P1.out _).mono ?_); rintro e w1 ⟨rfl, T⟩; replace S := S.call T; clear T; (try simp only [z4, z5] at S)) | ((with_reducible refine iO _ (.load 23 _) ?_); refine step_load1 23 _ _ _ rfl (cL) _ Tryd.underlying23 rfl gw ?_) | fail)
      go_meet
      case rel => exact ⟨by rw [decide_eq_false (by omega)], S⟩
  case rest =>
  clear S key i4
  obtain ⟨rfl, S⟩ := hcut
  go_upto_region 3 with (first | fail)
  go_cut [54] (fun t w' => t = .bool false ∧ Has w0 w' [blk g1 (.cells X 79 (0, 0))])
  case first =>
    rcases key2 with ⟨j1, j2, j3, j4⟩ | ⟨j1, ⟨j2, j3, j4⟩ | ⟨j2, j3 | ⟨j3, j4⟩⟩⟩
    all_goals
      go_wp2_with (first | ((with_reducible refine iO _ (.load 5 _) ?_); refine step_load1 5 _ _ _ rfl (cL) _ Tryd.underlying5 rfl gw ?_) | ((with_reducible refine iO _ (.load 24 _) ?_); refine step_load1 24 _ _ _ rfl (cL) _ Tryd.underlying24 rfl gw ?_) | fail)
      go_meet
      case rel => exact ⟨rfl, S⟩
  case rest =>
  clear S key2
  obtain ⟨rfl, S⟩ := hcut
  go_upto_region 5 with (first | fail)
  cases B5 with
  | false =>
    obtain rfl : D = false := hV
    refine wp_rely S [sv [] (.agg X), sv [] (.agg X), sv [1] (.agg U), sv [0, 1, 2] (.bool false), sv [0, 1, 2, 3] (.bool false), sv [0, 1, 2, 3, 4] undef, sv [0, 1, 2, 3, 4, 5] undef, sv [0, 1, 2, 3, 4, 5, 6] (.bool false), sv [0, 1, 2, 3, 4, 5, 6, 7] (.bool false)] ?A1 ?hA1 kR kR kR [0, 1, 2, 3, 4, 5, 6, 7, 8] kR ?hok1 ?fin1
    case hA1 => intro u; simp only [putAll, List.length_cons, List.length_nil, Nat.zero_add, Nat.reduceAdd, dstAt, List.getElem?_toArray, List.getElem?_cons_zero, List.getElem?_cons_succ, Option.bind_some, Act.put, List.setIfInBounds_toArray, List.set_cons_zero, List.set_cons_succ]; rfl
    case hok1 =>
      intro i hi
      obtain rfl | rfl | rfl | rfl | rfl | rfl | rfl | rfl | rfl : i = 0 ∨ i = 1 ∨ i = 2 ∨ i = 3 ∨ i = 4 ∨ i = 5 ∨ i = 6 ∨ i = 7 ∨ i = 8 := by simp only [List.length_cons, List.length_nil, Nat.zero_add, Nat.reduceAdd] at hi; omega
      · clear hi
        refine step_of rfl rfl rfl ?_
        intro u G w hf S
        simp only [fl, z4, z5, z6, z7, ptrBlk] at S ⊢
        refine does_load 79 (.tmp 1) g1 rfl _ _ _ (S.get (r := blk g1 _) pk) _ Tryd.underlying79 rfl 46 kR lN ?_; exact ⟨rfl, S⟩
      · clear hi
        refine step_of rfl rfl rfl ?_
        intro u G w hf S
        simp only [fl, z4, z5, z6, z7, ptrBlk] at S ⊢
        refine does_load 79 (.tmp 1) g1 rfl _ _ _ (S.get (r := blk g1 _) pk) _ Tryd.underlying79 rfl 46 kR lN ?_; exact ⟨rfl, S⟩
      · clear hi
        refine step_of rfl rfl rfl ?_
        intro u G w hf S
        have f1 : u 1 = .agg X := hf 1 (by simp)
        simp only [fl, z4, z5, z6, z7, ptrBlk] at S ⊢
        simp only [f1]
        refine does_fn (args := [(.agg X)]) Tryd.func66 kR kR (P2.out w) rfl ?_
        rintro e w1 ⟨rfl, T⟩
        exact ⟨_, rfl, rfl, S.call T⟩
      · clear hi
        refine step_of rfl rfl rfl ?_
        intro u G w hf S
        have f0 : u 0 = .agg X := hf 0 (by simp)
        have f2 : u 2 = .agg U := hf 2 (by simp)
        simp only [fl, z4, z5, z6, z7, ptrBlk] at S ⊢
        simp only [f0, f2]
        refine does_fn (args := [(.agg X), (.agg U)]) Tryd.func40 kR kR (P3.out w (S.old HVR.out) (S.old HVC.out) (S.old HUR.out) (S.old HUC.out)) rfl ?_
        rintro e w1 ⟨rfl, T⟩
        exact ⟨_, rfl, rfl, S.call T⟩
      · exact oP [3]
      · exact oX [4]
      · exact oX [4]
      · exact oP [4, 6]
      · exact oP [7]
    case fin1 =>
      intro u w hf S
      have hvA := allV hf
      simp only [AllV, RSpec.valAt, sv, Nat.zero_add, Nat.reduceAdd] at hvA
      simp only [fl, z4, z5, z6, z7, ptrBlk] at S
      clear hf
      simp only [List.length_cons, List.length_nil, Nat.zero_add, Nat.reduceAdd, List.drop_succ_cons, List.drop_zero, hvA]
      clear hvA
      go_wp2_with (first | fail)
      go_ret
      exact ⟨rfl, S.nil⟩
  | true =>
    obtain rfl : D = F := hV
    refine wp_rely S [sv [] (.agg X), sv [] (.agg X), sv [1] (.agg U), sv [0, 1, 2] (.bool true), sv [0, 1, 2, 3] (.bool true), sv [0, 1, 2, 3, 4] (.agg X), sv [0, 1, 2, 3, 4, 5] (.bool D), sv [0, 1, 2, 3, 4, 5, 6] (.bool D), sv [0, 1, 2, 3, 4, 5, 6, 7] (.bool D)] ?A2 ?hA2 kR kR kR [0, 1, 2, 3, 4, 5, 6, 7, 8] kR ?hok2 ?fin2
    case hA2 => intro u; simp only [putAll, List.length_cons, List.length_nil, Nat.zero_add, Nat.reduceAdd, dstAt, List.getElem?_toArray, List.getElem?_cons_zero, List.getElem?_cons_succ, Option.bind_some, Act.put, List.setIfInBounds_toArray, List.set_cons_zero, List.set_cons_succ]; rfl
    case hok2 =>
      intro i hi
      obtain rfl | rfl | rfl | rfl | rfl | rfl | rfl | rfl | rfl : i = 0 ∨ i = 1 ∨ i = 2 ∨ i = 3 ∨ i = 4 ∨ i = 5 ∨ i = 6 ∨ i = 7 ∨ i = 8 := by simp only [List.length_cons, List.length_nil, Nat.zero_add, Nat.reduceAdd] at hi; omega
      · clear hi
        refine step_of rfl rfl rfl ?_
        intro u G w hf S
        simp only [fl, z4, z5, z6, z7, ptrBlk] at S ⊢
        refine does_load 79 (.tmp 1) g1 rfl _ _ _ (S.get (r := blk g1 _) pk) _ Tryd.underlying79 rfl 46 kR lN ?_; exact ⟨rfl, S⟩
      · clear hi
        refine step_of rfl rfl rfl ?_
        intro u G w hf S
        simp only [fl, z4, z5, z6, z7, ptrBlk] at S ⊢
        refine does_load 79 (.tmp 1) g1 rfl _ _ _ (S.get (r := blk g1 _) pk) _ Tryd.underlying79 rfl 46 kR lN ?_; exact ⟨rfl, S⟩
      · clear hi
        refine step_of rfl rfl rfl ?_
        intro u G w hf S
        have f1 : u 1 = .agg X := hf 1 (by simp)
        simp only [fl, z4, z5, z6, z7, ptrBlk] at S ⊢
        simp only [f1]
        refine does_fn (args := [(.agg X)]) Tryd.func66 kR kR (P2.out w) rfl ?_
        rintro e w1 ⟨rfl, T⟩
        exact ⟨_, rfl, rfl, S.call T⟩
      · clear hi
        refine step_of rfl rfl rfl ?_
        intro u G w hf S
        have f0 : u 0 = .agg X := hf 0 (by simp)
        have f2 : u 2 = .agg U := hf 2 (by simp)
        simp only [fl, z4, z5, z6, z7, ptrBlk] at S ⊢
        simp only [f0, f2]
        refine does_fn (args := [(.agg X), (.agg U)]) Tryd.func40 kR kR (P3.out w (S.old HVR.out) (S.old HVC.out) (S.old HUR.out) (S.old HUC.out)) rfl ?_
        rintro e w1 ⟨rfl, T⟩
        exact ⟨_, rfl, rfl, S.call T⟩
      · exact oP [3]
      · clear hi
        refine step_of_g rfl rfl ?_
        intro u G w hf S
        have f4 : u 4 = (.bool true) := hf 4 (by simp)
        simp only [fl, z4, z5, z6, z7, ptrBlk] at S ⊢
        simp only [f4]
        refine ⟨rfl, ?_⟩
        refine does_load 79 (.tmp 1) g1 rfl _ _ _ (S.get (r := blk g1 _) pk) _ Tryd.underlying79 rfl 46 kR lN ?_; exact ⟨rfl, S⟩
      · clear hi
        refine step_of_g rfl rfl ?_
        intro u G w hf S
        have f4 : u 4 = (.bool true) := hf 4 (by simp)
        have f5 : u 5 = .agg X := hf 5 (by simp)
        simp only [fl, z4, z5, z6, z7, ptrBlk] at S ⊢
        simp only [f4, f5]
        refine ⟨rfl, ?_⟩
        refine does_fn (args := [(.agg X)]) Tryd.func67 kR kR (P4.out w (S.old HVR.out) (S.old HVC.out)) rfl ?_
        rintro e w1 ⟨rfl, T⟩
        exact ⟨_, rfl, rfl, S.call T⟩
      · exact oP [4, 6]
      · exact oP [7]
    case fin2 =>
      intro u w hf S
      have hvA := allV hf
      simp only [AllV, RSpec.valAt, sv, Nat.zero_add, Nat.reduceAdd] at hvA
      simp only [fl, z4, z5, z6, z7, ptrBlk] at S
      clear hf
      simp only [List.length_cons, List.length_nil, Nat.zero_add, Nat.reduceAdd, List.drop_succ_cons, List.drop_zero, hvA]
      clear hvA
      go_wp2_with (first | fail)
      go_ret
      exact ⟨rfl, S.nil⟩
end Go.Proofs.YtfhkmmagpnojmaaDoor

/- WireReplyBack's walk. No condition but the table of constants and the reach. -/
namespace Go.Proofs.YtfhkmmagpnojmaaDoor
open Go.RowKit

theorem Bs.cell1 {w : World} {b off n c : Nat} {xs : List UInt8} (h : Bs w (.slice (some ⟨b, off, none⟩) n c) xs) (hn : n = xs.length) (i : Nat) (hi : i < xs.length) : w.cell? ⟨b, off + i, none⟩ = some (by8 (xs.getD i 0)) := by
  subst hn
  obtain ⟨b', off', e, hc⟩ := h.atA (by omega)
  simp only [Option.some.injEq, Addr.mk.injEq, and_true] at e
  obtain ⟨rfl, rfl⟩ := e
  exact hc i _ (by simp [List.getD, hi])
set_option maxRecDepth 100000 in
set_option maxHeartbeats 16000000 in
theorem wireReplyBack_walk (r : Rp) (vr vc : Value) (n : Nat) (v : Value) (b : List UInt8) (w0 : World) (hvr : Sl w0 3 vr r.robots.length (r.robots.flatMap sgtL)) (hvc : Sl w0 35 vc r.records.length (r.records.flatMap rcdL)) (hn : n < 65536) (h : Bs w0 v b) (hl : b.length ≤ 140737488351232) (hK : KT w0) :
    Calls Tryd.prog 10 #[.agg (rpL r vr vc).toArray, .int .u16 (n : Int), v] w0 fun e w' => e = .returned (.bool true) ∧ Has w0 w' [] := by
  have S := Has.start w0
  obtain ⟨a0, c0, rfl, k1, k2⟩ := Sl.shape h
  unfold maxLen at k2
  have hone := rpL_one r vr vc (one_sl hvr).1 (one_sl hvc).1
  have pa := fun w h => alive_s w h
  have pv := fun w h1 h2 => refValidReply_s r vr vc w h1 h2
  have p1 := fun w h1 h2 => encodeReply_s r vr vc w h1 h2
  have p2 := fun v b w h hl => decodeReply_s v b w h hl
  unfold MadeRp at p2
  have p3 := fun r ur uc w h1 h2 => checkReply_s r ur uc w h1 h2
  have p4 := fun r ur uc w h1 h2 => encodeReply_s r ur uc w h1 h2
  have ps := fun ur uc w h1 h2 h3 h4 => refSameReply_s r r ur uc vr vc w h1 h2 h3 h4
  simp only [decide_true] at ps
  have H := Lib.hid h; have PA := Lib.hid pa; have PV := Lib.hid pv; have P1 := Lib.hid p1; have P2 := Lib.hid p2; have P3 := Lib.hid p3; have P4 := Lib.hid p4; have PS := Lib.hid ps; have HK := Lib.hid hK; have HL := Lib.hid hl; have HVR := Lib.hid hvr; have HVC := Lib.hid hvc; have HONE := Lib.hid hone; clear h pa pv p1 p2 p3 p4 ps hK hl hvr hvc hone
  go_enter Tryd.func10, Tryd.ntmps10
  go_upto_if 20 with (first | ((with_reducible refine iD 3 (.box 79 (.tmp 0)) ?_); refine step_boxA (dst := some 3) S 79 (.tmp 0) _ rfl gw ?_; clear S; intro g3 w S) | (go_at_call 29; (with_reducible refine (PA.out _ kT).mono ?_); rintro e w1 ⟨rfl, T⟩; replace S := S.call T; clear T; (try simp only [z4, z5] at S)) | ((with_reducible refine iO _ (.load 79 _) ?_); first | (refine step_load S 79 _ _ rfl _ _ _ pk _ Tryd.underlying79 rfl 46 kR lN gw ?_) | (refine step_loadO 79 _ _ rfl _ _ _ (S.old_heap (Hid.out (by assumption))) _ Tryd.underlying79 rfl 46 kR lN gw ?_) | (refine step_loadR 79 _ _ _ rfl _ (S.old_range hy) _ Tryd.underlying79 rfl 46 kR lN _ rfl gw ?_)) | (go_at_call 37; (with_reducible refine (PV.out _ (S.old HVR.out) (S.old HVC.out)).mono ?_); rintro e w1 ⟨rfl, T⟩; replace S := S.call T; clear T; (try simp only [z4, z5] at S)) | fail)
  go_cut [8, 9, 10, 11, 12, 13] (fun _ _ _ _ _ _ w' => Has w0 w' [blk g3 (.cells (rpL r vr vc).toArray 79 (0, 0))])
  case first =>
    cases hv : rpV r with
    | false =>
      go_wp2
      go_meet
      case rel => exact S
    | true =>
      obtain ⟨q2, q3⟩ := rp_parts r hv
      have q1 := encP_take2 r hv
      have q4 := rp_begin r hv n
      have q5 := encP_length r
      have q6 := encP_len r hv
      have p1 := P1.out
      rw [show encRp r = encP r from if_pos hv, show rpE r = 0 from if_pos hv] at p1
      have d1 := dpE_encP r hv
      have d2 := dpR_encP r hv
      obtain ⟨X, hX⟩ : ∃ X, X = encP r := ⟨_, rfl⟩
      rw [← hX] at q1 q2 q3 q4 q5 q6 p1 d1 d2
      have l2 : 13 ≤ X.length := by omega
      rw [val_take2 X (by omega)] at q1
      have pd := fun v w h => P2.out v X w h (by omega)
      rw [d1, d2] at pd
      have h0 : X.length ≠ 0 := by omega
      have i13 : ¬ (X.length : Int) < 13 := by omega
      have i256 : IntKind.i64.wrap (256 * (((X.getD 0 0).toNat : Nat) : Int)) = 256 * (((X.getD 0 0).toNat : Nat) : Int) := by rw [IntKind.wrap_i64]; have := (X.getD 0 0).toNat_lt; omega
      have iL : IntKind.i64.wrap (256 * (((X.getD 0 0).toNat : Nat) : Int) + (((X.getD 1 0).toNat : Nat) : Int)) = (X.length : Int) := by rw [IntKind.wrap_i64]; omega
      have kc := fun (g c : Nat) (w : World) (hs : Bs w (.slice (some ⟨g, 0, none⟩) X.length c) X) (i : Nat) (hi : i < X.length) => (by have := hs.cell1 rfl i hi; rwa [Nat.zero_add] at this : w.cell? ⟨g, i, none⟩ = some (by8 (X.getD i 0)))
      have hjc : (((iw r.code) != 0) = true ∧ X.length = 13) ∨ ((iw r.code) != 0) = false := by
        by_cases hc : r.code.v = 0
        · exact .inr (by show (r.code.v != 0) = false; rw [bne_eq_false_iff_eq]; exact hc)
        · exact .inl ⟨by show (r.code.v != 0) = true; rw [bne_iff_ne]; exact hc, q3 hc⟩
      clear hX q5 q6 hv d1 d2 q3
      obtain ⟨x0, hx0⟩ : ∃ x, x = X.getD 0 0 := ⟨_, rfl⟩
      obtain ⟨x1, hx1⟩ : ∃ x, x = X.getD 1 0 := ⟨_, rfl⟩
      have kc0 := fun (g c : Nat) (w : World) (hs : Bs w (.slice (some ⟨g, 0, none⟩) X.length c) X) => kc g c w hs 0 (by omega)
      have kc1 := fun (g c : Nat) (w : World) (hs : Bs w (.slice (some ⟨g, 0, none⟩) X.length c) X) => kc g c w hs 1 (by omega)
      have kc2 := fun (g c : Nat) (w : World) (hs : Bs w (.slice (some ⟨g, 0, none⟩) X.length c) X) => kc g c w hs 2 (by omega)
      rw [q2] at kc2
      rw [← hx0] at kc0 iL i256
      rw [← hx1] at kc1 iL
      have iw0 : IntKind.i64.wrap (x0.toNat : Int) = (x0.toNat : Int) := by rw [IntKind.wrap_i64]; have := x0.toNat_lt; omega
      have iw1 : IntKind.i64.wrap (x1.toNat : Int) = (x1.toNat : Int) := by rw [IntKind.wrap_i64]; have := x1.toNat_lt; omega
      have n0 : 0 < X.length := by omega
      have n1 : 1 < X.length := by omega
      have n2 : 2 < X.length := by omega
      clear kc q1 q2 hx0 hx1
      have n1I : (1 : Int) < (X.length : Int) := by omega
      have n2I : (2 : Int) < (X.length : Int) := by omega
      have P1 := Lib.hid p1; have PD := Lib.hid pd; have Q4 := Lib.hid q4; have H0 := Lib.hid h0; have L2 := Lib.hid l2; have KC0 := Lib.hid kc0; have KC1 := Lib.hid kc1; have KC2 := Lib.hid kc2; have HJC := Lib.hid hjc; clear p1 pd q4 h0 l2 kc0 kc1 kc2 hjc
      clear PV
      go_upto_region 5 with (first | (go_at_call 39; (with_reducible refine (PD.out _ _ (S.bs (v := v23) pk)).mono ?_); rintro e w1 ⟨xr, xc, rfl, T⟩; replace S := S.call T; clear T; (try simp only [z4, z5] at S); have OX := Lib.hid (rpL_one r xr xc (one_sl (S.sl (v := xr) pk)).1 (one_sl (S.sl (v := xc) pk)).1)) | ((with_reducible refine iO none (.store 79 (.tmp 10) (.tmp 29)) ?_); refine step_store S 79 (.tmp 10) (.tmp 29) g10 _ rfl rfl _ _ pk 46 kR (rpL_size _ _ _) (rpL_size _ _ _) OX.out gw ?_; clear S; intro w S) | ((with_reducible refine iO _ (.load 79 _) ?_); first | (refine step_load S 79 _ _ rfl _ _ _ pk _ Tryd.underlying79 rfl 46 kR lN gw ?_) | (refine step_loadO 79 _ _ rfl _ _ _ (S.old_heap (Hid.out (by assumption))) _ Tryd.underlying79 rfl 46 kR lN gw ?_) | (refine step_loadR 79 _ _ _ rfl _ (S.old_range hy) _ Tryd.underlying79 rfl 46 kR lN _ rfl gw ?_)) | (go_at_call 38; (with_reducible refine (P1.out _ (S.old HVR.out) (S.old HVC.out)).mono ?_); rintro e w1 ⟨v23, rfl, T⟩; replace S := S.call T; clear T; (try simp only [z4, z5] at S)) | ((with_reducible refine iD 10 (.alloc 79) ?_); refine step_alloc (dst := some 10) S 79 (.agg ((rpL rpZ (.slice none 0 0) (.slice none 0 0)).toArray)) ((rpL rpZ (.slice none 0 0) (.slice none 0 0)).toArray) kR rfl gw ?_; clear S; intro g10 w S) | fail)
      obtain ⟨gx, cx, rfl, hcx⟩ := S.row_at (v := v23) pk H0.out
      have HCX := Lib.hid hcx; clear hcx
      rcases HJC.out with ⟨j43, j13⟩ | j43
      · clear HJC
        have j13I : ((X.length : Int) != 13) = false := by rw [bne_eq_false_iff_eq]; omega
        clear j13
        refine wp_rely S [sv [] (.int .i64 0), sv [0] (.bool false), sv [0, 1] (.bool false), sv [0, 1, 2] (.int .i64 0), sv [0, 1, 2, 3] (.bool false), sv [0, 1, 2, 3, 4] (.bool false), sv [0, 1, 2, 3, 4, 5] (.bool false), sv [0, 1, 2, 3, 4, 5, 6] (.agg (rpL r xr xc).toArray), sv [0, 1, 2, 3, 4, 5, 6] (.agg (rpL r vr vc).toArray), sv [0, 1, 2, 3, 4, 5, 6, 7, 8] (.bool true), sv [0, 1, 2, 3, 4, 5, 6, 7, 8, 9] (.bool false), sv [0, 1, 2, 3, 4, 5, 6, 7, 8, 9, 10] (.bool false), sv [0, 1, 2, 3, 4, 5, 6, 7, 8, 9, 10, 11] (.bool false), sv [0, 1, 2, 3, 4, 5, 6, 7, 8, 9, 10, 11, 12] ((.slice (some ⟨gx, 0, none⟩) X.length cx)), sv [0, 1, 2, 3, 4, 5, 6, 7, 8, 9, 10, 11, 12, 13] (.int .i64 (X.length : Int)), sv [0, 1, 2, 3, 4, 5, 6, 7, 8, 9, 10, 11, 12, 13, 14] (.bool false), sv [0, 1, 2, 3, 4, 5, 6, 7, 8, 9, 10, 11, 12, 13, 14, 15] (.bool false), sv [0, 1, 2, 3, 4, 5, 6, 7, 8, 9, 10, 11, 12, 13, 14, 15, 16] (.bool false), sv [0, 1, 2, 3, 4, 5, 6, 7, 8, 9, 10, 11, 12, 13, 14, 15, 16, 17] ((.slice (some ⟨gx, 0, none⟩) X.length cx)), sv [0, 1, 2, 3, 4, 5, 6, 7, 8, 9, 10, 11, 12, 13, 14, 15, 16, 17, 18] (.pointer (some ⟨gx, 0, none⟩)), sv [0, 1, 2, 3, 4, 5, 6, 7, 8, 9, 10, 11, 12, 13, 14, 15, 16, 17, 18, 19] (by8 x0), sv [0, 1, 2, 3, 4, 5, 6, 7, 8, 9, 10, 11, 12, 13, 14, 15, 16, 17, 18, 19, 20] (.int .i64 (x0.toNat : Int)), sv [0, 1, 2, 3, 4, 5, 6, 7, 8, 9, 10, 11, 12, 13, 14, 15, 16, 17, 18, 19, 20, 21] (.int .i64 (256 * (x0.toNat : Int))), sv [0, 1, 2, 3, 4, 5, 6, 7, 8, 9, 10, 11, 12, 13, 14, 15, 16, 17] ((.slice (some ⟨gx, 0, none⟩) X.length cx)), sv [0, 1, 2, 3, 4, 5, 6, 7, 8, 9, 10, 11, 12, 13, 14, 15, 16, 17, 23] (.pointer (some ⟨gx, 1, none⟩)), sv [0, 1, 2, 3, 4, 5, 6, 7, 8, 9, 10, 11, 12, 13, 14, 15, 16, 17, 23, 24] (by8 x1), sv [0, 1, 2, 3, 4, 5, 6, 7, 8, 9, 10, 11, 12, 13, 14, 15, 16, 17, 23, 24, 25] (.int .i64 (x1.toNat : Int)), sv [0, 1, 2, 3, 4, 5, 6, 7, 8, 9, 10, 11, 12, 13, 14, 15, 16, 17, 18, 19, 20, 21, 22, 23, 24, 25, 26] (.int .i64 (X.length : Int)), sv [0, 1, 2, 3, 4, 5, 6, 7, 8, 9, 10, 11, 12, 13, 14, 15, 16, 17] ((.slice (some ⟨gx, 0, none⟩) X.length cx)), sv [0, 1, 2, 3, 4, 5, 6, 7, 8, 9, 10, 11, 12, 13, 14, 15, 16, 17, 28] (.int .i64 (X.length : Int)), sv [0, 1, 2, 3, 4, 5, 6, 7, 8, 9, 10, 11, 12, 13, 14, 15, 16, 17, 18, 19, 20, 21, 22, 23, 24, 25, 26, 27, 28, 29] (.bool false), sv [0, 1, 2, 3, 4, 5, 6, 7, 8, 9, 10, 11, 12, 13, 14, 15, 16, 17, 18, 19, 20, 21, 22, 23, 24, 25, 26, 27, 28, 29, 30] (.bool false), sv [0, 1, 2, 3, 4, 5, 6, 7, 8, 9, 10, 11, 12, 13, 14, 15, 16, 17, 18, 19, 20, 21, 22, 23, 24, 25, 26, 27, 28, 29, 30, 31] (.bool false), sv [0, 1, 2, 3, 4, 5, 6, 7, 8, 9, 10, 11, 12, 13, 14, 15, 16, 17, 18, 19, 20, 21, 22, 23, 24, 25, 26, 27, 28, 29, 30, 31, 32] ((.slice (some ⟨gx, 0, none⟩) X.length cx)), sv [0, 1, 2, 3, 4, 5, 6, 7, 8, 9, 10, 11, 12, 13, 14, 15, 16, 17, 18, 19, 20, 21, 22, 23, 24, 25, 26, 27, 28, 29, 30, 31, 32, 33] (.pointer (some ⟨gx, 2, none⟩)), sv [0, 1, 2, 3, 4, 5, 6, 7, 8, 9, 10, 11, 12, 13, 14, 15, 16, 17, 18, 19, 20, 21, 22, 23, 24, 25, 26, 27, 28, 29, 30, 31, 32, 33, 34] (by8 r.kind), sv [0, 1, 2, 3, 4, 5, 6, 7, 8, 9, 10, 11, 12, 13, 14, 15, 16, 17, 18, 19, 20, 21, 22, 23, 24, 25, 26, 27, 28, 29, 30, 31, 32] (.pointer (some ⟨g3, 0, none⟩)), sv [0, 1, 2, 3, 4, 5, 6, 7, 8, 9, 10, 11, 12, 13, 14, 15, 16, 17, 18, 19, 20, 21, 22, 23, 24, 25, 26, 27, 28, 29, 30, 31, 32, 36] (by8 r.kind), sv [0, 1, 2, 3, 4, 5, 6, 7, 8, 9, 10, 11, 12, 13, 14, 15, 16, 17, 18, 19, 20, 21, 22, 23, 24, 25, 26, 27, 28, 29, 30, 31, 32, 33, 34, 35, 36, 37] (.bool false), sv [0, 1, 2, 3, 4, 5, 6, 7, 8, 9, 10, 11, 12, 13, 14, 15, 16, 17, 18, 19, 20, 21, 22, 23, 24, 25, 26, 27, 28, 29, 30, 31, 32, 33, 34, 35, 36, 37, 38] (.bool false), sv [0, 1, 2, 3, 4, 5, 6, 7, 8, 9, 10, 11, 12, 13, 14, 15, 16, 17, 18, 19, 20, 21, 22, 23, 24, 25, 26, 27, 28, 29, 30, 31, 32, 33, 34, 35, 36, 37, 38, 39] (.bool false), sv [0, 1, 2, 3, 4, 5, 6, 7, 8, 9, 10, 11, 12, 13, 14, 15, 16, 17, 18, 19, 20, 21, 22, 23, 24, 25, 26, 27, 28, 29, 30, 31, 32, 33, 34, 35, 36, 37, 38, 39, 40] (.pointer (some ⟨g3, 1, none⟩)), sv [0, 1, 2, 3, 4, 5, 6, 7, 8, 9, 10, 11, 12, 13, 14, 15, 16, 17, 18, 19, 20, 21, 22, 23, 24, 25, 26, 27, 28, 29, 30, 31, 32, 33, 34, 35, 36, 37, 38, 39, 40, 41] (.int .i64 (iw r.code)), sv [0, 1, 2, 3, 4, 5, 6, 7, 8, 9, 10, 11, 12, 13, 14, 15, 16, 17, 18, 19, 20, 21, 22, 23, 24, 25, 26, 27, 28, 29, 30, 31, 32, 33, 34, 35, 36, 37, 38, 39, 40, 41, 42] (.bool true), sv [0, 1, 2, 3, 4, 5, 6, 7, 8, 9, 10, 11, 12, 13, 14, 15, 16, 17, 18, 19, 20, 21, 22, 23, 24, 25, 26, 27, 28, 29, 30, 31, 32, 33, 34, 35, 36, 37, 38, 39, 40, 41, 42, 43] (.bool true), sv [0, 1, 2, 3, 4, 5, 6, 7, 8, 9, 10, 11, 12, 13, 14, 15, 16, 17, 18, 19, 20, 21, 22, 23, 24, 25, 26, 27, 28, 29, 30, 31, 32, 33, 34, 35, 36, 37, 38, 39, 40, 41, 42, 43, 44] ((.slice (some ⟨gx, 0, none⟩) X.length cx)), sv [0, 1, 2, 3, 4, 5, 6, 7, 8, 9, 10, 11, 12, 13, 14, 15, 16, 17, 18, 19, 20, 21, 22, 23, 24, 25, 26, 27, 28, 29, 30, 31, 32, 33, 34, 35, 36, 37, 38, 39, 40, 41, 42, 43, 44, 45] (.int .i64 (X.length : Int)), sv [0, 1, 2, 3, 4, 5, 6, 7, 8, 9, 10, 11, 12, 13, 14, 15, 16, 17, 18, 19, 20, 21, 22, 23, 24, 25, 26, 27, 28, 29, 30, 31, 32, 33, 34, 35, 36, 37, 38, 39, 40, 41, 42, 43, 44, 45, 46] (.bool false), sv [0, 1, 2, 3, 4, 5, 6, 7, 8, 9, 10, 11, 12, 13, 14, 15, 16, 17, 18, 19, 20, 21, 22, 23, 24, 25, 26, 27, 28, 29, 30, 31, 32, 33, 34, 35, 36, 37, 38, 39, 40, 41, 42, 43, 44, 45, 46, 47] (.bool false), sv [0, 1, 2, 3, 4, 5, 6, 7, 8, 9, 10, 11, 12, 13, 14, 15, 16, 17, 18, 19, 20, 21, 22, 23, 24, 25, 26, 27, 28, 29, 30, 31, 32, 33, 34, 35, 36, 37, 38, 39, 40, 41, 42, 43, 44, 45, 46, 47, 48] (.bool false)] ?A1 ?hA1 kR kR kR [0, 1, 2, 3, 4, 5, 6, 7, 8, 9, 10, 11, 12, 13, 14, 15, 16, 17, 18, 19, 20, 21, 22, 23, 24, 25, 26, 27, 28, 29, 30, 31, 32, 33, 34, 35, 36, 37, 38, 39, 40, 41, 42, 43, 44, 45, 46, 47, 48, 49] kR ?hok1 ?fin1
        case hA1 => intro u; simp only [putAll, List.length_cons, List.length_nil, Nat.zero_add, Nat.reduceAdd, dstAt, List.getElem?_toArray, List.getElem?_cons_zero, List.getElem?_cons_succ, Option.bind_some, Act.put, List.setIfInBounds_toArray, List.set_cons_zero, List.set_cons_succ]; rfl
        case hok1 =>
          intro i hi
          obtain rfl | rfl | rfl | rfl | rfl | rfl | rfl | rfl | rfl | rfl | rfl | rfl | rfl | rfl | rfl | rfl | rfl | rfl | rfl | rfl | rfl | rfl | rfl | rfl | rfl | rfl | rfl | rfl | rfl | rfl | rfl | rfl | rfl | rfl | rfl | rfl | rfl | rfl | rfl | rfl | rfl | rfl | rfl | rfl | rfl | rfl | rfl | rfl | rfl | rfl : i = 0 ∨ i = 1 ∨ i = 2 ∨ i = 3 ∨ i = 4 ∨ i = 5 ∨ i = 6 ∨ i = 7 ∨ i = 8 ∨ i = 9 ∨ i = 10 ∨ i = 11 ∨ i = 12 ∨ i = 13 ∨ i = 14 ∨ i = 15 ∨ i = 16 ∨ i = 17 ∨ i = 18 ∨ i = 19 ∨ i = 20 ∨ i = 21 ∨ i = 22 ∨ i = 23 ∨ i = 24 ∨ i = 25 ∨ i = 26 ∨ i = 27 ∨ i = 28 ∨ i = 29 ∨ i = 30 ∨ i = 31 ∨ i = 32 ∨ i = 33 ∨ i = 34 ∨ i = 35 ∨ i = 36 ∨ i = 37 ∨ i = 38 ∨ i = 39 ∨ i = 40 ∨ i = 41 ∨ i = 42 ∨ i = 43 ∨ i = 44 ∨ i = 45 ∨ i = 46 ∨ i = 47 ∨ i = 48 ∨ i = 49 := by simp only [List.length_cons, List.length_nil, Nat.zero_add, Nat.reduceAdd] at hi; omega
          · exact oP []
          · exact oP [0]
          · exact oP [1]
          · exact oG [2]
          · exact oG [2, 3]
          · exact oP [2, 4]
          · exact oP [5]
          · clear hi
            refine step_of_g rfl rfl ?_
            intro u G w hf S
            have f6 : u 6 = (.bool false) := hf 6 (by simp)
            simp only [fl, z4, z5, z6, z7, ptrBlk] at S ⊢
            simp only [f6]
            refine ⟨rfl, ?_⟩
            refine does_load 79 (.tmp 10) g10 rfl _ _ _ (S.get (r := blk g10 _) pk) _ Tryd.underlying79 rfl 46 kR lN ?_; exact ⟨rfl, S⟩
          · clear hi
            refine step_of_g rfl rfl ?_
            intro u G w hf S
            have f6 : u 6 = (.bool false) := hf 6 (by simp)
            simp only [fl, z4, z5, z6, z7, ptrBlk] at S ⊢
            simp only [f6]
            refine ⟨rfl, ?_⟩
            refine does_load 79 (.tmp 3) g3 rfl _ _ _ (S.get (r := blk g3 _) pk) _ Tryd.underlying79 rfl 46 kR lN ?_; exact ⟨rfl, S⟩
          · clear hi
            refine step_of_g rfl rfl ?_
            intro u G w hf S
            have f6 : u 6 = (.bool false) := hf 6 (by simp)
            have f7 : u 7 = .agg (rpL r xr xc).toArray := hf 7 (by simp)
            have f8 : u 8 = .agg (rpL r vr vc).toArray := hf 8 (by simp)
            simp only [fl, z4, z5, z6, z7, ptrBlk] at S ⊢
            simp only [f6, f7, f8]
            refine ⟨rfl, ?_⟩
            refine does_fn (args := [(.agg (rpL r xr xc).toArray), (.agg (rpL r vr vc).toArray)]) Tryd.func40 kR kR (PS.out xr xc w (S.sl (v := xr) pk) (S.sl (v := xc) pk) (S.old HVR.out) (S.old HVC.out)) rfl ?_
            rintro e w1 ⟨rfl, T⟩
            exact ⟨_, rfl, rfl, S.call T⟩
          · exact oG [6, 9]
          · exact oP [6, 10]
          · exact oP [11]
          · exact oG [12]
          · exact oG [12, 13]
          · exact oG [12, 14]
          · exact oP [12, 15]
          · exact oP [16]
          · exact oG [17]
          · exact oG [17, 18]
          · clear hi
            refine step_of_g rfl rfl ?_
            intro u G w hf S
            have f17 : u 17 = (.bool false) := hf 17 (by simp)
            have f19 : u 19 = .pointer (some ⟨gx, 0, none⟩) := hf 19 (by simp)
            simp only [fl, z4, z5, z6, z7, ptrBlk] at S ⊢
            simp only [f17, f19]
            refine ⟨rfl, ?_⟩
            refine does_load1 5 (.tmp 50) _ _ rfl (KC0.out _ _ w (S.bs (v := .slice (some ⟨gx, 0, none⟩) X.length cx) pk)) _ Tryd.underlying5 rfl ?_; exact ⟨rfl, S⟩
          · exact oG [17, 20]
          · exact oG [17, 21]
          · exact oG [17]
          · exact oG [17, 23]
          · clear hi
            refine step_of_g rfl rfl ?_
            intro u G w hf S
            have f17 : u 17 = (.bool false) := hf 17 (by simp)
            have f24 : u 24 = .pointer (some ⟨gx, 1, none⟩) := hf 24 (by simp)
            simp only [fl, z4, z5, z6, z7, ptrBlk] at S ⊢
            simp only [f17, f24]
            refine ⟨rfl, ?_⟩
            refine does_load1 5 (.tmp 55) _ _ rfl (KC1.out _ _ w (S.bs (v := .slice (some ⟨gx, 0, none⟩) X.length cx) pk)) _ Tryd.underlying5 rfl ?_; exact ⟨rfl, S⟩
          · exact oG [17, 25]
          · exact oG [17, 22, 26]
          · exact oG [17]
          · exact oG [17, 28]
          · exact oG [17, 27, 29]
          · exact oP [17, 30]
          · exact oP [31]
          · exact oG [32]
          · exact oG [32, 33]
          · clear hi
            refine step_of_g rfl rfl ?_
            intro u G w hf S
            have f32 : u 32 = (.bool false) := hf 32 (by simp)
            have f34 : u 34 = .pointer (some ⟨gx, 2, none⟩) := hf 34 (by simp)
            simp only [fl, z4, z5, z6, z7, ptrBlk] at S ⊢
            simp only [f32, f34]
            refine ⟨rfl, ?_⟩
            refine does_load1 5 (.tmp 65) _ _ rfl (KC2.out _ _ w (S.bs (v := .slice (some ⟨gx, 0, none⟩) X.length cx) pk)) _ Tryd.underlying5 rfl ?_; exact ⟨rfl, S⟩
          · exact oG [32]
          · clear hi
            refine step_of_g rfl rfl ?_
            intro u G w hf S
            have f32 : u 32 = (.bool false) := hf 32 (by simp)
            have f36 : u 36 = .pointer (some ⟨g3, 0, none⟩) := hf 36 (by simp)
            simp only [fl, z4, z5, z6, z7, ptrBlk] at S ⊢
            simp only [f32, f36]
            refine ⟨rfl, ?_⟩
            refine does_load1 5 (.tmp 67) _ _ rfl (S.cell (g := g3) pk co) _ Tryd.underlying5 rfl ?_; exact ⟨rfl, S⟩
          · exact oG [32, 35, 37]
          · exact oP [32, 38]
          · exact oP [39]
          · exact oG [40]
          · clear hi
            refine step_of_g rfl rfl ?_
            intro u G w hf S
            have f40 : u 40 = (.bool false) := hf 40 (by simp)
            have f41 : u 41 = .pointer (some ⟨g3, 1, none⟩) := hf 41 (by simp)
            simp only [fl, z4, z5, z6, z7, ptrBlk] at S ⊢
            simp only [f40, f41]
            refine ⟨rfl, ?_⟩
            refine does_load1 24 (.tmp 72) _ _ rfl (S.cell (g := g3) pk co) _ Tryd.underlying24 rfl ?_; exact ⟨rfl, S⟩
          · exact oG [40, 42]
          · exact oG [40, 43]
          · exact oG [44]
          · exact oG [44, 45]
          · exact oG [44, 46]
          · exact oG [40, 44, 47]
          · exact oP [40, 48]
        case fin1 =>
          intro u w hf S
          have hvA := allV hf
          simp only [AllV, RSpec.valAt, sv, Nat.zero_add, Nat.reduceAdd] at hvA
          simp only [fl, z4, z5, z6, z7, ptrBlk] at S
          clear hf
          simp only [List.length_cons, List.length_nil, Nat.zero_add, Nat.reduceAdd, List.drop_succ_cons, List.drop_zero, hvA]
          clear hvA
          clear iL i256 iw0 iw1 n0 n1 n2 n1I n2I j43 j13I
          go_upto_if 85 with (first | fail)
          by_cases hlt : n < X.length
          · have hltI : (n : Int) < (X.length : Int) := by omega
            have q4 := Q4.out hlt
            have pt := fun v w h => P2.out v (X.take n) w h (by rw [List.length_take]; omega)
            obtain ⟨RT, hRT⟩ : ∃ R, R = dpR (X.take n) := ⟨_, rfl⟩
            rw [← hRT] at pt
            have hle : n ≤ X.length := by omega
            clear Q4 hRT
            by_cases h3 : n < 13
            · rw [if_pos h3] at q4
              rw [q4] at pt
              have h3I : (n : Int) < 13 := by omega
              clear q4 h3
              have PT := Lib.hid pt; have HLE := Lib.hid hle; clear pt hle
              clear hlt
              go_wp2_with (first | ((with_reducible refine iD 89 (.slice 25 (.tmp 87) _ _ _) ?_); refine step_cutH 25 5 1 (.tmp 87) _ (some ⟨gx, 0, none⟩) X.length cx .u16 _ n rfl rfl rfl (Nat.le_trans HLE.out HCX.out) Tryd.underlying25 kR gw ?_) | (go_at_call 39; (with_reducible refine (PT.out _ _ ((S.bs (v := .slice (some ⟨gx, 0, none⟩) X.length cx) (xs := X) pk).cutH n HLE.out rfl)).mono ?_); rintro e w1 ⟨zr, zc, rfl, T⟩; replace S := S.call T; clear T; (try simp only [z4, z5] at S); have OZ := Lib.hid (rpL_one RT zr zc (one_sl (S.sl (v := zr) pk)).1 (one_sl (S.sl (v := zc) pk)).1)) | ((with_reducible refine iO none (.store 79 (.tmp 12) (.tmp 91)) ?_); refine step_store S 79 (.tmp 12) (.tmp 91) g12 _ rfl rfl _ _ pk 46 kR (rpL_size _ _ _) (rpL_size _ _ _) OZ.out gw ?_; clear S; intro w S) | ((with_reducible refine iD 12 (.alloc 79) ?_); refine step_alloc (dst := some 12) S 79 (.agg ((rpL rpZ (.slice none 0 0) (.slice none 0 0)).toArray)) ((rpL rpZ (.slice none 0 0) (.slice none 0 0)).toArray) kR rfl gw ?_; clear S; intro g12 w S) | fail)
              go_meet
              case rel => exact S.sub (by repeat (first | exact Sub.nil _ | refine Sub.cons pk ?_))
            · rw [if_neg h3] at q4
              rw [q4] at pt
              have h3I : ¬ (n : Int) < 13 := by omega
              clear q4 h3
              have PT := Lib.hid pt; have HLE := Lib.hid hle; clear pt hle
              clear hlt
              go_wp2_with (first | ((with_reducible refine iD 89 (.slice 25 (.tmp 87) _ _ _) ?_); refine step_cutH 25 5 1 (.tmp 87) _ (some ⟨gx, 0, none⟩) X.length cx .u16 _ n rfl rfl rfl (Nat.le_trans HLE.out HCX.out) Tryd.underlying25 kR gw ?_) | (go_at_call 39; (with_reducible refine (PT.out _ _ ((S.bs (v := .slice (some ⟨gx, 0, none⟩) X.length cx) (xs := X) pk).cutH n HLE.out rfl)).mono ?_); rintro e w1 ⟨zr, zc, rfl, T⟩; replace S := S.call T; clear T; (try simp only [z4, z5] at S); have OZ := Lib.hid (rpL_one RT zr zc (one_sl (S.sl (v := zr) pk)).1 (one_sl (S.sl (v := zc) pk)).1)) | ((with_reducible refine iO none (.store 79 (.tmp 12) (.tmp 91)) ?_); refine step_store S 79 (.tmp 12) (.tmp 91) g12 _ rfl rfl _ _ pk 46 kR (rpL_size _ _ _) (rpL_size _ _ _) OZ.out gw ?_; clear S; intro w S) | ((with_reducible refine iD 12 (.alloc 79) ?_); refine step_alloc (dst := some 12) S 79 (.agg ((rpL rpZ (.slice none 0 0) (.slice none 0 0)).toArray)) ((rpL rpZ (.slice none 0 0) (.slice none 0 0)).toArray) kR rfl gw ?_; clear S; intro g12 w S) | fail)
              go_meet
              case rel => exact S.sub (by repeat (first | exact Sub.nil _ | refine Sub.cons pk ?_))
          · have hltI : ¬ (n : Int) < (X.length : Int) := by omega
            clear hlt Q4
            go_wp2
            go_meet
            case rel => exact S.sub (by repeat (first | exact Sub.nil _ | refine Sub.cons pk ?_))
      · clear HJC
        refine wp_rely S [sv [] (.int .i64 0), sv [0] (.bool false), sv [0, 1] (.bool false), sv [0, 1, 2] (.int .i64 0), sv [0, 1, 2, 3] (.bool false), sv [0, 1, 2, 3, 4] (.bool false), sv [0, 1, 2, 3, 4, 5] (.bool false), sv [0, 1, 2, 3, 4, 5, 6] (.agg (rpL r xr xc).toArray), sv [0, 1, 2, 3, 4, 5, 6] (.agg (rpL r vr vc).toArray), sv [0, 1, 2, 3, 4, 5, 6, 7, 8] (.bool true), sv [0, 1, 2, 3, 4, 5, 6, 7, 8, 9] (.bool false), sv [0, 1, 2, 3, 4, 5, 6, 7, 8, 9, 10] (.bool false), sv [0, 1, 2, 3, 4, 5, 6, 7, 8, 9, 10, 11] (.bool false), sv [0, 1, 2, 3, 4, 5, 6, 7, 8, 9, 10, 11, 12] ((.slice (some ⟨gx, 0, none⟩) X.length cx)), sv [0, 1, 2, 3, 4, 5, 6, 7, 8, 9, 10, 11, 12, 13] (.int .i64 (X.length : Int)), sv [0, 1, 2, 3, 4, 5, 6, 7, 8, 9, 10, 11, 12, 13, 14] (.bool false), sv [0, 1, 2, 3, 4, 5, 6, 7, 8, 9, 10, 11, 12, 13, 14, 15] (.bool false), sv [0, 1, 2, 3, 4, 5, 6, 7, 8, 9, 10, 11, 12, 13, 14, 15, 16] (.bool false), sv [0, 1, 2, 3, 4, 5, 6, 7, 8, 9, 10, 11, 12, 13, 14, 15, 16, 17] ((.slice (some ⟨gx, 0, none⟩) X.length cx)), sv [0, 1, 2, 3, 4, 5, 6, 7, 8, 9, 10, 11, 12, 13, 14, 15, 16, 17, 18] (.pointer (some ⟨gx, 0, none⟩)), sv [0, 1, 2, 3, 4, 5, 6, 7, 8, 9, 10, 11, 12, 13, 14, 15, 16, 17, 18, 19] (by8 x0), sv [0, 1, 2, 3, 4, 5, 6, 7, 8, 9, 10, 11, 12, 13, 14, 15, 16, 17, 18, 19, 20] (.int .i64 (x0.toNat : Int)), sv [0, 1, 2, 3, 4, 5, 6, 7, 8, 9, 10, 11, 12, 13, 14, 15, 16, 17, 18, 19, 20, 21] (.int .i64 (256 * (x0.toNat : Int))), sv [0, 1, 2, 3, 4, 5, 6, 7, 8, 9, 10, 11, 12, 13, 14, 15, 16, 17] ((.slice (some ⟨gx, 0, none⟩) X.length cx)), sv [0, 1, 2, 3, 4, 5, 6, 7, 8, 9, 10, 11, 12, 13, 14, 15, 16, 17, 23] (.pointer (some ⟨gx, 1, none⟩)), sv [0, 1, 2, 3, 4, 5, 6, 7, 8, 9, 10, 11, 12, 13, 14, 15, 16, 17, 23, 24] (by8 x1), sv [0, 1, 2, 3, 4, 5, 6, 7, 8, 9, 10, 11, 12, 13, 14, 15, 16, 17, 23, 24, 25] (.int .i64 (x1.toNat : Int)), sv [0, 1, 2, 3, 4, 5, 6, 7, 8, 9, 10, 11, 12, 13, 14, 15, 16, 17, 18, 19, 20, 21, 22, 23, 24, 25, 26] (.int .i64 (X.length : Int)), sv [0, 1, 2, 3, 4, 5, 6, 7, 8, 9, 10, 11, 12, 13, 14, 15, 16, 17] ((.slice (some ⟨gx, 0, none⟩) X.length cx)), sv [0, 1, 2, 3, 4, 5, 6, 7, 8, 9, 10, 11, 12, 13, 14, 15, 16, 17, 28] (.int .i64 (X.length : Int)), sv [0, 1, 2, 3, 4, 5, 6, 7, 8, 9, 10, 11, 12, 13, 14, 15, 16, 17, 18, 19, 20, 21, 22, 23, 24, 25, 26, 27, 28, 29] (.bool false), sv [0, 1, 2, 3, 4, 5, 6, 7, 8, 9, 10, 11, 12, 13, 14, 15, 16, 17, 18, 19, 20, 21, 22, 23, 24, 25, 26, 27, 28, 29, 30] (.bool false), sv [0, 1, 2, 3, 4, 5, 6, 7, 8, 9, 10, 11, 12, 13, 14, 15, 16, 17, 18, 19, 20, 21, 22, 23, 24, 25, 26, 27, 28, 29, 30, 31] (.bool false), sv [0, 1, 2, 3, 4, 5, 6, 7, 8, 9, 10, 11, 12, 13, 14, 15, 16, 17, 18, 19, 20, 21, 22, 23, 24, 25, 26, 27, 28, 29, 30, 31, 32] ((.slice (some ⟨gx, 0, none⟩) X.length cx)), sv [0, 1, 2, 3, 4, 5, 6, 7, 8, 9, 10, 11, 12, 13, 14, 15, 16, 17, 18, 19, 20, 21, 22, 23, 24, 25, 26, 27, 28, 29, 30, 31, 32, 33] (.pointer (some ⟨gx, 2, none⟩)), sv [0, 1, 2, 3, 4, 5, 6, 7, 8, 9, 10, 11, 12, 13, 14, 15, 16, 17, 18, 19, 20, 21, 22, 23, 24, 25, 26, 27, 28, 29, 30, 31, 32, 33, 34] (by8 r.kind), sv [0, 1, 2, 3, 4, 5, 6, 7, 8, 9, 10, 11, 12, 13, 14, 15, 16, 17, 18, 19, 20, 21, 22, 23, 24, 25, 26, 27, 28, 29, 30, 31, 32] (.pointer (some ⟨g3, 0, none⟩)), sv [0, 1, 2, 3, 4, 5, 6, 7, 8, 9, 10, 11, 12, 13, 14, 15, 16, 17, 18, 19, 20, 21, 22, 23, 24, 25, 26, 27, 28, 29, 30, 31, 32, 36] (by8 r.kind), sv [0, 1, 2, 3, 4, 5, 6, 7, 8, 9, 10, 11, 12, 13, 14, 15, 16, 17, 18, 19, 20, 21, 22, 23, 24, 25, 26, 27, 28, 29, 30, 31, 32, 33, 34, 35, 36, 37] (.bool false), sv [0, 1, 2, 3, 4, 5, 6, 7, 8, 9, 10, 11, 12, 13, 14, 15, 16, 17, 18, 19, 20, 21, 22, 23, 24, 25, 26, 27, 28, 29, 30, 31, 32, 33, 34, 35, 36, 37, 38] (.bool false), sv [0, 1, 2, 3, 4, 5, 6, 7, 8, 9, 10, 11, 12, 13, 14, 15, 16, 17, 18, 19, 20, 21, 22, 23, 24, 25, 26, 27, 28, 29, 30, 31, 32, 33, 34, 35, 36, 37, 38, 39] (.bool false), sv [0, 1, 2, 3, 4, 5, 6, 7, 8, 9, 10, 11, 12, 13, 14, 15, 16, 17, 18, 19, 20, 21, 22, 23, 24, 25, 26, 27, 28, 29, 30, 31, 32, 33, 34, 35, 36, 37, 38, 39, 40] (.pointer (some ⟨g3, 1, none⟩)), sv [0, 1, 2, 3, 4, 5, 6, 7, 8, 9, 10, 11, 12, 13, 14, 15, 16, 17, 18, 19, 20, 21, 22, 23, 24, 25, 26, 27, 28, 29, 30, 31, 32, 33, 34, 35, 36, 37, 38, 39, 40, 41] (.int .i64 (iw r.code)), sv [0, 1, 2, 3, 4, 5, 6, 7, 8, 9, 10, 11, 12, 13, 14, 15, 16, 17, 18, 19, 20, 21, 22, 23, 24, 25, 26, 27, 28, 29, 30, 31, 32, 33, 34, 35, 36, 37, 38, 39, 40, 41, 42] (.bool false), sv [0, 1, 2, 3, 4, 5, 6, 7, 8, 9, 10, 11, 12, 13, 14, 15, 16, 17, 18, 19, 20, 21, 22, 23, 24, 25, 26, 27, 28, 29, 30, 31, 32, 33, 34, 35, 36, 37, 38, 39, 40, 41, 42, 43] (.bool false), sv [0, 1, 2, 3, 4, 5, 6, 7, 8, 9, 10, 11, 12, 13, 14, 15, 16, 17, 18, 19, 20, 21, 22, 23, 24, 25, 26, 27, 28, 29, 30, 31, 32, 33, 34, 35, 36, 37, 38, 39, 40, 41, 42, 43, 44] undef, sv [0, 1, 2, 3, 4, 5, 6, 7, 8, 9, 10, 11, 12, 13, 14, 15, 16, 17, 18, 19, 20, 21, 22, 23, 24, 25, 26, 27, 28, 29, 30, 31, 32, 33, 34, 35, 36, 37, 38, 39, 40, 41, 42, 43, 44, 45] undef, sv [0, 1, 2, 3, 4, 5, 6, 7, 8, 9, 10, 11, 12, 13, 14, 15, 16, 17, 18, 19, 20, 21, 22, 23, 24, 25, 26, 27, 28, 29, 30, 31, 32, 33, 34, 35, 36, 37, 38, 39, 40, 41, 42, 43, 44, 45, 46] undef, sv [0, 1, 2, 3, 4, 5, 6, 7, 8, 9, 10, 11, 12, 13, 14, 15, 16, 17, 18, 19, 20, 21, 22, 23, 24, 25, 26, 27, 28, 29, 30, 31, 32, 33, 34, 35, 36, 37, 38, 39, 40, 41, 42, 43, 44, 45, 46, 47] (.bool false), sv [0, 1, 2, 3, 4, 5, 6, 7, 8, 9, 10, 11, 12, 13, 14, 15, 16, 17, 18, 19, 20, 21, 22, 23, 24, 25, 26, 27, 28, 29, 30, 31, 32, 33, 34, 35, 36, 37, 38, 39, 40, 41, 42, 43, 44, 45, 46, 47, 48] (.bool false)] ?A2 ?hA2 kR kR kR [0, 1, 2, 3, 4, 5, 6, 7, 8, 9, 10, 11, 12, 13, 14, 15, 16, 17, 18, 19, 20, 21, 22, 23, 24, 25, 26, 27, 28, 29, 30, 31, 32, 33, 34, 35, 36, 37, 38, 39, 40, 41, 42, 43, 44, 45, 46, 47, 48, 49] kR ?hok2 ?fin2
        case hA2 => intro u; simp only [putAll, List.length_cons, List.length_nil, Nat.zero_add, Nat.reduceAdd, dstAt, List.getElem?_toArray, List.getElem?_cons_zero, List.getElem?_cons_succ, Option.bind_some, Act.put, List.setIfInBounds_toArray, List.set_cons_zero, List.set_cons_succ]; rfl
        case hok2 =>
          intro i hi
          obtain rfl | rfl | rfl | rfl | rfl | rfl | rfl | rfl | rfl | rfl | rfl | rfl | rfl | rfl | rfl | rfl | rfl | rfl | rfl | rfl | rfl | rfl | rfl | rfl | rfl | rfl | rfl | rfl | rfl | rfl | rfl | rfl | rfl | rfl | rfl | rfl | rfl | rfl | rfl | rfl | rfl | rfl | rfl | rfl | rfl | rfl | rfl | rfl | rfl | rfl : i = 0 ∨ i = 1 ∨ i = 2 ∨ i = 3 ∨ i = 4 ∨ i = 5 ∨ i = 6 ∨ i = 7 ∨ i = 8 ∨ i = 9 ∨ i = 10 ∨ i = 11 ∨ i = 12 ∨ i = 13 ∨ i = 14 ∨ i = 15 ∨ i = 16 ∨ i = 17 ∨ i = 18 ∨ i = 19 ∨ i = 20 ∨ i = 21 ∨ i = 22 ∨ i = 23 ∨ i = 24 ∨ i = 25 ∨ i = 26 ∨ i = 27 ∨ i = 28 ∨ i = 29 ∨ i = 30 ∨ i = 31 ∨ i = 32 ∨ i = 33 ∨ i = 34 ∨ i = 35 ∨ i = 36 ∨ i = 37 ∨ i = 38 ∨ i = 39 ∨ i = 40 ∨ i = 41 ∨ i = 42 ∨ i = 43 ∨ i = 44 ∨ i = 45 ∨ i = 46 ∨ i = 47 ∨ i = 48 ∨ i = 49 := by simp only [List.length_cons, List.length_nil, Nat.zero_add, Nat.reduceAdd] at hi; omega
          · exact oP []
          · exact oP [0]
          · exact oP [1]
          · exact oG [2]
          · exact oG [2, 3]
          · exact oP [2, 4]
          · exact oP [5]
          · clear hi
            refine step_of_g rfl rfl ?_
            intro u G w hf S
            have f6 : u 6 = (.bool false) := hf 6 (by simp)
            simp only [fl, z4, z5, z6, z7, ptrBlk] at S ⊢
            simp only [f6]
            refine ⟨rfl, ?_⟩
            refine does_load 79 (.tmp 10) g10 rfl _ _ _ (S.get (r := blk g10 _) pk) _ Tryd.underlying79 rfl 46 kR lN ?_; exact ⟨rfl, S⟩
          · clear hi
            refine step_of_g rfl rfl ?_
            intro u G w hf S
            have f6 : u 6 = (.bool false) := hf 6 (by simp)
            simp only [fl, z4, z5, z6, z7, ptrBlk] at S ⊢
            simp only [f6]
            refine ⟨rfl, ?_⟩
            refine does_load 79 (.tmp 3) g3 rfl _ _ _ (S.get (r := blk g3 _) pk) _ Tryd.underlying79 rfl 46 kR lN ?_; exact ⟨rfl, S⟩
          · clear hi
            refine step_of_g rfl rfl ?_
            intro u G w hf S
            have f6 : u 6 = (.bool false) := hf 6 (by simp)
            have f7 : u 7 = .agg (rpL r xr xc).toArray := hf 7 (by simp)
            have f8 : u 8 = .agg (rpL r vr vc).toArray := hf 8 (by simp)
            simp only [fl, z4, z5, z6, z7, ptrBlk] at S ⊢
            simp only [f6, f7, f8]
            refine ⟨rfl, ?_⟩
            refine does_fn (args := [(.agg (rpL r xr xc).toArray), (.agg (rpL r vr vc).toArray)]) Tryd.func40 kR kR (PS.out xr xc w (S.sl (v := xr) pk) (S.sl (v := xc) pk) (S.old HVR.out) (S.old HVC.out)) rfl ?_
            rintro e w1 ⟨rfl, T⟩
            exact ⟨_, rfl, rfl, S.call T⟩
          · exact oG [6, 9]
          · exact oP [6, 10]
          · exact oP [11]
          · exact oG [12]
          · exact oG [12, 13]
          · exact oG [12, 14]
          · exact oP [12, 15]
          · exact oP [16]
          · exact oG [17]
          · exact oG [17, 18]
          · clear hi
            refine step_of_g rfl rfl ?_
            intro u G w hf S
            have f17 : u 17 = (.bool false) := hf 17 (by simp)
            have f19 : u 19 = .pointer (some ⟨gx, 0, none⟩) := hf 19 (by simp)
            simp only [fl, z4, z5, z6, z7, ptrBlk] at S ⊢
            simp only [f17, f19]
            refine ⟨rfl, ?_⟩
            refine does_load1 5 (.tmp 50) _ _ rfl (KC0.out _ _ w (S.bs (v := .slice (some ⟨gx, 0, none⟩) X.length cx) pk)) _ Tryd.underlying5 rfl ?_; exact ⟨rfl, S⟩
          · exact oG [17, 20]
          · exact oG [17, 21]
          · exact oG [17]
          · exact oG [17, 23]
          · clear hi
            refine step_of_g rfl rfl ?_
            intro u G w hf S
            have f17 : u 17 = (.bool false) := hf 17 (by simp)
            have f24 : u 24 = .pointer (some ⟨gx, 1, none⟩) := hf 24 (by simp)
            simp only [fl, z4, z5, z6, z7, ptrBlk] at S ⊢
            simp only [f17, f24]
            refine ⟨rfl, ?_⟩
            refine does_load1 5 (.tmp 55) _ _ rfl (KC1.out _ _ w (S.bs (v := .slice (some ⟨gx, 0, none⟩) X.length cx) pk)) _ Tryd.underlying5 rfl ?_; exact ⟨rfl, S⟩
          · exact oG [17, 25]
          · exact oG [17, 22, 26]
          · exact oG [17]
          · exact oG [17, 28]
          · exact oG [17, 27, 29]
          · exact oP [17, 30]
          · exact oP [31]
          · exact oG [32]
          · exact oG [32, 33]
          · clear hi
            refine step_of_g rfl rfl ?_
            intro u G w hf S
            have f32 : u 32 = (.bool false) := hf 32 (by simp)
            have f34 : u 34 = .pointer (some ⟨gx, 2, none⟩) := hf 34 (by simp)
            simp only [fl, z4, z5, z6, z7, ptrBlk] at S ⊢
            simp only [f32, f34]
            refine ⟨rfl, ?_⟩
            refine does_load1 5 (.tmp 65) _ _ rfl (KC2.out _ _ w (S.bs (v := .slice (some ⟨gx, 0, none⟩) X.length cx) pk)) _ Tryd.underlying5 rfl ?_; exact ⟨rfl, S⟩
          · exact oG [32]
          · clear hi
            refine step_of_g rfl rfl ?_
            intro u G w hf S
            have f32 : u 32 = (.bool false) := hf 32 (by simp)
            have f36 : u 36 = .pointer (some ⟨g3, 0, none⟩) := hf 36 (by simp)
            simp only [fl, z4, z5, z6, z7, ptrBlk] at S ⊢
            simp only [f32, f36]
            refine ⟨rfl, ?_⟩
            refine does_load1 5 (.tmp 67) _ _ rfl (S.cell (g := g3) pk co) _ Tryd.underlying5 rfl ?_; exact ⟨rfl, S⟩
          · exact oG [32, 35, 37]
          · exact oP [32, 38]
          · exact oP [39]
          · exact oG [40]
          · clear hi
            refine step_of_g rfl rfl ?_
            intro u G w hf S
            have f40 : u 40 = (.bool false) := hf 40 (by simp)
            have f41 : u 41 = .pointer (some ⟨g3, 1, none⟩) := hf 41 (by simp)
            simp only [fl, z4, z5, z6, z7, ptrBlk] at S ⊢
            simp only [f40, f41]
            refine ⟨rfl, ?_⟩
            refine does_load1 24 (.tmp 72) _ _ rfl (S.cell (g := g3) pk co) _ Tryd.underlying24 rfl ?_; exact ⟨rfl, S⟩
          · exact oG [40, 42]
          · exact oG [40, 43]
          · exact oX [44]
          · exact oX [44]
          · exact oX [44]
          · exact oG [40, 44, 47]
          · exact oP [40, 48]
        case fin2 =>
          intro u w hf S
          have hvA := allV hf
          simp only [AllV, RSpec.valAt, sv, Nat.zero_add, Nat.reduceAdd] at hvA
          simp only [fl, z4, z5, z6, z7, ptrBlk] at S
          clear hf
          simp only [List.length_cons, List.length_nil, Nat.zero_add, Nat.reduceAdd, List.drop_succ_cons, List.drop_zero, hvA]
          clear hvA
          clear iL i256 iw0 iw1 n0 n1 n2 n1I n2I j43
          go_upto_if 85 with (first | fail)
          by_cases hlt : n < X.length
          · have hltI : (n : Int) < (X.length : Int) := by omega
            have q4 := Q4.out hlt
            have pt := fun v w h => P2.out v (X.take n) w h (by rw [List.length_take]; omega)
            obtain ⟨RT, hRT⟩ : ∃ R, R = dpR (X.take n) := ⟨_, rfl⟩
            rw [← hRT] at pt
            have hle : n ≤ X.length := by omega
            clear Q4 hRT
            by_cases h3 : n < 13
            · rw [if_pos h3] at q4
              rw [q4] at pt
              have h3I : (n : Int) < 13 := by omega
              clear q4 h3
              have PT := Lib.hid pt; have HLE := Lib.hid hle; clear pt hle
              clear hlt
              go_wp2_with (first | ((with_reducible refine iD 89 (.slice 25 (.tmp 87) _ _ _) ?_); refine step_cutH 25 5 1 (.tmp 87) _ (some ⟨gx, 0, none⟩) X.length cx .u16 _ n rfl rfl rfl (Nat.le_trans HLE.out HCX.out) Tryd.underlying25 kR gw ?_) | (go_at_call 39; (with_reducible refine (PT.out _ _ ((S.bs (v := .slice (some ⟨gx, 0, none⟩) X.length cx) (xs := X) pk).cutH n HLE.out rfl)).mono ?_); rintro e w1 ⟨zr, zc, rfl, T⟩; replace S := S.call T; clear T; (try simp only [z4, z5] at S); have OZ := Lib.hid (rpL_one RT zr zc (one_sl (S.sl (v := zr) pk)).1 (one_sl (S.sl (v := zc) pk)).1)) | ((with_reducible refine iO none (.store 79 (.tmp 12) (.tmp 91)) ?_); refine step_store S 79 (.tmp 12) (.tmp 91) g12 _ rfl rfl _ _ pk 46 kR (rpL_size _ _ _) (rpL_size _ _ _) OZ.out gw ?_; clear S; intro w S) | ((with_reducible refine iD 12 (.alloc 79) ?_); refine step_alloc (dst := some 12) S 79 (.agg ((rpL rpZ (.slice none 0 0) (.slice none 0 0)).toArray)) ((rpL rpZ (.slice none 0 0) (.slice none 0 0)).toArray) kR rfl gw ?_; clear S; intro g12 w S) | fail)
              go_meet
              case rel => exact S.sub (by repeat (first | exact Sub.nil _ | refine Sub.cons pk ?_))
            · rw [if_neg h3] at q4
              rw [q4] at pt
              have h3I : ¬ (n : Int) < 13 := by omega
              clear q4 h3
              have PT := Lib.hid pt; have HLE := Lib.hid hle; clear pt hle
              clear hlt
              go_wp2_with (first | ((with_reducible refine iD 89 (.slice 25 (.tmp 87) _ _ _) ?_); refine step_cutH 25 5 1 (.tmp 87) _ (some ⟨gx, 0, none⟩) X.length cx .u16 _ n rfl rfl rfl (Nat.le_trans HLE.out HCX.out) Tryd.underlying25 kR gw ?_) | (go_at_call 39; (with_reducible refine (PT.out _ _ ((S.bs (v := .slice (some ⟨gx, 0, none⟩) X.length cx) (xs := X) pk).cutH n HLE.out rfl)).mono ?_); rintro e w1 ⟨zr, zc, rfl, T⟩; replace S := S.call T; clear T; (try simp only [z4, z5] at S); have OZ := Lib.hid (rpL_one RT zr zc (one_sl (S.sl (v := zr) pk)).1 (one_sl (S.sl (v := zc) pk)).1)) | ((with_reducible refine iO none (.store 79 (.tmp 12) (.tmp 91)) ?_); refine step_store S 79 (.tmp 12) (.tmp 91) g12 _ rfl rfl _ _ pk 46 kR (rpL_size _ _ _) (rpL_size _ _ _) OZ.out gw ?_; clear S; intro w S) | ((with_reducible refine iD 12 (.alloc 79) ?_); refine step_alloc (dst := some 12) S 79 (.agg ((rpL rpZ (.slice none 0 0) (.slice none 0 0)).toArray)) ((rpL rpZ (.slice none 0 0) (.slice none 0 0)).toArray) kR rfl gw ?_; clear S; intro g12 w S) | fail)
              go_meet
              case rel => exact S.sub (by repeat (first | exact Sub.nil _ | refine Sub.cons pk ?_))
          · have hltI : ¬ (n : Int) < (X.length : Int) := by omega
            clear hlt Q4
            go_wp2
            go_meet
            case rel => exact S.sub (by repeat (first | exact Sub.nil _ | refine Sub.cons pk ?_))
  case rest =>
    clear S
    have S := hcut
    clear hcut P1 PV PS
    have pb := fun v w h => P2.out v b w h (by have := HL.out; omega)
    obtain ⟨R, hR⟩ : ∃ R, R = dpR b := ⟨_, rfl⟩
    have hbk := rp_back b
    have her := rp_err b
    rw [← hR] at pb hbk
    obtain ⟨DE, hDE⟩ : ∃ E, E = dpE b := ⟨_, rfl⟩
    rw [← hDE] at pb hbk her
    clear hR hDE P2
    by_cases h0 : DE = 0
    · subst h0
      obtain ⟨hv, he⟩ := hbk rfl
      have p3 := P3.out R
      have p4 := P4.out R
      rw [show rpE R = 0 from if_pos hv] at p3 p4
      rw [show encRp R = b from (if_pos hv).trans he] at p4
      clear hbk her hv he
      have PB := Lib.hid pb; have P3 := Lib.hid p3; have P4 := Lib.hid p4; clear pb p3 p4
      go_wp2_with (first | (go_at_call 39; (with_reducible refine (PB.out _ _ (S.oldB H.out)).mono ?_); rintro e w1 ⟨xr, xc, rfl, T⟩; replace S := S.call T; clear T; (try simp only [z4, z5] at S); have OX := Lib.hid (rpL_one R xr xc (one_sl (S.sl (v := xr) pk)).1 (one_sl (S.sl (v := xc) pk)).1)) | ((with_reducible refine iO none (.store 79 (.tmp 14) (.tmp 109)) ?_); refine step_store S 79 (.tmp 14) (.tmp 109) g14 _ rfl rfl _ _ pk 46 kR (rpL_size _ _ _) (rpL_size _ _ _) OX.out gw ?_; clear S; intro w S) | ((with_reducible refine iD 14 (.alloc 79) ?_); refine step_alloc (dst := some 14) S 79 (.agg ((rpL rpZ (.slice none 0 0) (.slice none 0 0)).toArray)) ((rpL rpZ (.slice none 0 0) (.slice none 0 0)).toArray) kR rfl gw ?_; clear S; intro g14 w S) | ((with_reducible refine iO _ (.load 79 _) ?_); first | (refine step_load S 79 _ _ rfl _ _ _ pk _ Tryd.underlying79 rfl 46 kR lN gw ?_) | (refine step_loadO 79 _ _ rfl _ _ _ (S.old_heap (Hid.out (by assumption))) _ Tryd.underlying79 rfl 46 kR lN gw ?_) | (refine step_loadR 79 _ _ _ rfl _ (S.old_range hy) _ Tryd.underlying79 rfl 46 kR lN _ rfl gw ?_)) | (go_at_call 38; (with_reducible refine (P4.out xr xc _ (S.sl (v := xr) pk) (S.sl (v := xc) pk)).mono ?_); rintro e w1 ⟨v124, rfl, T⟩; replace S := S.call T; clear T; (try simp only [z4, z5] at S)) | (go_at_call 41; (with_reducible refine (P3.out xr xc _ (S.sl (v := xr) pk) (S.sl (v := xc) pk)).mono ?_); rintro e w1 ⟨rfl, T⟩; replace S := S.call T; clear T; (try simp only [z4, z5] at S)) | ((with_reducible refine iO _ (.convert 25 9 _) ?_); refine step_conv 25 9 5 _ _ _ rfl Tryd.underlying25 Tryd.underlying5 Tryd.underlying9 bS gw ?_) | fail)
      go_ret
      exact ⟨rfl, S.nil⟩
    · have her2 := her h0
      clear hbk her P3 P4
      have PB := Lib.hid pb; clear pb
      rcases her2 with rfl | rfl
      all_goals
        clear h0
        go_wp2_with (first | (go_at_call 39; (with_reducible refine (PB.out _ _ (S.oldB H.out)).mono ?_); rintro e w1 ⟨xr, xc, rfl, T⟩; replace S := S.call T; clear T; (try simp only [z4, z5] at S); have OX := Lib.hid (rpL_one R xr xc (one_sl (S.sl (v := xr) pk)).1 (one_sl (S.sl (v := xc) pk)).1)) | ((with_reducible refine iO none (.store 79 (.tmp 14) (.tmp 109)) ?_); refine step_store S 79 (.tmp 14) (.tmp 109) g14 _ rfl rfl _ _ pk 46 kR (rpL_size _ _ _) (rpL_size _ _ _) OX.out gw ?_; clear S; intro w S) | ((with_reducible refine iD 14 (.alloc 79) ?_); refine step_alloc (dst := some 14) S 79 (.agg ((rpL rpZ (.slice none 0 0) (.slice none 0 0)).toArray)) ((rpL rpZ (.slice none 0 0) (.slice none 0 0)).toArray) kR rfl gw ?_; clear S; intro g14 w S) | fail)
        go_ret
        exact ⟨rfl, S.nil⟩
end Go.Proofs.YtfhkmmagpnojmaaDoor

/- How a token that came in reads. No condition. -/
namespace Go.Proofs.YtfhkmmagpnojmaaDoor
open Go.ChangeShapes Go.WideShapes Go.ChangeAt Go.RowKit Go.Deep

theorem drop_splitT (cs : List Value) (k n : Nat) : cs.drop k = (cs.drop k).take n ++ cs.drop (k + n) := by
  rw [← List.drop_drop, List.take_append_drop]
set_option maxRecDepth 100000 in
theorem rd_tok {H : Type} {enc : TypeId × Value → H} {W : World} {base : Nat} {spare : Nat → Bool} {held : Bool} {fuel : Nat} {cs : List Value} {x : DataW H × List MemPlace} (h : DataW.trod enc Tryd.prog W base spare held fuel 67 cs = some x) : ∃ t : Tok, cs = tokL t := by
  obtain ⟨hl, hfd⟩ := rd_struct Tryd.underlying67 h
  have hc : Tryd.prog.cellsOf 67 = 36 := by kernel_rfl
  have hc1 : Tryd.prog.cellsOf 23 = 1 := by kernel_rfl
  have hc2 : Tryd.prog.cellsOf 5 = 1 := by kernel_rfl
  have hc3 : Tryd.prog.cellsOf 38 = 1 := by kernel_rfl
  have hc4 : Tryd.prog.cellsOf 22 = 32 := by kernel_rfl
  rw [hc] at hl
  obtain ⟨m0, y0, h0, _⟩ := hfd 0 _ rfl
  obtain ⟨m1, y1, h1, _⟩ := hfd 1 _ rfl
  obtain ⟨m2, y2, h2, _⟩ := hfd 2 _ rfl
  obtain ⟨m3, y3, h3, _⟩ := hfd 3 _ rfl
  obtain ⟨m4, y4, h4, _⟩ := hfd 4 _ rfl
  simp only [List.getElem_toArray, List.getElem_cons_zero, List.getElem_cons_succ] at h0 h1 h2 h3 h4
  rw [hc2] at h0 h1
  rw [hc1] at h2
  rw [hc3] at h3
  rw [hc4] at h4
  obtain ⟨z0, hz0, _, hw0⟩ := DataW.trod_int Tryd.underlying5 h0
  obtain ⟨z1, hz1, _, hw1⟩ := DataW.trod_int Tryd.underlying5 h1
  obtain ⟨z2, hz2, _, hw2⟩ := DataW.trod_int Tryd.underlying23 h2
  obtain ⟨z3, hz3, _, hw3⟩ := DataW.trod_int Tryd.underlying38 h3
  obtain ⟨D, hD, hd⟩ := rd_u8s Tryd.underlying22 Tryd.underlying5 kR kR h4
  have b0 := bounds_u8 hw0
  have b1 := bounds_u8 hw1
  have b2 := bounds_u64 hw2
  have b3 := bounds_u32 hw3
  refine ⟨⟨UInt8.ofNat z0.toNat, UInt8.ofNat z1.toNat, UInt64.ofNat z2.toNat, UInt32.ofNat z3.toNat, D, hD⟩, ?_⟩
  have e2 : cs.drop (4 + 32) = [] := List.drop_of_length_le (by omega)
  have e0 : cs = cs.drop 0 := rfl
  rw [e0, drop_splitT cs 0 1, hz0, drop_splitT cs (0 + 1) 1, hz1, drop_splitT cs (0 + 1 + 1) 1, hz2, drop_splitT cs (0 + 1 + 1 + 1) 1, hz3, drop_splitT cs (0 + 1 + 1 + 1 + 1) 32, hd, e2]
  simp only [tokL, List.cons_append, List.nil_append, List.append_nil, List.cons.injEq, Value.int.injEq, true_and, UInt64.toNat_ofNat', UInt8.toNat_ofNat', UInt32.toNat_ofNat', and_true]
  omega
end Go.Proofs.YtfhkmmagpnojmaaDoor

/- How a slice of records that came in reads. No condition. -/
namespace Go.Proofs.YtfhkmmagpnojmaaDoor
open Go.ChangeShapes Go.WideShapes Go.ChangeAt Go.RowKit Go.Deep

set_option maxRecDepth 100000 in
theorem rd_rec {H : Type} {enc : TypeId × Value → H} {W : World} {base : Nat} {spare : Nat → Bool} {held : Bool} {fuel : Nat} {cs' : List Value} {y : DataW H × List MemPlace} (hy : DataW.trod enc Tryd.prog W base spare held fuel 50 cs' = some y) : ∃ x : Rcd, cs' = rcdL x := by
  obtain ⟨hl, hfd⟩ := rd_struct Tryd.underlying50 hy
  have hc : Tryd.prog.cellsOf 50 = 35 := by kernel_rfl
  have hc0 : Tryd.prog.cellsOf 23 = 1 := by kernel_rfl
  have hc1 : Tryd.prog.cellsOf 5 = 1 := by kernel_rfl
  have hc2 : Tryd.prog.cellsOf 24 = 1 := by kernel_rfl
  have hc3 : Tryd.prog.cellsOf 22 = 32 := by kernel_rfl
  rw [hc] at hl
  obtain ⟨m0, y0, h0, _⟩ := hfd 0 _ rfl
  obtain ⟨m1, y1, h1, _⟩ := hfd 1 _ rfl
  obtain ⟨m2, y2, h2, _⟩ := hfd 2 _ rfl
  obtain ⟨m3, y3, h3, _⟩ := hfd 3 _ rfl
  simp only [List.getElem_toArray, List.getElem_cons_zero, List.getElem_cons_succ] at h0 h1 h2 h3
  rw [hc0] at h0
  rw [hc1] at h1
  rw [hc2] at h2
  rw [hc3] at h3
  obtain ⟨z0, hz0, _, hw0⟩ := DataW.trod_int Tryd.underlying23 h0
  obtain ⟨z1, hz1, _, hw1⟩ := DataW.trod_int Tryd.underlying5 h1
  obtain ⟨z2, hz2, _, hw2⟩ := DataW.trod_int Tryd.underlying24 h2
  obtain ⟨D, hD, hd⟩ := rd_u8s Tryd.underlying22 Tryd.underlying5 kR kR h3
  have b0 := bounds_u64 hw0
  have b1 := bounds_u8 hw1
  have b2 := bounds_i64 hw2
  refine ⟨⟨UInt64.ofNat z0.toNat, UInt8.ofNat z1.toNat, ⟨z2, b2⟩, D, hD⟩, ?_⟩
  have e2 : cs'.drop (3 + 32) = [] := List.drop_of_length_le (by omega)
  have e0 : cs' = cs'.drop 0 := rfl
  rw [e0, drop_splitT cs' 0 1, hz0, drop_splitT cs' (0 + 1) 1, hz1, drop_splitT cs' (0 + 1 + 1) 1, hz2, drop_splitT cs' (0 + 1 + 1 + 1) 32, hd, e2]
  simp only [rcdL, List.cons_append, List.nil_append, List.append_nil, List.cons.injEq, Value.int.injEq, true_and, UInt64.toNat_ofNat', UInt8.toNat_ofNat', and_true]
  omega
set_option maxRecDepth 100000 in
theorem rd_recs {H : Type} {enc : TypeId × Value → H} {W : World} {base : Nat} {spare : Nat → Bool} {held : Bool} {fuel : Nat} {cs : List Value} {d : DataW H × List MemPlace} (hsp : ∀ b, spare b = true)
    (hf : DataW.trod enc Tryd.prog W base spare held fuel 31 cs = some d) :
    ∃ (v : Value) (l : List Rcd), cs = [v] ∧ Sl W 35 v l.length (l.flatMap rcdL) ∧ (Light Tryd.prog 31 d.1 → l.length * 56 ≤ 140737488351232) := by
  obtain ⟨v', xs, hv, hs, hl, _⟩ := rd_slice rcdL (fun _ _ => True) 35 (by decide) hsp Tryd.underlying31 kR rcdL_length (fun m cs' y hy => by
    obtain ⟨x, hx⟩ := rd_rec hy
    exact ⟨x, hx, trivial⟩) hf
  refine ⟨v', xs, hv, hs, fun hlt => ?_⟩
  have h2 := hl hlt
  have h24 : Tryd.prog.bytesOf 50 = 56 := by kernel_rfl
  rw [h24] at h2
  simpa [reachBytes] using h2
end Go.Proofs.YtfhkmmagpnojmaaDoor

/- How a reply that came in reads. No condition. -/
namespace Go.Proofs.YtfhkmmagpnojmaaDoor
open Go.ChangeShapes Go.WideShapes Go.ChangeAt Go.RowKit Go.Deep

set_option maxRecDepth 100000 in
theorem rd_sg {H : Type} {enc : TypeId × Value → H} {W : World} {base : Nat} {spare : Nat → Bool} {held : Bool} {fuel : Nat} {cs' : List Value} {y : DataW H × List MemPlace} (hy : DataW.trod enc Tryd.prog W base spare held fuel 95 cs' = some y) : ∃ x : Sgt, cs' = sgtL x := by
  obtain ⟨hl, hfd⟩ := rd_struct Tryd.underlying95 hy
  have hc : Tryd.prog.cellsOf 95 = 3 := by kernel_rfl
  have hc0 : Tryd.prog.cellsOf 3 = 1 := by kernel_rfl
  have hc1 : Tryd.prog.cellsOf 5 = 1 := by kernel_rfl
  rw [hc] at hl
  obtain ⟨m0, y0, h0, _⟩ := hfd 0 _ rfl
  obtain ⟨m1, y1, h1, _⟩ := hfd 1 _ rfl
  obtain ⟨m2, y2, h2, _⟩ := hfd 2 _ rfl
  simp only [List.getElem_toArray, List.getElem_cons_zero, List.getElem_cons_succ] at h0 h1 h2
  rw [hc0] at h0 h2
  rw [hc1] at h1
  obtain ⟨z0, hz0, _, hw0⟩ := DataW.trod_int Tryd.underlying3 h0
  obtain ⟨z1, hz1, _, hw1⟩ := DataW.trod_int Tryd.underlying5 h1
  obtain ⟨z2, hz2, _, hw2⟩ := DataW.trod_int Tryd.underlying3 h2
  have b0 := bounds_i64 hw0
  have b1 := bounds_u8 hw1
  have b2 := bounds_i64 hw2
  refine ⟨⟨⟨z0, b0⟩, UInt8.ofNat z1.toNat, ⟨z2, b2⟩⟩, ?_⟩
  have e2 : cs'.drop (2 + 1) = [] := List.drop_of_length_le (by omega)
  have e0 : cs' = cs'.drop 0 := rfl
  rw [e0, drop_splitT cs' 0 1, hz0, drop_splitT cs' (0 + 1) 1, hz1, drop_splitT cs' (0 + 1 + 1) 1, hz2, e2]
  simp only [sgtL, List.cons_append, List.nil_append, List.append_nil, List.cons.injEq, Value.int.injEq, true_and, UInt8.toNat_ofNat', and_true]
  omega
set_option maxRecDepth 100000 in
theorem rd_sgs {H : Type} {enc : TypeId × Value → H} {W : World} {base : Nat} {spare : Nat → Bool} {held : Bool} {fuel : Nat} {cs : List Value} {d : DataW H × List MemPlace} (hsp : ∀ b, spare b = true)
    (hf : DataW.trod enc Tryd.prog W base spare held fuel 77 cs = some d) :
    ∃ (v : Value) (l : List Sgt), cs = [v] ∧ Sl W 3 v l.length (l.flatMap sgtL) ∧ (Light Tryd.prog 77 d.1 → l.length * 24 ≤ 140737488351232) := by
  obtain ⟨v', xs, hv, hs, hl, _⟩ := rd_slice sgtL (fun _ _ => True) 3 (by decide) hsp Tryd.underlying77 kR sgtL_length (fun m cs' y hy => by
    obtain ⟨x, hx⟩ := rd_sg hy
    exact ⟨x, hx, trivial⟩) hf
  refine ⟨v', xs, hv, hs, fun hlt => ?_⟩
  have h2 := hl hlt
  have h24 : Tryd.prog.bytesOf 95 = 24 := by kernel_rfl
  rw [h24] at h2
  simpa [reachBytes] using h2
set_option maxRecDepth 100000 in
theorem open_rp {H : Type} {enc : TypeId × Value → H} {W : World} {base base2 : Nat} {spare : Nat → Bool} {held : Bool} {v : Value} {d : DataW H} {pl : List MemPlace} (hsp : ∀ b, spare b = true)
    (hok : Value.okWide Tryd.prog W .any base2 79 v) (h : DataW.Trod enc Tryd.prog W base spare held 79 v d pl) :
    ∃ (r : Rp) (vr vc : Value), v = .agg (rpL r vr vc).toArray ∧ Sl W 3 vr r.robots.length (r.robots.flatMap sgtL) ∧ Sl W 35 vc r.records.length (r.records.flatMap rcdL) ∧ (Light Tryd.prog 79 d → r.robots.length * 24 ≤ 140737488351232 ∧ r.records.length * 56 ≤ 140737488351232) := by
  obtain ⟨cs, fuel, rfl, hf⟩ := open_cells Tryd.underlying79 hok h
  obtain ⟨hl, hfd⟩ := rd_struct Tryd.underlying79 hf
  have hc : Tryd.prog.cellsOf 79 = 46 := by kernel_rfl
  have c8 : Tryd.prog.cellsOf 5 = 1 := by kernel_rfl
  have ce : Tryd.prog.cellsOf 24 = 1 := by kernel_rfl
  have c64 : Tryd.prog.cellsOf 23 = 1 := by kernel_rfl
  have c32 : Tryd.prog.cellsOf 38 = 1 := by kernel_rfl
  have ci : Tryd.prog.cellsOf 3 = 1 := by kernel_rfl
  have cs1 : Tryd.prog.cellsOf 77 = 1 := by kernel_rfl
  have cr1 : Tryd.prog.cellsOf 31 = 1 := by kernel_rfl
  have ct : Tryd.prog.cellsOf 67 = 36 := by kernel_rfl
  rw [hc] at hl
  obtain ⟨m0, y0, h0, _⟩ := hfd 0 _ rfl
  obtain ⟨m1, y1, h1, _⟩ := hfd 1 _ rfl
  obtain ⟨m2, y2, h2, _⟩ := hfd 2 _ rfl
  obtain ⟨m3, y3, h3, _⟩ := hfd 3 _ rfl
  obtain ⟨m4, y4, h4, _⟩ := hfd 4 _ rfl
  obtain ⟨m5, y5, h5, _⟩ := hfd 5 _ rfl
  obtain ⟨m6, y6, h6, lt6⟩ := hfd 6 _ rfl
  obtain ⟨m7, y7, h7, _⟩ := hfd 7 _ rfl
  obtain ⟨m8, y8, h8, _⟩ := hfd 8 _ rfl
  obtain ⟨m9, y9, h9, lt9⟩ := hfd 9 _ rfl
  obtain ⟨m10, y10, h10, _⟩ := hfd 10 _ rfl
  simp only [List.getElem_toArray, List.getElem_cons_zero, List.getElem_cons_succ] at h0 h1 h2 h3 h4 h5 h6 h7 h8 h9 h10 lt6 lt9
  rw [c8] at h0 h4
  rw [ce] at h1
  rw [c64] at h2 h5
  rw [ci] at h3 h7
  rw [cs1] at h6
  rw [c32] at h8
  rw [cr1] at h9
  rw [ct] at h10
  obtain ⟨z0, hz0, _, hw0⟩ := DataW.trod_int Tryd.underlying5 h0
  obtain ⟨z1, hz1, _, hw1⟩ := DataW.trod_int Tryd.underlying24 h1
  obtain ⟨z2, hz2, _, hw2⟩ := DataW.trod_int Tryd.underlying23 h2
  obtain ⟨z3, hz3, _, hw3⟩ := DataW.trod_int Tryd.underlying3 h3
  obtain ⟨z4, hz4, _, hw4⟩ := DataW.trod_int Tryd.underlying5 h4
  obtain ⟨z5, hz5, _, hw5⟩ := DataW.trod_int Tryd.underlying23 h5
  obtain ⟨vr, l, hvr, hs, hwt⟩ := rd_sgs hsp h6
  obtain ⟨z7, hz7, _, hw7⟩ := DataW.trod_int Tryd.underlying3 h7
  obtain ⟨z8, hz8, _, hw8⟩ := DataW.trod_int Tryd.underlying38 h8
  obtain ⟨vc, m, hvc, hr, hwt2⟩ := rd_recs hsp h9
  obtain ⟨tk, htk⟩ := rd_tok h10
  have b0 := bounds_u8 hw0
  have b1 := bounds_i64 hw1
  have b2 := bounds_u64 hw2
  have b3 := bounds_i64 hw3
  have b4 := bounds_u8 hw4
  have b5 := bounds_u64 hw5
  have b7 := bounds_i64 hw7
  have b8 := bounds_u32 hw8
  refine ⟨⟨UInt8.ofNat z0.toNat, ⟨z1, b1⟩, UInt64.ofNat z2.toNat, ⟨z3, b3⟩, UInt8.ofNat z4.toNat, UInt64.ofNat z5.toNat, l, ⟨z7, b7⟩, UInt32.ofNat z8.toNat, m, tk⟩, vr, vc, ?_, hs, hr, fun hlt => ⟨hwt (lt6 hlt), hwt2 (lt9 hlt)⟩⟩
  have e2 : cs.drop (10 + 36) = [] := List.drop_of_length_le (by omega)
  have e0 : cs = cs.drop 0 := rfl
  rw [e0, drop_splitT cs 0 1, hz0, drop_splitT cs (0 + 1) 1, hz1, drop_splitT cs (0 + 1 + 1) 1, hz2, drop_splitT cs (0 + 1 + 1 + 1) 1, hz3, drop_splitT cs (0 + 1 + 1 + 1 + 1) 1, hz4, drop_splitT cs (0 + 1 + 1 + 1 + 1 + 1) 1, hz5, drop_splitT cs (0 + 1 + 1 + 1 + 1 + 1 + 1) 1, hvr, drop_splitT cs (0 + 1 + 1 + 1 + 1 + 1 + 1 + 1) 1, hz7, drop_splitT cs (0 + 1 + 1 + 1 + 1 + 1 + 1 + 1 + 1) 1, hz8, drop_splitT cs (0 + 1 + 1 + 1 + 1 + 1 + 1 + 1 + 1 + 1) 1, hvc, drop_splitT cs (0 + 1 + 1 + 1 + 1 + 1 + 1 + 1 + 1 + 1 + 1) 36, htk, e2]
  simp only [rpL, List.cons_append, List.nil_append, List.append_nil, UInt64.toNat_ofNat', UInt8.toNat_ofNat', UInt32.toNat_ofNat', Value.agg.injEq, List.cons.injEq, Value.int.injEq, true_and, and_true, Array.mk.injEq]
  refine ⟨by omega, by omega, by omega, by omega, by omega⟩
end Go.Proofs.YtfhkmmagpnojmaaDoor

/- What the rows' lists of variables give, a world that meets them, and how arrays that came in read. No condition. -/
namespace Go.Proofs.YtfhkmmagpnojmaaDoor
open Go.ChangeShapes Go.WideShapes Go.ChangeAt Go.RowKit

namespace Laid
theorem gTab : Tryd.prog.globalNamed "dunnage/digest.constants" = some 0 := by kernel_rfl
theorem gTabType : (Tryd.prog.globals[0]?).map (·.type) = some 178 := by kernel_rfl
theorem cellsT : Tryd.prog.cellsOf 178 = 64 := by kernel_rfl
theorem cellsE : Tryd.prog.cellsOf 38 = 1 := by kernel_rfl
def kInts : List Int := kTab.map fun x => (x.toNat : Int)
theorem kInts_eq : kInts.map (fun z => Value.int .u32 z) = kTab.map U32 := by
  unfold kInts
  rw [List.map_map]
  rfl
theorem tab_eq : (Rows.laid_dunnage_digest_constants : DataW Unit) = Lib.tabData .u32 kInts := by kernel_rfl
def list_digest : List (String × DataW Unit) := [("dunnage/digest.constants", Rows.laid_dunnage_digest_constants)]
theorem table_digest {W : World} (h : laidMetH Tryd.prog list_digest W) : KT W := by
  have h1 : laidMet Tryd.prog [("dunnage/digest.constants", Rows.laid_dunnage_digest_constants)] W := h
  rw [tab_eq] at h1
  have h2 := Lib.tabIs_of_head (rest := []) gTab gTabType Tryd.underlying178 Tryd.underlying38 cellsE cellsT h1
  unfold Lib.TabIs at h2
  rw [kInts_eq] at h2
  exact KT.of_var h2
noncomputable def world_digest (os : Os) : World :=
  { World.holding Tryd.prog os ⟨#[], #[], []⟩ with heap := (World.holding Tryd.prog os ⟨#[], #[], []⟩).heap.modify 0 fun
      | .cells _ t frozen => .cells (kTab.map U32).toArray t frozen
      | o => o }
end Laid

end Go.Proofs.YtfhkmmagpnojmaaDoor
