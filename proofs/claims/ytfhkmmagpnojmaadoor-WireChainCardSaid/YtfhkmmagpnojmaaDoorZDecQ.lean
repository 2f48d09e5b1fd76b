/- The request of some bytes: what the program's DecodeRequest returns. No condition but the reach. -/
import Derived.Test.YtfhkmmagpnojmaaDoorZBd
import Derived.Test.YtfhkmmagpnojmaaDoorZWhl
set_option linter.unusedSimpArgs false
set_option linter.unusedVariables false
namespace Go.Proofs.YtfhkmmagpnojmaaDoor
open Go.RowKit

/-- whole, for a request. -/
theorem wholeR_s (bv : Value) (b : List UInt8) (go : Nat) (w0 w1 : World) (G0 : List Res) (S : Has w0 w1 (blk go (.cells (rqL rqZ).toArray 69 (0, 0)) :: G0)) (hb : Bs w0 bv b) (h3 : 3 ≤ b.length) (hl : b.length ≤ 140737488355328) :
    Calls Tryd.prog 59 #[bv, .func (.func 60) #[] #[.pointer (some ⟨go, 0, none⟩)]] w1 fun e w' =>
      ∃ cs, e = .returned (.bool (decide (b.length = 49 + bsz (b.getD 2 0) ∧ val (b.take 2) = b.length))) ∧ Has w0 w' (blk go (.cells cs 69 (0, 0)) :: G0) ∧ (b.length = 49 + bsz (b.getD 2 0) → cs = (rqL (rqP b)).toArray) := by
  refine (whole_s bv b 60 Tryd.f60 [.pointer (some ⟨go, 0, none⟩)] w0 w1 _ G0 S hb (by omega) hl Tryd.func60 kR kR (49 + bsz (b.getD 2 0) ≤ b.length) (49 + bsz (b.getD 2 0))
    [blk go (.cells (rqL (rqX b)).toArray 69 (0, 0))] (fun cs => [blk go (.cells cs 69 (0, 0))]) (fun g w G S => ?_)).mono fun e w' h => ?_
  · refine (decClos_s g go bv b w0 w G S hb h3 hl).mono fun e w' h => ?_
    rcases h with ⟨h1, h2, h3⟩ | ⟨h1, h2, q, cs, h3⟩
    · exact .inl ⟨h1, h2, h3⟩
    · exact .inr ⟨by omega, h2, q, cs, h3⟩
  · rcases h with ⟨h1, rfl, h3⟩ | ⟨h1, rfl, cs, h3⟩
    · refine ⟨_, ?_, h3, fun h => by rw [rqX_rqP b h]⟩
      congr 2
      rw [Bool.eq_iff_iff, decide_eq_true_eq, decide_eq_true_eq]
      omega
    · refine ⟨cs, ?_, h3, fun h => absurd h (by omega)⟩
      rw [decide_eq_false (by omega)]
set_option maxRecDepth 100000 in
set_option maxHeartbeats 8000000 in
theorem decodeRequest_s (bv : Value) (b : List UInt8) (w0 : World) (hb : Bs w0 bv b) (hl : b.length ≤ 140737488355328) :
    Calls Tryd.prog 34 #[bv] w0 fun e w' => e = .returned (.tuple #[.agg (rqL (dcR b)).toArray, .int .i64 (dcE b)]) ∧ Has w0 w' [] := by
  have S := Has.start w0
  obtain ⟨a0, c0, rfl, k1, k2⟩ := Sl.shape hb
  unfold maxLen at k2
  by_cases h3 : b.length < 3
  · have hE : dcE b = 10 := if_pos h3
    have hR : dcR b = rqZ := if_neg (by rw [hE]; decide)
    rw [hE, hR]
    have i1 : (b.length : Int) < 3 := by omega
    have HB := Lib.hid hb; clear hb
    clear hE hR
    go_enter Tryd.func34, Tryd.ntmps34
    go_wp2_with (first | ((with_reducible refine iD 2 (.alloc 69) ?_); refine step_alloc (dst := some 2) S 69 (.agg ((rqL rqZ).toArray)) ((rqL rqZ).toArray) kR rfl gw ?_; clear S; intro g2 w S) | ((with_reducible refine iD 9 (.build 69 _) ?_); refine step_buildZ 69 (.agg ((rqL rqZ).toArray)) (fun w => by kernel_rfl) gw ?_) | ((with_reducible refine iO none (.store 69 (.tmp 2) (.tmp 9)) ?_); refine step_store S 69 (.tmp 2) (.tmp 9) _ _ rfl rfl _ _ pk 40 kR lN lN on1 gw ?_; clear S; intro w S) | ((with_reducible refine iD 4 (.alloc 69) ?_); refine step_alloc (dst := some 4) S 69 (.agg ((rqL rqZ).toArray)) ((rqL rqZ).toArray) kR rfl gw ?_; clear S; intro g4 w S) | ((with_reducible refine iD 11 (.makeFunc _ _ _) ?_); refine step_makeF _ [.tmp 4] [.pointer (some ⟨g4, 0, none⟩)] rfl gw ?_) | ((with_reducible refine iO _ (.load 69 _) ?_); first | (refine step_load S 69 _ _ rfl _ _ _ pk _ Tryd.underlying69 rfl 40 kR lN gw ?_) | (refine step_loadO 69 _ _ rfl _ _ _ (S.old_heap (Hid.out (by assumption))) _ Tryd.underlying69 rfl 40 kR lN gw ?_) | (refine step_loadR 69 _ _ _ rfl _ (S.old_range hy) _ Tryd.underlying69 rfl 40 kR lN _ rfl gw ?_)) | ((with_reducible refine iD 20 (.build 69 _) ?_); refine step_buildZ 69 (.agg ((rqL rqZ).toArray)) (fun w => by kernel_rfl) gw ?_) | ((with_reducible refine iO none (.store 69 (.tmp 2) (.tmp 20)) ?_); refine step_store S 69 (.tmp 2) (.tmp 20) _ _ rfl rfl _ _ pk 40 kR lN lN on1 gw ?_; clear S; intro w S) | ((with_reducible refine iO none (.store 69 (.tmp 2) (.tmp 21)) ?_); refine step_store S 69 (.tmp 2) (.tmp 21) _ _ rfl rfl _ _ pk 40 kR lN lN on1 gw ?_; clear S; intro w S) | fail)
    refine ret_row_tmp rfl g2 69 _ (S.get pk) _ Tryd.underlying69 40 kR lN rfl rfl rfl ?_
    exact ⟨rfl, S.nil⟩
  have i1 : ¬ (b.length : Int) < 3 := by omega
  have hE0 : dcE b = if dcOk b then 0 else 11 := if_neg h3
  have p1 := fun go w G0 S => wholeR_s (.slice a0 b.length c0) b go w0 w G0 S hb (by omega) hl
  by_cases hx : b.length = 49 + bsz (b.getD 2 0) ∧ val (b.take 2) = b.length
  · have hd : dcOk b = rqV (rqP b) := by unfold dcOk; rw [decide_eq_true hx, Bool.true_and]
    have p2 := fun w => checkRequest_s (rqP b) w
    unfold rqE at p2
    rw [hd] at hE0
    have p3 : ∀ go w G0, Has w0 w (blk go (.cells (rqL rqZ).toArray 69 (0, 0)) :: G0) → Calls Tryd.prog 59 #[.slice a0 b.length c0, .func (.func 60) #[] #[.pointer (some ⟨go, 0, none⟩)]] w fun e w' => e = .returned (.bool true) ∧ Has w0 w' (blk go (.cells (rqL (rqP b)).toArray 69 (0, 0)) :: G0) := fun go w G0 S => (p1 go w G0 S).mono fun e w' h => by
      obtain ⟨cs, h1, h2, h3⟩ := h
      rw [decide_eq_true hx] at h1
      rw [h3 hx.1] at h2
      exact ⟨h1, h2⟩
    unfold dcR
    rw [hE0]
    obtain ⟨X, hX⟩ : ∃ X, X = rqP b := ⟨_, rfl⟩
    rw [← hX] at p2 p3 ⊢
    cases hv : rqV X
    · rw [hv] at p2
      simp only [Bool.false_eq_true, if_false] at p2 ⊢
      have HB := Lib.hid hb; have P2 := Lib.hid p2; have P3 := Lib.hid p3; clear hb p2 p3
      clear p1 hx hd hE0 hX hv h3
      go_enter Tryd.func34, Tryd.ntmps34
      go_wp2_with (first | (go_at_call 59; (with_reducible refine (P3.out g4 _ _ S).mono ?_); rintro e w1 ⟨rfl, S1⟩; clear S; have S := S1; clear S1) | ((with_reducible refine iD 2 (.alloc 69) ?_); refine step_alloc (dst := some 2) S 69 (.agg ((rqL rqZ).toArray)) ((rqL rqZ).toArray) kR rfl gw ?_; clear S; intro g2 w S) | ((with_reducible refine iD 9 (.build 69 _) ?_); refine step_buildZ 69 (.agg ((rqL rqZ).toArray)) (fun w => by kernel_rfl) gw ?_) | ((with_reducible refine iO none (.store 69 (.tmp 2) (.tmp 9)) ?_); refine step_store S 69 (.tmp 2) (.tmp 9) _ _ rfl rfl _ _ pk 40 kR lN lN on1 gw ?_; clear S; intro w S) | ((with_reducible refine iD 4 (.alloc 69) ?_); refine step_alloc (dst := some 4) S 69 (.agg ((rqL rqZ).toArray)) ((rqL rqZ).toArray) kR rfl gw ?_; clear S; intro g4 w S) | ((with_reducible refine iD 11 (.makeFunc _ _ _) ?_); refine step_makeF _ [.tmp 4] [.pointer (some ⟨g4, 0, none⟩)] rfl gw ?_) | ((with_reducible refine iO _ (.load 69 _) ?_); first | (refine step_load S 69 _ _ rfl _ _ _ pk _ Tryd.underlying69 rfl 40 kR lN gw ?_) | (refine step_loadO 69 _ _ rfl _ _ _ (S.old_heap (Hid.out (by assumption))) _ Tryd.underlying69 rfl 40 kR lN gw ?_) | (refine step_loadR 69 _ _ _ rfl _ (S.old_range hy) _ Tryd.underlying69 rfl 40 kR lN _ rfl gw ?_)) | (go_at_call 36; (with_reducible refine (P2.out _).mono ?_); rintro e w1 ⟨rfl, T⟩; replace S := S.call T; clear T; (try simp only [z4, z5] at S)) | ((with_reducible refine iD 20 (.build 69 _) ?_); refine step_buildZ 69 (.agg ((rqL rqZ).toArray)) (fun w => by kernel_rfl) gw ?_) | ((with_reducible refine iO none (.store 69 (.tmp 2) (.tmp 20)) ?_); refine step_store S 69 (.tmp 2) (.tmp 20) _ _ rfl rfl _ _ pk 40 kR lN lN on1 gw ?_; clear S; intro w S) | ((with_reducible refine iO none (.store 69 (.tmp 2) (.tmp 21)) ?_); refine step_store S 69 (.tmp 2) (.tmp 21) _ _ rfl rfl _ _ pk 40 kR lN lN on1 gw ?_; clear S; intro w S) | fail)
      refine ret_row_tmp rfl g2 69 _ (S.get pk) _ Tryd.underlying69 40 kR lN rfl rfl rfl ?_
      exact ⟨rfl, S.nil⟩
    · rw [hv] at p2
      simp only [if_true] at p2 ⊢
      have HB := Lib.hid hb; have P2 := Lib.hid p2; have P3 := Lib.hid p3; clear hb p2 p3
      clear p1 hx hd hE0 hX hv h3
      go_enter Tryd.func34, Tryd.ntmps34
      go_wp2_with (first | (go_at_call 59; (with_reducible refine (P3.out g4 _ _ S).mono ?_); rintro e w1 ⟨rfl, S1⟩; clear S; have S := S1; clear S1) | ((with_reducible refine iD 2 (.alloc 69) ?_); refine step_alloc (dst := some 2) S 69 (.agg ((rqL rqZ).toArray)) ((rqL rqZ).toArray) kR rfl gw ?_; clear S; intro g2 w S) | ((with_reducible refine iD 9 (.build 69 _) ?_); refine step_buildZ 69 (.agg ((rqL rqZ).toArray)) (fun w => by kernel_rfl) gw ?_) | ((with_reducible refine iO none (.store 69 (.tmp 2) (.tmp 9)) ?_); refine step_store S 69 (.tmp 2) (.tmp 9) _ _ rfl rfl _ _ pk 40 kR lN lN on1 gw ?_; clear S; intro w S) | ((with_reducible refine iD 4 (.alloc 69) ?_); refine step_alloc (dst := some 4) S 69 (.agg ((rqL rqZ).toArray)) ((rqL rqZ).toArray) kR rfl gw ?_; clear S; intro g4 w S) | ((with_reducible refine iD 11 (.makeFunc _ _ _) ?_); refine step_makeF _ [.tmp 4] [.pointer (some ⟨g4, 0, none⟩)] rfl gw ?_) | ((with_reducible refine iO _ (.load 69 _) ?_); first | (refine step_load S 69 _ _ rfl _ _ _ pk _ Tryd.underlying69 rfl 40 kR lN gw ?_) | (refine step_loadO 69 _ _ rfl _ _ _ (S.old_heap (Hid.out (by assumption))) _ Tryd.underlying69 rfl 40 kR lN gw ?_) | (refine step_loadR 69 _ _ _ rfl _ (S.old_range hy) _ Tryd.underlying69 rfl 40 kR lN _ rfl gw ?_)) | (go_at_call 36; (with_reducible refine (P2.out _).mono ?_); rintro e w1 ⟨rfl, T⟩; replace S := S.call T; clear T; (try simp only [z4, z5] at S)) | ((with_reducible refine iD 20 (.build 69 _) ?_); refine step_buildZ 69 (.agg ((rqL rqZ).toArray)) (fun w => by kernel_rfl) gw ?_) | ((with_reducible refine iO none (.store 69 (.tmp 2) (.tmp 20)) ?_); refine step_store S 69 (.tmp 2) (.tmp 20) _ _ rfl rfl _ _ pk 40 kR lN lN on1 gw ?_; clear S; intro w S) | ((with_reducible refine iO none (.store 69 (.tmp 2) (.tmp 21)) ?_); refine step_store S 69 (.tmp 2) (.tmp 21) _ _ rfl rfl _ _ pk 40 kR lN lN on1 gw ?_; clear S; intro w S) | fail)
      refine ret_row_tmp rfl g2 69 _ (S.get pk) _ Tryd.underlying69 40 kR lN rfl rfl rfl ?_
      exact ⟨rfl, S.nil⟩
  · have hd : dcOk b = false := by unfold dcOk; rw [decide_eq_false hx, Bool.false_and]
    have hE : dcE b = 11 := by rw [hE0, hd]; rfl
    have hR : dcR b = rqZ := if_neg (by rw [hE]; decide)
    rw [hE, hR]
    have p3 : ∀ go w G0, Has w0 w (blk go (.cells (rqL rqZ).toArray 69 (0, 0)) :: G0) → Calls Tryd.prog 59 #[.slice a0 b.length c0, .func (.func 60) #[] #[.pointer (some ⟨go, 0, none⟩)]] w fun e w' => e = .returned (.bool false) ∧ ∃ cs, Has w0 w' (blk go (.cells cs 69 (0, 0)) :: G0) := fun go w G0 S => (p1 go w G0 S).mono fun e w' h => by
      obtain ⟨cs, h1, h2, h3⟩ := h
      rw [decide_eq_false hx] at h1
      exact ⟨h1, cs, h2⟩
    have HB := Lib.hid hb; have P3 := Lib.hid p3; clear hb p3
    clear p1 hx hd hE0 hE hR h3
    go_enter Tryd.func34, Tryd.ntmps34
    go_wp2_with (first | (go_at_call 59; (with_reducible refine (P3.out g4 _ _ S).mono ?_); rintro e w1 ⟨rfl, cs, S1⟩; clear S; have S := S1; clear S1) | ((with_reducible refine iD 2 (.alloc 69) ?_); refine step_alloc (dst := some 2) S 69 (.agg ((rqL rqZ).toArray)) ((rqL rqZ).toArray) kR rfl gw ?_; clear S; intro g2 w S) | ((with_reducible refine iD 9 (.build 69 _) ?_); refine step_buildZ 69 (.agg ((rqL rqZ).toArray)) (fun w => by kernel_rfl) gw ?_) | ((with_reducible refine iO none (.store 69 (.tmp 2) (.tmp 9)) ?_); refine step_store S 69 (.tmp 2) (.tmp 9) _ _ rfl rfl _ _ pk 40 kR lN lN on1 gw ?_; clear S; intro w S) | ((with_reducible refine iD 4 (.alloc 69) ?_); refine step_alloc (dst := some 4) S 69 (.agg ((rqL rqZ).toArray)) ((rqL rqZ).toArray) kR rfl gw ?_; clear S; intro g4 w S) | ((with_reducible refine iD 11 (.makeFunc _ _ _) ?_); refine step_makeF _ [.tmp 4] [.pointer (some ⟨g4, 0, none⟩)] rfl gw ?_) | ((with_reducible refine iD 20 (.build 69 _) ?_); refine step_buildZ 69 (.agg ((rqL rqZ).toArray)) (fun w => by kernel_rfl) gw ?_) | ((with_reducible refine iO none (.store 69 (.tmp 2) (.tmp 20)) ?_); refine step_store S 69 (.tmp 2) (.tmp 20) _ _ rfl rfl _ _ pk 40 kR lN lN on1 gw ?_; clear S; intro w S) | ((with_reducible refine iO none (.store 69 (.tmp 2) (.tmp 21)) ?_); refine step_store S 69 (.tmp 2) (.tmp 21) _ _ rfl rfl _ _ pk 40 kR lN lN on1 gw ?_; clear S; intro w S) | fail)
    refine ret_row_tmp rfl g2 69 _ (S.get pk) _ Tryd.underlying69 40 kR lN rfl rfl rfl ?_
    exact ⟨rfl, S.nil⟩
end Go.Proofs.YtfhkmmagpnojmaaDoor
