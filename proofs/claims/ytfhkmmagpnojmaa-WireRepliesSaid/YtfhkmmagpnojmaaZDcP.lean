/- The reply of some bytes: what the program's DecodeReply returns. No condition but the reach. -/
import Derived.Test.YtfhkmmagpnojmaaZBd
import Derived.Test.YtfhkmmagpnojmaaZRpZ
import Derived.Test.YtfhkmmagpnojmaaZRpC
set_option linter.unusedSimpArgs false
set_option linter.unusedVariables false
namespace Go.Proofs.Ytfhkmmagpnojmaa
open Go.RowKit

/-- whole, for a reply. -/
theorem wholeP_s (bv : Value) (b : List UInt8) (go : Nat) (w0 w1 : World) (G0 : List Res) (S : Has w0 w1 (blk go (.cells (rpL rpZ nilV nilV).toArray 53 (0, 0)) :: G0)) (hb : Bs w0 bv b) (h13 : 13 ≤ b.length) (hl : b.length ≤ 140737488355328) :
    Calls Try.prog 33 #[bv, .func (.func 48) #[] #[.pointer (some ⟨go, 0, none⟩)]] w1 fun e w' =>
      (psz b = b.length ∧ val (b.take 2) = b.length ∧ e = .returned (.bool true) ∧ ∃ vr vc, Has w0 w' (blk go (.cells (rpL (rpP b) vr vc).toArray 53 (0, 0)) :: rowSg vr (rpP b).robots :: rowRc vc (rpP b).records :: G0)) ∨
      (¬ (psz b = b.length ∧ val (b.take 2) = b.length) ∧ e = .returned (.bool false) ∧ ∃ cs, Has w0 w' (blk go (.cells cs 53 (0, 0)) :: G0)) := by
  refine (whole2_s (α := Value × Value) bv b 48 Try.f48 [.pointer (some ⟨go, 0, none⟩)] w0 w1 _ G0 S hb (by omega) hl Try.func48 kR kR (psz b ≤ b.length) (psz b)
    (fun z => [blk go (.cells (rpL (rpX b) z.1 z.2).toArray 53 (0, 0)), rowSg z.1 (rpX b).robots, rowRc z.2 (rpX b).records]) (fun cs => [blk go (.cells cs 53 (0, 0))]) (fun g w G S => ?_)).mono fun e w' h => ?_
  · refine (decClosP_s g go bv b w0 w G S hb h13 hl).mono fun e w' h => ?_
    rcases h with ⟨h1, h2, z, h3⟩ | ⟨h1, h2, q, cs, h3⟩
    · exact .inl ⟨h1, h2, z, h3⟩
    · exact .inr ⟨by omega, h2, q, cs, h3⟩
  · rcases h with ⟨h1, rfl, z, h3⟩ | ⟨h1, rfl, cs, h3⟩
    · by_cases hx : psz b = b.length ∧ val (b.take 2) = b.length
      · rw [rpX_rpP b hx.1] at h3
        exact .inl ⟨hx.1, hx.2, by rw [decide_eq_true ⟨hx.2, hx.1⟩], z.1, z.2, h3⟩
      · refine .inr ⟨hx, by rw [decide_eq_false (fun h => hx ⟨h.2, h.1⟩)], _, (h3.drop (Pick.tail (Pick.head _ _))).drop (Pick.tail (Pick.head _ _))⟩
    · exact .inr ⟨by omega, rfl, cs, h3⟩
theorem Has.two {w0 w : World} {r s : Res} {G : List Res} (S : Has w0 w (r :: s :: G)) : Has w0 w [r, s] := Has.front (l := [r, s]) (G := G) S
/-- What DecodeReply makes. -/
def MadeRp (w : World) (r : Rp) (E : Int) (e : Ending) (w' : World) : Prop :=
  ∃ vr vc, e = .returned (.tuple #[.agg (rpL r vr vc).toArray, .int .i64 E]) ∧ Has w w' [rowSg vr r.robots, rowRc vc r.records]
theorem Has.zRp {w0 w : World} (S : Has w0 w []) : Has w0 w [rowSg nilV rpZ.robots, rowRc nilV rpZ.records] := (S.nil_row 106 35).nil_row 101 3
set_option maxRecDepth 100000 in
set_option maxHeartbeats 8000000 in
theorem decodeReply_s (bv : Value) (b : List UInt8) (w0 : World) (hb : Bs w0 bv b) (hl : b.length ≤ 140737488355328) :
    Calls Try.prog 22 #[bv] w0 (MadeRp w0 (dpR b) (dpE b)) := by
  have S := Has.start w0
  obtain ⟨a0, c0, rfl, k1, k2⟩ := Sl.shape hb
  unfold maxLen at k2
  by_cases h3 : b.length < 13
  · have hE : dpE b = 10 := if_pos h3
    have hR : dpR b = rpZ := if_neg (by rw [hE]; decide)
    rw [hE, hR]
    have i1 : (b.length : Int) < 13 := by omega
    have HB := Lib.hid hb; clear hb
    clear hE hR
    go_enter Try.func22, Try.ntmps22
    go_wp2_with (first | ((with_reducible refine iD 2 (.alloc 53) ?_); refine step_alloc (dst := some 2) S 53 (.agg ((rpL rpZ (.slice none 0 0) (.slice none 0 0)).toArray)) ((rpL rpZ (.slice none 0 0) (.slice none 0 0)).toArray) kR rfl gw ?_; clear S; intro g2 w S) | ((with_reducible refine iD 9 (.build 53 _) ?_); refine step_buildZ 53 (.agg ((rpL rpZ (.slice none 0 0) (.slice none 0 0)).toArray)) (fun w => by kernel_rfl) gw ?_) | ((with_reducible refine iO none (.store 53 (.tmp 2) (.tmp 9)) ?_); refine step_store S 53 (.tmp 2) (.tmp 9) _ _ rfl rfl _ _ pk 46 kR lN lN on1 gw ?_; clear S; intro w S) | ((with_reducible refine iD 4 (.alloc 53) ?_); refine step_alloc (dst := some 4) S 53 (.agg ((rpL rpZ (.slice none 0 0) (.slice none 0 0)).toArray)) ((rpL rpZ (.slice none 0 0) (.slice none 0 0)).toArray) kR rfl gw ?_; clear S; intro g4 w S) | ((with_reducible refine iD 11 (.makeFunc _ _ _) ?_); refine step_makeF _ [.tmp 4] [.pointer (some ⟨g4, 0, none⟩)] rfl gw ?_) | ((with_reducible refine iO _ (.load 53 _) ?_); first | (refine step_load S 53 _ _ rfl _ _ _ pk _ Try.underlying53 rfl 46 kR lN gw ?_) | (refine step_loadO 53 _ _ rfl _ _ _ (S.old_heap (Hid.out (by assumption))) _ Try.underlying53 rfl 46 kR lN gw ?_) | (refine step_loadR 53 _ _ _ rfl _ (S.old_range hy) _ Try.underlying53 rfl 46 kR lN _ rfl gw ?_)) | ((with_reducible refine iD 20 (.build 53 _) ?_); refine step_buildZ 53 (.agg ((rpL rpZ (.slice none 0 0) (.slice none 0 0)).toArray)) (fun w => by kernel_rfl) gw ?_) | ((with_reducible refine iO none (.store 53 (.tmp 2) (.tmp 20)) ?_); refine step_store S 53 (.tmp 2) (.tmp 20) _ _ rfl rfl _ _ pk 46 kR lN lN on1 gw ?_; clear S; intro w S) | ((with_reducible refine iO none (.store 53 (.tmp 2) (.tmp 21)) ?_); refine step_store S 53 (.tmp 2) (.tmp 21) _ _ rfl rfl _ _ pk 46 kR lN lN on1 gw ?_; clear S; intro w S) | fail)
    refine ret_row_tmp rfl g2 53 _ (S.get pk) _ Try.underlying53 46 kR lN rfl rfl rfl ?_
    exact ⟨nilV, nilV, rfl, S.nil.zRp⟩
  have i1 : ¬ (b.length : Int) < 13 := by omega
  have hE0 : dpE b = if dpOk b then 0 else 11 := if_neg h3
  have p1 := fun go w G0 S => wholeP_s (.slice a0 b.length c0) b go w0 w G0 S hb (by omega) hl
  by_cases hx : psz b = b.length ∧ val (b.take 2) = b.length
  · have hd : dpOk b = rpV (rpP b) := by unfold dpOk; rw [decide_eq_true hx, Bool.true_and]
    have p2 := fun vr vc w h1 h2 => checkReply_s (rpP b) vr vc w h1 h2
    unfold rpE at p2
    rw [hd] at hE0
    have p3 : ∀ go w G0, Has w0 w (blk go (.cells (rpL rpZ nilV nilV).toArray 53 (0, 0)) :: G0) → Calls Try.prog 33 #[.slice a0 b.length c0, .func (.func 48) #[] #[.pointer (some ⟨go, 0, none⟩)]] w fun e w' => e = .returned (.bool true) ∧ ∃ vr vc, Has w0 w' (blk go (.cells (rpL (rpP b) vr vc).toArray 53 (0, 0)) :: rowSg vr (rpP b).robots :: rowRc vc (rpP b).records :: G0) := fun go w G0 S => (p1 go w G0 S).mono fun e w' h => by
      rcases h with ⟨_, _, h1, vr, vc, h2⟩ | ⟨h1, _⟩
      · exact ⟨h1, vr, vc, h2⟩
      · exact absurd hx h1
    unfold dpR
    rw [hE0]
    obtain ⟨X, hX⟩ : ∃ X, X = rpP b := ⟨_, rfl⟩
    rw [← hX] at p2 p3 ⊢
    cases hv : rpV X
    · rw [hv] at p2
      simp only [Bool.false_eq_true, if_false] at p2 ⊢
      have HB := Lib.hid hb; have P2 := Lib.hid p2; have P3 := Lib.hid p3; clear hb p2 p3
      clear p1 hx hd hE0 hX hv h3
      go_enter Try.func22, Try.ntmps22
      go_wp2_with (first | (go_at_call 33; (with_reducible refine (P3.out g4 _ _ S).mono ?_); rintro e w1 ⟨rfl, vr, vc, S1⟩; clear S; have S := S1; clear S1) | ((with_reducible refine iD 2 (.alloc 53) ?_); refine step_alloc (dst := some 2) S 53 (.agg ((rpL rpZ (.slice none 0 0) (.slice none 0 0)).toArray)) ((rpL rpZ (.slice none 0 0) (.slice none 0 0)).toArray) kR rfl gw ?_; clear S; intro g2 w S) | ((with_reducible refine iD 9 (.build 53 _) ?_); refine step_buildZ 53 (.agg ((rpL rpZ (.slice none 0 0) (.slice none 0 0)).toArray)) (fun w => by kernel_rfl) gw ?_) | ((with_reducible refine iO none (.store 53 (.tmp 2) (.tmp 9)) ?_); refine step_store S 53 (.tmp 2) (.tmp 9) _ _ rfl rfl _ _ pk 46 kR lN lN on1 gw ?_; clear S; intro w S) | ((with_reducible refine iD 4 (.alloc 53) ?_); refine step_alloc (dst := some 4) S 53 (.agg ((rpL rpZ (.slice none 0 0) (.slice none 0 0)).toArray)) ((rpL rpZ (.slice none 0 0) (.slice none 0 0)).toArray) kR rfl gw ?_; clear S; intro g4 w S) | ((with_reducible refine iD 11 (.makeFunc _ _ _) ?_); refine step_makeF _ [.tmp 4] [.pointer (some ⟨g4, 0, none⟩)] rfl gw ?_) | ((with_reducible refine iO _ (.load 53 _) ?_); first | (refine step_load S 53 _ _ rfl _ _ _ pk _ Try.underlying53 rfl 46 kR lN gw ?_) | (refine step_loadO 53 _ _ rfl _ _ _ (S.old_heap (Hid.out (by assumption))) _ Try.underlying53 rfl 46 kR lN gw ?_) | (refine step_loadR 53 _ _ _ rfl _ (S.old_range hy) _ Try.underlying53 rfl 46 kR lN _ rfl gw ?_)) | (go_at_call 19; (with_reducible refine (P2.out vr vc _ (S.sl (v := vr) pk) (S.sl (v := vc) pk)).mono ?_); rintro e w1 ⟨rfl, T⟩; replace S := S.call T; clear T; (try simp only [z4, z5] at S)) | ((with_reducible refine iD 20 (.build 53 _) ?_); refine step_buildZ 53 (.agg ((rpL rpZ (.slice none 0 0) (.slice none 0 0)).toArray)) (fun w => by kernel_rfl) gw ?_) | ((with_reducible refine iO none (.store 53 (.tmp 2) (.tmp 20)) ?_); refine step_store S 53 (.tmp 2) (.tmp 20) _ _ rfl rfl _ _ pk 46 kR lN lN on1 gw ?_; clear S; intro w S) | ((with_reducible refine iO none (.store 53 (.tmp 2) (.tmp 21)) ?_); refine step_store S 53 (.tmp 2) (.tmp 21) _ _ rfl rfl _ _ pk 46 kR lN lN on1 gw ?_; clear S; intro w S) | fail)
      refine ret_row_tmp rfl g2 53 _ (S.get pk) _ Try.underlying53 46 kR lN rfl rfl rfl ?_
      exact ⟨nilV, nilV, rfl, S.nil.zRp⟩
    · rw [hv] at p2
      simp only [if_true] at p2 ⊢
      have HB := Lib.hid hb; have P2 := Lib.hid p2; have P3 := Lib.hid p3; clear hb p2 p3
      clear p1 hx hd hE0 hX hv h3
      go_enter Try.func22, Try.ntmps22
      go_wp2_with (first | (go_at_call 33; (with_reducible refine (P3.out g4 _ _ S).mono ?_); rintro e w1 ⟨rfl, vr, vc, S1⟩; have h1 := (one_sl (S1.sl (v := vr) pk)).1; have h2 := (one_sl (S1.sl (v := vc) pk)).1; have hone := rpL_one X vr vc h1 h2; clear S; have S := S1; clear S1) | ((with_reducible refine iO none (.store 53 (.tmp 2) (.tmp 21)) ?_); refine step_store S 53 (.tmp 2) (.tmp 21) _ _ rfl rfl _ _ pk 46 kR lN lN hone rfl ?_; clear S; intro w S) | ((with_reducible refine iD 2 (.alloc 53) ?_); refine step_alloc (dst := some 2) S 53 (.agg ((rpL rpZ (.slice none 0 0) (.slice none 0 0)).toArray)) ((rpL rpZ (.slice none 0 0) (.slice none 0 0)).toArray) kR rfl gw ?_; clear S; intro g2 w S) | ((with_reducible refine iD 9 (.build 53 _) ?_); refine step_buildZ 53 (.agg ((rpL rpZ (.slice none 0 0) (.slice none 0 0)).toArray)) (fun w => by kernel_rfl) gw ?_) | ((with_reducible refine iO none (.store 53 (.tmp 2) (.tmp 9)) ?_); refine step_store S 53 (.tmp 2) (.tmp 9) _ _ rfl rfl _ _ pk 46 kR lN lN on1 gw ?_; clear S; intro w S) | ((with_reducible refine iD 4 (.alloc 53) ?_); refine step_alloc (dst := some 4) S 53 (.agg ((rpL rpZ (.slice none 0 0) (.slice none 0 0)).toArray)) ((rpL rpZ (.slice none 0 0) (.slice none 0 0)).toArray) kR rfl gw ?_; clear S; intro g4 w S) | ((with_reducible refine iD 11 (.makeFunc _ _ _) ?_); refine step_makeF _ [.tmp 4] [.pointer (some ⟨g4, 0, none⟩)] rfl gw ?_) | ((with_reducible refine iO _ (.load 53 _) ?_); first | (refine step_load S 53 _ _ rfl _ _ _ pk _ Try.underlying53 rfl 46 kR lN gw ?_) | (refine step_loadO 53 _ _ rfl _ _ _ (S.old_heap (Hid.out (by assumption))) _ Try.underlying53 rfl 46 kR lN gw ?_) | (refine step_loadR 53 _ _ _ rfl _ (S.old_range hy) _ Try.underlying53 rfl 46 kR lN _ rfl gw ?_)) | (go_at_call 19; (with_reducible refine (P2.out vr vc _ (S.sl (v := vr) pk) (S.sl (v := vc) pk)).mono ?_); rintro e w1 ⟨rfl, T⟩; replace S := S.call T; clear T; (try simp only [z4, z5] at S)) | ((with_reducible refine iD 20 (.build 53 _) ?_); refine step_buildZ 53 (.agg ((rpL rpZ (.slice none 0 0) (.slice none 0 0)).toArray)) (fun w => by kernel_rfl) gw ?_) | ((with_reducible refine iO none (.store 53 (.tmp 2) (.tmp 20)) ?_); refine step_store S 53 (.tmp 2) (.tmp 20) _ _ rfl rfl _ _ pk 46 kR lN lN on1 gw ?_; clear S; intro w S) | ((with_reducible refine iO none (.store 53 (.tmp 2) (.tmp 21)) ?_); refine step_store S 53 (.tmp 2) (.tmp 21) _ _ rfl rfl _ _ pk 46 kR lN lN on1 gw ?_; clear S; intro w S) | fail)
      refine ret_row_tmp rfl g2 53 _ (S.get pk) _ Try.underlying53 46 kR lN rfl rfl rfl ?_
      exact ⟨vr, vc, rfl, (S.pick2 (r := rowSg vr X.robots) (s := rowRc vc X.records) pk pk).two⟩
  · have hd : dpOk b = false := by unfold dpOk; rw [decide_eq_false hx, Bool.false_and]
    have hE : dpE b = 11 := by rw [hE0, hd]; rfl
    have hR : dpR b = rpZ := if_neg (by rw [hE]; decide)
    rw [hE, hR]
    have p3 : ∀ go w G0, Has w0 w (blk go (.cells (rpL rpZ nilV nilV).toArray 53 (0, 0)) :: G0) → Calls Try.prog 33 #[.slice a0 b.length c0, .func (.func 48) #[] #[.pointer (some ⟨go, 0, none⟩)]] w fun e w' => e = .returned (.bool false) ∧ ∃ cs, Has w0 w' (blk go (.cells cs 53 (0, 0)) :: G0) := fun go w G0 S => (p1 go w G0 S).mono fun e w' h => by
      rcases h with ⟨h1, h2, _⟩ | ⟨_, h1, cs, h2⟩
      · exact absurd ⟨h1, h2⟩ hx
      · exact ⟨h1, cs, h2⟩
    have HB := Lib.hid hb; have P3 := Lib.hid p3; clear hb p3
    clear p1 hx hd hE0 hE hR h3
    go_enter Try.func22, Try.ntmps22
    go_wp2_with (first | (go_at_call 33; (with_reducible refine (P3.out g4 _ _ S).mono ?_); rintro e w1 ⟨rfl, cs, S1⟩; clear S; have S := S1; clear S1) | ((with_reducible refine iD 2 (.alloc 53) ?_); refine step_alloc (dst := some 2) S 53 (.agg ((rpL rpZ (.slice none 0 0) (.slice none 0 0)).toArray)) ((rpL rpZ (.slice none 0 0) (.slice none 0 0)).toArray) kR rfl gw ?_; clear S; intro g2 w S) | ((with_reducible refine iD 9 (.build 53 _) ?_); refine step_buildZ 53 (.agg ((rpL rpZ (.slice none 0 0) (.slice none 0 0)).toArray)) (fun w => by kernel_rfl) gw ?_) | ((with_reducible refine iO none (.store 53 (.tmp 2) (.tmp 9)) ?_); refine step_store S 53 (.tmp 2) (.tmp 9) _ _ rfl rfl _ _ pk 46 kR lN lN on1 gw ?_; clear S; intro w S) | ((with_reducible refine iD 4 (.alloc 53) ?_); refine step_alloc (dst := some 4) S 53 (.agg ((rpL rpZ (.slice none 0 0) (.slice none 0 0)).toArray)) ((rpL rpZ (.slice none 0 0) (.slice none 0 0)).toArray) kR rfl gw ?_; clear S; intro g4 w S) | ((with_reducible refine iD 11 (.makeFunc _ _ _) ?_); refine step_makeF _ [.tmp 4] [.pointer (some ⟨g4, 0, none⟩)] rfl gw ?_) | ((with_reducible refine iD 20 (.build 53 _) ?_); refine step_buildZ 53 (.agg ((rpL rpZ (.slice none 0 0) (.slice none 0 0)).toArray)) (fun w => by kernel_rfl) gw ?_) | ((with_reducible refine iO none (.store 53 (.tmp 2) (.tmp 20)) ?_); refine step_store S 53 (.tmp 2) (.tmp 20) _ _ rfl rfl _ _ pk 46 kR lN lN on1 gw ?_; clear S; intro w S) | ((with_reducible refine iO none (.store 53 (.tmp 2) (.tmp 21)) ?_); refine step_store S 53 (.tmp 2) (.tmp 21) _ _ rfl rfl _ _ pk 46 kR lN lN on1 gw ?_; clear S; intro w S) | fail)
    refine ret_row_tmp rfl g2 53 _ (S.get pk) _ Try.underlying53 46 kR lN rfl rfl rfl ?_
    exact ⟨nilV, nilV, rfl, S.nil.zRp⟩
end Go.Proofs.Ytfhkmmagpnojmaa
