/- EncodeReply. No condition but the reach. -/
import Derived.Test.YtfhkmmagpnojmaaZBd
import Derived.Test.YtfhkmmagpnojmaaZRpC
import Derived.Test.YtfhkmmagpnojmaaZRpX
set_option linter.unusedSimpArgs false
set_option linter.unusedVariables false
namespace Go.Proofs.Ytfhkmmagpnojmaa
open Go.RowKit

def encRp (r : Rp) : List UInt8 := if rpV r = true then encP r else []
set_option maxRecDepth 100000 in
set_option maxHeartbeats 8000000 in
theorem encodeReply_s (r : Rp) (vr vc : Value) (w0 : World) (hvr : Sl w0 3 vr r.robots.length (r.robots.flatMap sgtL)) (hvc : Sl w0 35 vc r.records.length (r.records.flatMap rcdL)) :
    Calls Try.prog 17 #[.agg (rpL r vr vc).toArray] w0 (MadeE w0 (encRp r) (rpE r)) := by
  have S := Has.start w0
  have hck := fun w h1 h2 => checkReply_s r vr vc w h1 h2
  obtain ⟨ar, cr, rfl, _, _⟩ := Sl.shape hvr
  obtain ⟨ac, cc, rfl, _, _⟩ := Sl.shape hvc
  cases hv : rpV r with
  | false =>
    have hE : rpE r = 8 := if_neg (by rw [hv]; decide)
    have hX : encRp r = [] := if_neg (by rw [hv]; decide)
    rw [hE] at hck
    rw [hE, hX]
    obtain ⟨vr, hvr'⟩ : ∃ v, v = Value.slice ar r.robots.length cr := ⟨_, rfl⟩
    obtain ⟨vc, hvc'⟩ : ∃ v, v = Value.slice ac r.records.length cc := ⟨_, rfl⟩
    rw [← hvr'] at hck hvr ⊢
    rw [← hvc'] at hck hvc ⊢
    have HCK := Lib.hid hck; have HVR := Lib.hid hvr; have HVC := Lib.hid hvc; clear hck hvr hvc
    clear hE hX hv hvr' hvc'
    go_enter Try.func17, Try.ntmps17
    go_wp2_with (first | ((with_reducible refine iD 1 (.box 53 (.tmp 0)) ?_); refine step_boxA (dst := some 1) S 53 (.tmp 0) _ rfl gw ?_; clear S; intro g1 w S) | ((with_reducible refine iO _ (.load 53 _) ?_); first | (refine step_load S 53 _ _ rfl _ _ _ pk _ Try.underlying53 rfl 46 kR lN rfl ?_) | (refine step_loadO 53 _ _ rfl _ _ _ (S.old_heap (Hid.out (by assumption))) _ Try.underlying53 rfl 46 kR lN rfl ?_) | (refine step_loadR 53 _ _ _ rfl _ (S.old_range hy) _ Try.underlying53 rfl 46 kR lN _ rfl rfl ?_)) | (go_at_call 19; (with_reducible refine (HCK.out _ (S.old HVR.out) (S.old HVC.out)).mono ?_); rintro e w1 ⟨rfl, T⟩; replace S := S.call T; clear T; (try simp only [z4, z5] at S)) | ((with_reducible refine iD 11 (.build 71 _) ?_); refine step_buildZ 71 (.agg (#[.slice none 0 0])) (fun w => by kernel_rfl) rfl ?_) | ((with_reducible refine iD 12 (.box 71 (.tmp 11)) ?_); refine step_boxA (dst := some 12) S 71 (.tmp 11) _ rfl rfl ?_; clear S; intro g12 w S) | ((with_reducible refine iO _ (.load 5 _) ?_); refine step_load1 5 _ _ _ rfl (cL) _ Try.underlying5 rfl rfl ?_) | ((with_reducible refine iO _ (.load 24 _) ?_); refine step_load1 24 _ _ _ rfl (cL) _ Try.underlying24 rfl rfl ?_) | ((with_reducible refine iO _ (.load 32 _) ?_); refine step_load1 32 _ _ _ rfl (cL) _ Try.underlying32 rfl rfl ?_) | fail)
    go_ret2
    exact ⟨_, rfl, (S.nil.nil8).sub (by repeat (first | exact Sub.nil _ | refine Sub.cons pk ?_))⟩
  | true =>
    have hE : rpE r = 0 := if_pos hv
    have hX : encRp r = encP r := if_pos hv
    rw [hE] at hck
    rw [hE, hX]
    have heq := rpV_eq r
    rw [hv] at heq
    have hb5 : decide (0 ≤ r.code.v ∧ r.code.v ≤ 65535) = true ∧ decide (r.tick.toNat ≤ 4611686018427387904) = true ∧ bkV (bk r) r = true := by
      have := heq.symm
      simp only [Bool.and_eq_true] at this
      exact ⟨this.1, this.2.2.1, this.2.2.2.1⟩
    obtain ⟨hc0, ht0, hbd⟩ := hb5
    have hc0 := of_decide_eq_true hc0
    have p0 := fun w => replyBody_s r ar ac r.robots.length cr r.records.length cc w
    obtain ⟨fw, aw, mv, p4⟩ := bodyWrite_s (bk r) r hbd ar ac r.robots.length cr r.records.length cc
    have hbl := rpBK_len (bk r) r hbd
    have hin : inP r = numB r.kind.toNat 1 ++ numB r.code.v.toNat 2 ++ numB r.tick.toNat 8 ++ rpBK (bk r) r := by unfold inP; rw [rpB_bk]
    unfold bodyV at p0
    have d0 := rpL_0 r (.slice ar r.robots.length cr) (.slice ac r.records.length cc)
    have d1 := rpL_1 r (.slice ar r.robots.length cr) (.slice ac r.records.length cc)
    have d2 := rpL_2 r (.slice ar r.robots.length cr) (.slice ac r.records.length cc)
    unfold encP
    rw [hin]
    obtain ⟨BB, hBB⟩ : ∃ B, B = rpBK (bk r) r := ⟨_, rfl⟩
    rw [← hBB] at p4 hbl ⊢
    obtain ⟨BV, hBV⟩ : ∃ B, B = bodyK (bk r) r (.slice ar r.robots.length cr) (.slice ac r.records.length cc) := ⟨_, rfl⟩
    rw [← hBV] at p0 mv
    have hkl := r.kind.toNat_lt
    have htl := r.tick.toNat_lt
    have p1 := fun g v w F S => wuint_i (r.kind.toNat : Int) r.kind.toNat rfl 1 1 rfl g v [] w0 w F S (by omega) (by decide) (by decide)
    rw [List.nil_append] at p1
    have l1 : (numB r.kind.toNat 1).length = 1 := numB_length _ _
    obtain ⟨X1, hX1⟩ : ∃ X, X = numB r.kind.toNat 1 := ⟨_, rfl⟩
    rw [← hX1] at p1 l1 ⊢
    have p2 := fun g v w F S => wuint_i r.code.v r.code.v.toNat (by omega) 2 2 rfl g v X1 w0 w F S (by omega) (by decide) (by omega)
    have l2 : (X1 ++ numB r.code.v.toNat 2).length = 3 := by rw [List.length_append, numB_length]; omega
    obtain ⟨X2, hX2⟩ : ∃ X, X = X1 ++ numB r.code.v.toNat 2 := ⟨_, rfl⟩
    rw [← hX2] at p2 l2 ⊢
    have p3 := fun g v w F S => wuint_i (r.tick.toNat : Int) r.tick.toNat rfl 8 8 rfl g v X2 w0 w F S (by omega) (by decide) (by omega)
    have l3 : (X2 ++ numB r.tick.toNat 8).length = 11 := by rw [List.length_append, numB_length]; omega
    obtain ⟨X3, hX3⟩ : ∃ X, X = X2 ++ numB r.tick.toNat 8 := ⟨_, rfl⟩
    rw [← hX3] at p3 l3 ⊢
    have l4 : (X3 ++ BB).length ≤ 1411 := by rw [List.length_append]; omega
    obtain ⟨X4, hX4⟩ : ∃ X, X = X3 ++ BB := ⟨_, rfl⟩
    have p5 := fun g v w h1 h2 => framed_s g v X4 w h1 h2 (by rw [hX4]; omega)
    rw [← hX4]
    have p4' := fun g v w F S h1 h2 => p4 g v X3 w0 w F S h1 h2 (by omega)
    rw [← hX4] at p4'
    have u1 : IntKind.u64.wrap (r.kind.toNat : Int) = (r.kind.toNat : Int) := by rw [IntKind.wrap_u64]; omega
    have u2 : IntKind.u64.wrap r.code.v = r.code.v := by rw [IntKind.wrap_u64]; omega
    obtain ⟨vr, hvr'⟩ : ∃ v, v = Value.slice ar r.robots.length cr := ⟨_, rfl⟩
    obtain ⟨vc, hvc'⟩ : ∃ v, v = Value.slice ac r.records.length cc := ⟨_, rfl⟩
    rw [← hvr'] at hck hvr p0 p4' d0 d1 d2 ⊢
    rw [← hvc'] at hck hvc p0 p4' d0 d1 d2 ⊢
    have D0 := Lib.hid d0; have D1 := Lib.hid d1; have D2 := Lib.hid d2; have HCK := Lib.hid hck; have HVR := Lib.hid hvr; have HVC := Lib.hid hvc; have P0 := Lib.hid p0; have P1 := Lib.hid p1; have P2 := Lib.hid p2; have P3 := Lib.hid p3; have P4' := Lib.hid p4'; have P5 := Lib.hid p5; have MV := Lib.hid mv; clear d0 d1 d2 hck hvr hvc p0 p1 p2 p3 p4' p5 mv
    clear hE hX hv hvr' hvc' heq hc0 ht0 hbd hbl hin hBB hBV hkl htl l1 l2 l3 l4 hX1 hX2 hX3 hX4 p4
    go_enter Try.func17, Try.ntmps17
    go_wp2_with (first | ((with_reducible refine iD 1 (.box 53 (.tmp 0)) ?_); refine step_boxA (dst := some 1) S 53 (.tmp 0) _ rfl gw ?_; clear S; intro g1 w S) | (go_at_call 26; (with_reducible refine (P1.out g12 (.slice none 0 0) _ _ (S.nil8.pick2 (r := wrt g12 (.slice none 0 0)) (s := row8 (.slice none 0 0) []) pk pk)).mono ?_); rintro e w1 ⟨rfl, v1, S1⟩; clear S; have S := S1; clear S1; have _t := P1; clear P1) | (go_at_call 26; (with_reducible refine (P2.out g12 v1 _ _ S).mono ?_); rintro e w1 ⟨rfl, v2, S1⟩; clear S; have S := S1; clear S1; have _t2 := P2; clear P2) | (go_at_call 26; (with_reducible refine (P3.out g12 v2 _ _ S).mono ?_); rintro e w1 ⟨rfl, v3, S1⟩; clear S; have S := S1; clear S1) | ((with_reducible refine iD 30 (.call _) ?_); refine step_inv (.tmp 28) "dunnage/wire.write" [.tmp 29] _ _ [.pointer (some ⟨g12, 0, none⟩)] fw _ rfl rfl (MV.out _ _) (P4'.out g12 v3 _ _ S HVR.out HVC.out) gw ?_; rintro e w1 ⟨rfl, v4, S1⟩; refine .inl ⟨_, rfl, ?_⟩; clear S; have S := S1; clear S1) | ((with_reducible refine iO _ (.load 53 _) ?_); first | (refine step_load S 53 _ _ rfl _ _ _ pk _ Try.underlying53 rfl 46 kR lN rfl ?_) | (refine step_loadO 53 _ _ rfl _ _ _ (S.old_heap (Hid.out (by assumption))) _ Try.underlying53 rfl 46 kR lN rfl ?_) | (refine step_loadR 53 _ _ _ rfl _ (S.old_range hy) _ Try.underlying53 rfl 46 kR lN _ rfl rfl ?_)) | (go_at_call 19; (with_reducible refine (HCK.out _ (S.old HVR.out) (S.old HVC.out)).mono ?_); rintro e w1 ⟨rfl, T⟩; replace S := S.call T; clear T; (try simp only [z4, z5] at S)) | ((with_reducible refine iD 11 (.build 71 _) ?_); refine step_buildZ 71 (.agg (#[.slice none 0 0])) (fun w => by kernel_rfl) rfl ?_) | ((with_reducible refine iD 12 (.box 71 (.tmp 11)) ?_); refine step_boxA (dst := some 12) S 71 (.tmp 11) _ rfl rfl ?_; clear S; intro g12 w S) | ((with_reducible refine iO _ (.load 5 _) ?_); refine step_load1 5 _ _ _ rfl (cL) _ Try.underlying5 rfl rfl ?_) | ((with_reducible refine iO _ (.load 24 _) ?_); refine step_load1 24 _ _ _ rfl (cL) _ Try.underlying24 rfl rfl ?_) | ((with_reducible refine iO _ (.load 32 _) ?_); refine step_load1 32 _ _ _ rfl (cL) _ Try.underlying32 rfl rfl ?_) | (go_at_call 40; (with_reducible refine (P0.out _).mono ?_); rintro e w1 ⟨rfl, T⟩; replace S := S.call T; clear T; (try simp only [z4, z5] at S)) | (go_at_call 29; (with_reducible refine (P5.out g12 v4 _ (S.cell (g := g12) pk rfl) (S.bs (xs := X4) pk)).mono ?_); rintro e w1 ⟨v5, rfl, T⟩; replace S := S.call T; clear T; (try simp only [z4, z5] at S)) | fail)
    go_ret2
    exact ⟨_, rfl, S.sub (by repeat (first | exact Sub.nil _ | refine Sub.cons pk ?_))⟩
end Go.Proofs.Ytfhkmmagpnojmaa
