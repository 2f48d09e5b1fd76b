/- The reference's ReplyEncoded and TwinReply. No condition but the reach. -/
import Derived.Test.YtfhkmmagpnojmaaZBd
import Derived.Test.YtfhkmmagpnojmaaZRfE
import Derived.Test.YtfhkmmagpnojmaaZRpY
import Derived.Test.YtfhkmmagpnojmaaZRpM
set_option linter.unusedSimpArgs false
set_option linter.unusedVariables false
namespace Go.Proofs.Ytfhkmmagpnojmaa
open Go.RowKit

set_option maxRecDepth 100000 in
set_option maxHeartbeats 2000000 in
theorem replyEncoded_s (r : Rp) (vr vc : Value) (w0 : World) (hvr : Sl w0 3 vr r.robots.length (r.robots.flatMap sgtL)) (hvc : Sl w0 35 vc r.records.length (r.records.flatMap rcdL)) :
    Calls Try.prog 18 #[.agg (rpL r vr vc).toArray] w0 (MadeE w0 (encRp r) (rpE r)) := by
  have S := Has.start w0
  have p1 := fun w h1 h2 => refValidReply_s r vr vc w h1 h2
  have p2 := fun w hv h1 h2 => refEncodeReply_s r vr vc w hv h1 h2
  have hsz := rpL_size r vr vc
  unfold rpE encRp
  obtain ⟨X, hX⟩ : ∃ X, X = (rpL r vr vc).toArray := ⟨_, rfl⟩
  rw [← hX] at p1 p2 hsz ⊢
  obtain ⟨E, hE⟩ : ∃ E, E = encP r := ⟨_, rfl⟩
  rw [← hE] at p2 ⊢
  clear hX hE
  cases hv : rpV r
  · rw [hv] at p1
    have P1 := Lib.hid p1; have P2 := Lib.hid p2; have HVR := Lib.hid hvr; have HVC := Lib.hid hvc; have HSZ := Lib.hid hsz; clear p1 p2 hvr hvc hsz
    clear hv
    go_enter Try.func18, Try.ntmps18
    go_wp2_with (first | ((with_reducible refine iD 1 (.box 53 (.tmp 0)) ?_); refine step_boxA (dst := some 1) S 53 (.tmp 0) _ rfl rfl ?_; clear S; intro g1 w S) | ((with_reducible refine iO _ (.load 53 _) ?_); first | (refine step_load S 53 _ _ rfl _ _ _ pk _ Try.underlying53 rfl 46 kR lN rfl ?_) | (refine step_loadO 53 _ _ rfl _ _ _ (S.old_heap (Hid.out (by assumption))) _ Try.underlying53 rfl 46 kR lN rfl ?_) | (refine step_loadR 53 _ _ _ rfl _ (S.old_range hy) _ Try.underlying53 rfl 46 kR lN _ rfl rfl ?_)) | (go_at_call 41; (with_reducible refine (P1.out _ (S.old HVR.out) (S.old HVC.out)).mono ?_); rintro e w1 ⟨rfl, T⟩; replace S := S.call T; clear T; (try simp only [z4, z5] at S)) | fail)
    go_ret2
    exact ⟨_, rfl, S.nil.nil8⟩
  · rw [hv] at p1
    have p2 := fun w h1 h2 => p2 w hv h1 h2
    have P1 := Lib.hid p1; have P2 := Lib.hid p2; have HVR := Lib.hid hvr; have HVC := Lib.hid hvc; have HSZ := Lib.hid hsz; clear p1 p2 hvr hvc hsz
    clear hv
    go_enter Try.func18, Try.ntmps18
    go_wp2_with (first | ((with_reducible refine iD 1 (.box 53 (.tmp 0)) ?_); refine step_boxA (dst := some 1) S 53 (.tmp 0) _ rfl rfl ?_; clear S; intro g1 w S) | ((with_reducible refine iO _ (.load 53 _) ?_); first | (refine step_load S 53 _ _ rfl _ _ _ pk _ Try.underlying53 rfl 46 kR lN rfl ?_) | (refine step_loadO 53 _ _ rfl _ _ _ (S.old_heap (Hid.out (by assumption))) _ Try.underlying53 rfl 46 kR lN rfl ?_) | (refine step_loadR 53 _ _ _ rfl _ (S.old_range hy) _ Try.underlying53 rfl 46 kR lN _ rfl rfl ?_)) | (go_at_call 41; (with_reducible refine (P1.out _ (S.old HVR.out) (S.old HVC.out)).mono ?_); rintro e w1 ⟨rfl, T⟩; replace S := S.call T; clear T; (try simp only [z4, z5] at S)) | (go_at_call 42; (with_reducible refine (P2.out _ (S.old HVR.out) (S.old HVC.out)).mono ?_); rintro e w1 ⟨v8, rfl, T⟩; replace S := S.call T; clear T; (try simp only [z4, z5] at S)) | fail)
    go_ret2
    exact ⟨_, rfl, S.sub (by repeat (first | exact Sub.nil _ | refine Sub.cons pk ?_))⟩
theorem rpL_set6 (r : Rp) (u v x : Value) : (rpL r u v).toArray.setIfInBounds 6 x = (rpL r x v).toArray := rfl
theorem rpL_set9 (r : Rp) (u v x : Value) : (rpL r u v).toArray.setIfInBounds 9 x = (rpL r u x).toArray := rfl
set_option maxRecDepth 100000 in
theorem step_appendSg {ops : Array Oper} {rest : List Oper} {a : Act} {w0 w : World} {l F : List Res} {Q : Exit → Act → World → Prop} {dst : Option Tmp} {ty : TypeId} {pos : String} {after : Array Edge} {gd : Option (Nat × Bool)} (S : Has w0 w l) (s x : Operand)
    (v : Value) (xs : List Sgt) (hs : a.eval s = v) (hp : Pick l (rowSg v xs) F) (src : Value) (ys : List Sgt) (hx : a.eval x = src) (hsrc : Sl w 3 src ys.length (ys.flatMap sgtL)) (hlen : (xs.length + ys.length) * 24 ≤ 140737488355328)
    (hw : Region.wanted ⟨dst, .call { callee := .builtin .append, args := #[s, x], argTypes := #[50, 50] }, ty, pos, after, gd⟩ (yielded ops a.tmps) = true)
    (h : ∀ v' w', Has w0 w' (rowSg v' (xs ++ ys) :: F) → wpList Try.prog ops Q rest (a.put dst v') w') :
    wpList Try.prog ops Q (⟨dst, .call { callee := .builtin .append, args := #[s, x], argTypes := #[50, 50] }, ty, pos, after, gd⟩ :: rest) a w := by
  refine step_append S s x 50 101 (.agg (sgtL sgtZ).toArray) 3 24 Try.underlying50 infoSg rfl (by decide) v xs.length (xs.flatMap sgtL) hs hp src ys.length (ys.flatMap sgtL) hx hsrc (sgtL_all _) (by unfold maxLen; omega) hlen hw ?_
  intro v' w' S'
  refine h v' w' ?_
  rw [← List.flatMap_append, ← List.length_append] at S'
  exact S'
set_option maxRecDepth 100000 in
set_option maxHeartbeats 4000000 in
theorem twinReply_s (r : Rp) (vr vc : Value) (w0 : World) (hvr : Sl w0 3 vr r.robots.length (r.robots.flatMap sgtL)) (hvc : Sl w0 35 vc r.records.length (r.records.flatMap rcdL)) (hl1 : r.robots.length * 24 ≤ 140737488355328) (hl2 : r.records.length * 56 ≤ 140737488355328) :
    Calls Try.prog 16 #[.agg (rpL r vr vc).toArray] w0 fun e w' => ∃ ur uc, e = .returned (.agg (rpL r ur uc).toArray) ∧ Has w0 w' [rowSg ur r.robots, rowRc uc r.records] := by
  have S := ((Has.start w0).nil_row 106 35).nil_row 101 3
  obtain ⟨a0, c0, rfl, k1, k2⟩ := Sl.shape hvr
  obtain ⟨a1, c1, rfl, k3, k4⟩ := Sl.shape hvc
  have h1 : (([] : List Sgt).length + r.robots.length) * 24 ≤ 140737488355328 := by simpa using hl1
  have h2 : (([] : List Rcd).length + r.records.length) * 56 ≤ 140737488355328 := by simpa using hl2
  obtain ⟨vr, hr⟩ : ∃ v, v = Value.slice a0 r.robots.length c0 := ⟨_, rfl⟩
  obtain ⟨vc, hc⟩ : ∃ v, v = Value.slice a1 r.records.length c1 := ⟨_, rfl⟩
  rw [← hr] at hvr ⊢
  rw [← hc] at hvc ⊢
  have ho1 : vr.oneCell' = true := by rw [hr]; rfl
  have ho2 : vc.oneCell' = true := by rw [hc]; rfl
  clear hr hc hl1 hl2
  replace S : Has w0 w0 [rowSg nilV [], rowRc nilV []] := S
  have HVR := Lib.hid hvr; have HVC := Lib.hid hvc; have H1 := Lib.hid h1; have H2 := Lib.hid h2; have HO1 := Lib.hid ho1; have HO2 := Lib.hid ho2; clear hvr hvc h1 h2 ho1 ho2
  go_enter Try.func16, Try.ntmps16
  go_wp2_with (first | (at_builtin; refine step_appendSg S _ (.tmp 4) nilV [] rfl pk _ r.robots rfl (S.old HVR.out) H1.out gw ?_; clear S; intro v5 w S; simp only [List.nil_append] at S; have O5 := Lib.hid (one_sl (S.sl (v := v5) pk))) | (at_builtin; refine step_appendRc S _ (.tmp 8) nilV [] rfl pk _ r.records rfl (S.old HVC.out) H2.out gw ?_; clear S; intro v9 w S; simp only [List.nil_append] at S; have O9 := Lib.hid (one_sl (S.sl (v := v9) pk))) | ((with_reducible refine iO none (.store 50 (.tmp 6) (.tmp 5)) ?_); refine step_store1 S 50 (.tmp 6) (.tmp 5) g1 6 v5 rfl rfl _ _ pk kR O5.out.2 O5.out.1 (by rw [rpL_size]; decide) gw ?_; clear S; intro w S; rw [rpL_set6] at S) | ((with_reducible refine iO none (.store 51 (.tmp 10) (.tmp 9)) ?_); refine step_store1 S 51 (.tmp 10) (.tmp 9) g1 9 v9 rfl rfl _ _ pk kR O9.out.2 O9.out.1 (by rw [rpL_size]; decide) gw ?_; clear S; intro w S; rw [rpL_set9] at S) | ((with_reducible refine iO none (.store 53 (.tmp 2) (.tmp 11)) ?_); refine step_store S 53 (.tmp 2) (.tmp 11) g2 _ rfl rfl _ _ pk 46 kR (rpL_size _ _ _) (rpL_size _ _ _) (rpL_one _ _ _ O5.out.1 O9.out.1) gw ?_; clear S; intro w S) | ((with_reducible refine iD 1 (.box 53 (.tmp 0)) ?_); refine step_boxA (dst := some 1) S 53 (.tmp 0) _ rfl rfl ?_; clear S; intro g1 w S) | ((with_reducible refine iD 2 (.alloc 53) ?_); refine step_alloc (dst := some 2) S 53 (.agg ((rpL rpZ (.slice none 0 0) (.slice none 0 0)).toArray)) ((rpL rpZ (.slice none 0 0) (.slice none 0 0)).toArray) kR rfl rfl ?_; clear S; intro g2 w S) | ((with_reducible refine iO _ (.load 50 _) ?_); refine step_load1 50 _ _ _ rfl (cL) _ Try.underlying50 rfl rfl ?_) | ((with_reducible refine iO none (.store 50 (.tmp 6) (.tmp 5)) ?_); first | (refine step_store1 S 50 (.tmp 6) (.tmp 5) _ _ (.slice _ _ _) rfl rfl _ _ pk kR rfl rfl lN rfl ?_; clear S; intro w S; try simp only [List.setIfInBounds_toArray, List.set_cons_zero, List.set_cons_succ] at S) | (refine step_storeR S 50 (.tmp 6) (.tmp 5) _ _ (.slice _ _ _) rfl rfl _ _ _ _ pk lE kR rfl rfl rfl ?_; clear S; intro w S) | (refine step_storeS S 50 (.tmp 6) (.tmp 5) _ _ (.slice _ _ _) rfl rfl _ _ _ _ _ pk lE kR rfl rfl rfl ?_; clear S; intro w S)) | ((with_reducible refine iO _ (.load 51 _) ?_); refine step_load1 51 _ _ _ rfl (cL) _ Try.underlying51 rfl rfl ?_) | ((with_reducible refine iO none (.store 51 (.tmp 10) (.tmp 9)) ?_); first | (refine step_store1 S 51 (.tmp 10) (.tmp 9) _ _ (.slice _ _ _) rfl rfl _ _ pk kR rfl rfl lN rfl ?_; clear S; intro w S; try simp only [List.setIfInBounds_toArray, List.set_cons_zero, List.set_cons_succ] at S) | (refine step_storeR S 51 (.tmp 10) (.tmp 9) _ _ (.slice _ _ _) rfl rfl _ _ _ _ pk lE kR rfl rfl rfl ?_; clear S; intro w S) | (refine step_storeS S 51 (.tmp 10) (.tmp 9) _ _ (.slice _ _ _) rfl rfl _ _ _ _ _ pk lE kR rfl rfl rfl ?_; clear S; intro w S)) | ((with_reducible refine iO _ (.load 53 _) ?_); first | (refine step_load S 53 _ _ rfl _ _ _ pk _ Try.underlying53 rfl 46 kR lN rfl ?_) | (refine step_loadO 53 _ _ rfl _ _ _ (S.old_heap (Hid.out (by assumption))) _ Try.underlying53 rfl 46 kR lN rfl ?_) | (refine step_loadR 53 _ _ _ rfl _ (S.old_range hy) _ Try.underlying53 rfl 46 kR lN _ rfl rfl ?_)) | ((with_reducible refine iO none (.store 53 (.tmp 2) (.tmp 11)) ?_); refine step_store S 53 (.tmp 2) (.tmp 11) _ _ rfl rfl _ _ pk 46 kR lN lN on1 rfl ?_; clear S; intro w S) | fail)
  refine ret_row rfl g2 53 _ (S.get pk) _ Try.underlying53 46 kR lN rfl rfl rfl ?_
  exact ⟨_, _, rfl, S.sub (by repeat (first | exact Sub.nil _ | refine Sub.cons pk ?_))⟩
end Go.Proofs.Ytfhkmmagpnojmaa
