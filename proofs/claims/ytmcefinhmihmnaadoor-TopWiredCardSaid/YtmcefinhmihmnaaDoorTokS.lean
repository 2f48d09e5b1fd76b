/- Tokens: what Sign and Genuine of the program and of the specification return. No condition but the table of constants. -/
import Derived.Test.YtmcefinhmihmnaaDoorBd
import Derived.Test.YtmcefinhmihmnaaDoorBe
set_option linter.unusedSimpArgs false
set_option linter.unusedVariables false
namespace Go.Proofs.YtmcefinhmihmnaaDoor
open Go.RowKit

theorem snE_tgE (key : List UInt8) (n : Nat) (hn : n ≤ 8128) : tgE key.length n = snE key := by
  unfold tgE snE vkB
  by_cases h : key.length < 1 ∨ 64 < key.length
  · rw [if_pos h, if_neg (by simp; omega)]
  · rw [if_neg h, if_pos hn, if_pos (by simp; omega)]

theorem tag_head (key : List UInt8) (t : Tok) (v1 v2 : Value) (w : World) (h1 : Bs w v1 key) (h2 : Bs w v2 (headT t)) (hK : KT w) :
    Calls Tryd.prog 37 #[v1, v2] w fun e w' => e = .returned (.tuple #[.agg (arr8 (tgD key (headT t))), .int .i64 (snE key)]) ∧ Has w w' [] := by
  have := tag_s v1 v2 key (headT t) w h1 h2 hK (by rw [headT_length]; decide)
  rwa [headT_length, snE_tgE key 14 (by decide)] at this

set_option maxRecDepth 100000 in
set_option maxHeartbeats 2000000 in
theorem sign_s (v : Value) (key : List UInt8) (t : Tok) (w0 : World) (h : Bs w0 v key) (hK : KT w0) : Calls Tryd.prog 9 #[v, .agg (tokL t).toArray] w0 fun e w' => e = .returned (.tuple #[.agg (tokL (snT key t)).toArray, .int .i64 (snE key)]) ∧ Has w0 w' [] := by
  have S := Has.start w0
  obtain ⟨a0, c0, rfl, k1, k2⟩ := Sl.shape h
  unfold maxLen at k2
  have p1 := fun w => enc_s t w
  have hel := encT_length t
  have htk := encT_take t
  have p2 := fun v2 w h1 h2 h3 => tag_head key t (.slice a0 key.length c0) v2 w h1 h2 h3
  have hdl := tgD_length key (headT t)
  cases hv : vkB key with
  | true =>
    have e1 : snT key t = sgT key t := if_pos hv
    have e2 : snE key = 0 := if_pos hv
    have e3 : tgD key (headT t) = tagD key (headT t) := by unfold tgD; rw [headT_length, snE_tgE key 14 (by decide), if_pos e2]
    have e4 : sgT key t = t.with (tagD key (headT t)) (tagD_length _ _) := rfl
    rw [e1, e2, e4]
    rw [e2, e3] at p2
    rw [e3] at hdl
    obtain ⟨D, hD⟩ : ∃ D, D = tagD key (headT t) := ⟨_, rfl⟩
    have e5 : t.with (tagD key (headT t)) (tagD_length _ _) = t.with D (by rw [hD]; exact hdl) := by simp only [hD]
    rw [e5]
    have hdl2 : D.length = 32 := by rw [hD]; exact hdl
    have hst := tokL_store t D hdl2
    rw [← hD] at p2
    obtain ⟨T2, hT2⟩ : ∃ T2, T2 = t.with D hdl2 := ⟨_, rfl⟩
    rw [← hT2] at hst
    rw [show t.with D _ = T2 from hT2.symm]
    obtain ⟨X, hX⟩ : ∃ X, X = encT t := ⟨_, rfl⟩
    rw [← hX] at p1 hel htk
    clear e1 e2 e3 e4 e5 hdl hD hT2 hX hv
    have H := Lib.hid h; have HK := Lib.hid hK; have P1 := Lib.hid p1; have P2 := Lib.hid p2; have HEL := Lib.hid hel; have HTK := Lib.hid htk; have HST := Lib.hid hst; have HDL2 := Lib.hid hdl2; clear h hK p1 p2 hel htk hst hdl2
    go_enter Tryd.func9, Tryd.ntmps9
    go_wp2_with (first | ((with_reducible refine iO none (.store 32 (.tmp 21) (.tmp 20)) ?_); refine step_storeP S 32 (.tmp 21) (.tmp 20) g3 4 (arr8 D) rfl rfl _ (tokL t).toArray pk 32 kR (by rw [arr8_size]; exact HDL2.out) (by rw [tokL_size]; decide) (arr8_one _) (tokL T2).toArray HST.out rfl ?_; clear S; intro w S) | ((with_reducible refine iD 3 (.box 34 (.tmp 1)) ?_); refine step_boxA (dst := some 3) S 34 (.tmp 1) _ rfl rfl ?_; clear S; intro g3 w S) | ((with_reducible refine iD 4 (.alloc 34) ?_); refine step_alloc (dst := some 4) S 34 (.agg ((tokL tokZ).toArray)) ((tokL tokZ).toArray) kR rfl rfl ?_; clear S; intro g4 w S) | ((with_reducible refine iO _ (.load 34 _) ?_); first | (refine step_load S 34 _ _ rfl _ _ _ pk _ Tryd.underlying34 rfl 36 kR lN rfl ?_) | (refine step_loadO 34 _ _ rfl _ _ _ (S.old_heap (Hid.out (by assumption))) _ Tryd.underlying34 rfl 36 kR lN rfl ?_) | (refine step_loadR 34 _ _ _ rfl _ (S.old_range hy) _ Tryd.underlying34 rfl 36 kR lN _ rfl rfl ?_)) | (go_at_call 38; (with_reducible refine (P1.out _).mono ?_); rintro e w1 ⟨v11, rfl, T⟩; replace S := S.call T; clear T; (try simp only [z4, z5] at S); obtain ⟨a11, c11, hv11, hc11, _⟩ := Sl.shape (S.bs (v := v11) pk); rw [HEL.out] at hv11 hc11; subst hv11) | ((with_reducible refine iO _ (.slice 23 _ _ _ _) ?_); refine step_cutH 23 5 1 _ _ _ _ _ _ _ 14 rfl rfl (by first | rfl | omega) (by first | (first | omega | assumption | (exact Hid.out (by assumption)) | (simp only [List.length_append, List.length_cons, List.length_nil]; omega)) | decide) Tryd.underlying23 kR rfl ?_) | (go_at_call 37; (with_reducible refine (P2.out _ _ bS (by have := (S.bs (xs := X) pk).cutH 14 (by decide) HEL.out; rwa [HTK.out] at this) kT).mono ?_); rintro e w1 ⟨rfl, T⟩; replace S := S.call T; clear T; (try simp only [z4, z5] at S)) | ((with_reducible refine iD 6 (.alloc 32) ?_); refine step_alloc (dst := some 6) S 32 (.agg (arr8 (List.replicate 32 0))) (arr8 (List.replicate 32 0)) kR rfl rfl ?_; clear S; intro g6 w S) | ((with_reducible refine iO none (.store 32 (.tmp 6) (.tmp 14)) ?_); refine step_store S 32 (.tmp 6) (.tmp 14) _ _ rfl rfl _ _ pk 32 kR lN lN on1 rfl ?_; clear S; intro w S) | ((with_reducible refine iD 18 (.build 34 _) ?_); refine step_buildZ 34 (.agg ((tokL tokZ).toArray)) (fun w => by kernel_rfl) rfl ?_) | ((with_reducible refine iO none (.store 34 (.tmp 4) (.tmp 18)) ?_); refine step_store S 34 (.tmp 4) (.tmp 18) _ _ rfl rfl _ _ pk 36 kR lN lN on1 rfl ?_; clear S; intro w S) | ((with_reducible refine iO _ (.load 32 _) ?_); first | (refine step_load S 32 _ _ rfl _ _ _ pk _ Tryd.underlying32 rfl 32 kR lN rfl ?_) | (refine step_loadO 32 _ _ rfl _ _ _ (S.old_heap (Hid.out (by assumption))) _ Tryd.underlying32 rfl 32 kR lN rfl ?_) | (refine step_loadR 32 _ _ _ rfl _ (S.old_range hy) _ Tryd.underlying32 rfl 32 kR lN _ rfl rfl ?_)) | ((with_reducible refine iO none (.store 32 (.tmp 21) (.tmp 20)) ?_); refine step_store S 32 (.tmp 21) (.tmp 20) _ _ rfl rfl _ _ pk 32 kR lN lN on1 rfl ?_; clear S; intro w S) | ((with_reducible refine iO none (.store 34 (.tmp 4) (.tmp 22)) ?_); refine step_store S 34 (.tmp 4) (.tmp 22) _ _ rfl rfl _ _ pk 36 kR lN lN on1 rfl ?_; clear S; intro w S) | fail)
    refine ret_row_tmp rfl g4 34 _ (S.get pk) _ Tryd.underlying34 36 kR lN rfl rfl rfl ?_
    exact ⟨rfl, S.nil⟩
  | false =>
    have e1 : snT key t = tokZ := if_neg (by rw [hv]; decide)
    have e2 : snE key = 2 := if_neg (by rw [hv]; decide)
    rw [e1, e2]
    rw [e2] at p2
    obtain ⟨D, hD⟩ : ∃ D, D = tgD key (headT t) := ⟨_, rfl⟩
    rw [← hD] at p2 hdl
    obtain ⟨X, hX⟩ : ∃ X, X = encT t := ⟨_, rfl⟩
    rw [← hX] at p1 hel htk
    clear e1 e2 hD hX hv
    have H := Lib.hid h; have HK := Lib.hid hK; have P1 := Lib.hid p1; have P2 := Lib.hid p2; have HEL := Lib.hid hel; have HTK := Lib.hid htk; have HDL := Lib.hid hdl; clear h hK p1 p2 hel htk hdl
    go_enter Tryd.func9, Tryd.ntmps9
    go_wp2_with (first | ((with_reducible refine iD 3 (.box 34 (.tmp 1)) ?_); refine step_boxA (dst := some 3) S 34 (.tmp 1) _ rfl rfl ?_; clear S; intro g3 w S) | ((with_reducible refine iD 4 (.alloc 34) ?_); refine step_alloc (dst := some 4) S 34 (.agg ((tokL tokZ).toArray)) ((tokL tokZ).toArray) kR rfl rfl ?_; clear S; intro g4 w S) | ((with_reducible refine iO _ (.load 34 _) ?_); first | (refine step_load S 34 _ _ rfl _ _ _ pk _ Tryd.underlying34 rfl 36 kR lN rfl ?_) | (refine step_loadO 34 _ _ rfl _ _ _ (S.old_heap (Hid.out (by assumption))) _ Tryd.underlying34 rfl 36 kR lN rfl ?_) | (refine step_loadR 34 _ _ _ rfl _ (S.old_range hy) _ Tryd.underlying34 rfl 36 kR lN _ rfl rfl ?_)) | (go_at_call 38; (with_reducible refine (P1.out _).mono ?_); rintro e w1 ⟨v11, rfl, T⟩; replace S := S.call T; clear T; (try simp only [z4, z5] at S); obtain ⟨a11, c11, hv11, hc11, _⟩ := Sl.shape (S.bs (v := v11) pk); rw [HEL.out] at hv11 hc11; subst hv11) | ((with_reducible refine iO _ (.slice 23 _ _ _ _) ?_); refine step_cutH 23 5 1 _ _ _ _ _ _ _ 14 rfl rfl (by first | rfl | omega) (by first | (first | omega | assumption | (exact Hid.out (by assumption)) | (simp only [List.length_append, List.length_cons, List.length_nil]; omega)) | decide) Tryd.underlying23 kR rfl ?_) | (go_at_call 37; (with_reducible refine (P2.out _ _ bS (by have := (S.bs (xs := X) pk).cutH 14 (by decide) HEL.out; rwa [HTK.out] at this) kT).mono ?_); rintro e w1 ⟨rfl, T⟩; replace S := S.call T; clear T; (try simp only [z4, z5] at S)) | ((with_reducible refine iD 6 (.alloc 32) ?_); refine step_alloc (dst := some 6) S 32 (.agg (arr8 (List.replicate 32 0))) (arr8 (List.replicate 32 0)) kR rfl rfl ?_; clear S; intro g6 w S) | ((with_reducible refine iO none (.store 32 (.tmp 6) (.tmp 14)) ?_); refine step_store S 32 (.tmp 6) (.tmp 14) _ _ rfl rfl _ _ pk 32 kR lN lN on1 rfl ?_; clear S; intro w S) | ((with_reducible refine iD 18 (.build 34 _) ?_); refine step_buildZ 34 (.agg ((tokL tokZ).toArray)) (fun w => by kernel_rfl) rfl ?_) | ((with_reducible refine iO none (.store 34 (.tmp 4) (.tmp 18)) ?_); refine step_store S 34 (.tmp 4) (.tmp 18) _ _ rfl rfl _ _ pk 36 kR lN lN on1 rfl ?_; clear S; intro w S) | ((with_reducible refine iO _ (.load 32 _) ?_); first | (refine step_load S 32 _ _ rfl _ _ _ pk _ Tryd.underlying32 rfl 32 kR lN rfl ?_) | (refine step_loadO 32 _ _ rfl _ _ _ (S.old_heap (Hid.out (by assumption))) _ Tryd.underlying32 rfl 32 kR lN rfl ?_) | (refine step_loadR 32 _ _ _ rfl _ (S.old_range hy) _ Tryd.underlying32 rfl 32 kR lN _ rfl rfl ?_)) | ((with_reducible refine iO none (.store 32 (.tmp 21) (.tmp 20)) ?_); refine step_store S 32 (.tmp 21) (.tmp 20) _ _ rfl rfl _ _ pk 32 kR lN lN on1 rfl ?_; clear S; intro w S) | ((with_reducible refine iO none (.store 34 (.tmp 4) (.tmp 22)) ?_); refine step_store S 34 (.tmp 4) (.tmp 22) _ _ rfl rfl _ _ pk 36 kR lN lN on1 rfl ?_; clear S; intro w S) | fail)
    refine ret_row_tmp rfl g4 34 _ (S.get pk) _ Tryd.underlying34 36 kR lN rfl rfl rfl ?_
    exact ⟨rfl, S.nil⟩

set_option maxRecDepth 100000 in
set_option maxHeartbeats 2000000 in
theorem genuine_s (v : Value) (key : List UInt8) (t : Tok) (w0 : World) (h : Bs w0 v key) (hK : KT w0) : Calls Tryd.prog 31 #[v, .agg (tokL t).toArray] w0 fun e w' => e = .returned (.tuple #[.bool (vkB key && decide (sgT key t = t)), .int .i64 (snE key)]) ∧ Has w0 w' [] := by
  have S := Has.start w0
  obtain ⟨a0, c0, rfl, k1, k2⟩ := Sl.shape h
  unfold maxLen at k2
  have p1 := fun w h1 h2 => sign_s (.slice a0 key.length c0) key t w h1 h2
  have eg := eqGuardT
  cases hv : vkB key with
  | true =>
    have e1 : snT key t = sgT key t := if_pos hv
    have e2 : snE key = 0 := if_pos hv
    rw [e2]
    rw [e1, e2] at p1
    obtain ⟨T2, hT2⟩ : ∃ T2, T2 = sgT key t := ⟨_, rfl⟩
    rw [← hT2] at p1 ⊢
    have he := fun w => eqlT T2 t w
    clear e1 e2 hT2 hv
    obtain ⟨B, hB⟩ : ∃ B, B = decide (T2 = t) := ⟨_, rfl⟩
    rw [← hB] at he ⊢
    clear hB
    rw [Bool.true_and]
    have H := Lib.hid h; have HK := Lib.hid hK; have P1 := Lib.hid p1; clear h hK p1
    go_enter Tryd.func31, Tryd.ntmps31
    go_wp2_with (first | ((with_reducible refine iD 3 (.box 34 (.tmp 1)) ?_); refine step_boxA (dst := some 3) S 34 (.tmp 1) _ rfl gw ?_; clear S; intro g3 w S) | ((with_reducible refine iO _ (.load 34 _) ?_); first | (refine step_load S 34 _ _ rfl _ _ _ pk _ Tryd.underlying34 rfl 36 kR lN gw ?_) | (refine step_loadO 34 _ _ rfl _ _ _ (S.old_heap (Hid.out (by assumption))) _ Tryd.underlying34 rfl 36 kR lN gw ?_) | (refine step_loadR 34 _ _ _ rfl _ (S.old_range hy) _ Tryd.underlying34 rfl 36 kR lN _ rfl gw ?_)) | (go_at_call 9; (with_reducible refine (P1.out _ bS kT).mono ?_); rintro e w1 ⟨rfl, T⟩; replace S := S.call T; clear T; (try simp only [z4, z5] at S)) | ((with_reducible refine iD 6 (.alloc 34) ?_); refine step_alloc (dst := some 6) S 34 (.agg ((tokL tokZ).toArray)) ((tokL tokZ).toArray) kR rfl gw ?_; clear S; intro g6 w S) | ((with_reducible refine iO none (.store 34 (.tmp 6) (.tmp 12)) ?_); refine step_store S 34 (.tmp 6) (.tmp 12) _ _ rfl rfl _ _ pk 36 kR lN lN on1 gw ?_; clear S; intro w S) | fail)
    go_ret2
    exact ⟨rfl, S.nil⟩
  | false =>
    have e2 : snE key = 2 := if_neg (by rw [hv]; decide)
    rw [e2]
    rw [e2] at p1
    obtain ⟨T2, hT2⟩ : ∃ T2, T2 = snT key t := ⟨_, rfl⟩
    rw [← hT2] at p1
    clear e2 hT2 hv
    rw [Bool.false_and]
    have H := Lib.hid h; have HK := Lib.hid hK; have P1 := Lib.hid p1; clear h hK p1
    go_enter Tryd.func31, Tryd.ntmps31
    go_wp2_with (first | ((with_reducible refine iD 3 (.box 34 (.tmp 1)) ?_); refine step_boxA (dst := some 3) S 34 (.tmp 1) _ rfl gw ?_; clear S; intro g3 w S) | ((with_reducible refine iO _ (.load 34 _) ?_); first | (refine step_load S 34 _ _ rfl _ _ _ pk _ Tryd.underlying34 rfl 36 kR lN gw ?_) | (refine step_loadO 34 _ _ rfl _ _ _ (S.old_heap (Hid.out (by assumption))) _ Tryd.underlying34 rfl 36 kR lN gw ?_) | (refine step_loadR 34 _ _ _ rfl _ (S.old_range hy) _ Tryd.underlying34 rfl 36 kR lN _ rfl gw ?_)) | (go_at_call 9; (with_reducible refine (P1.out _ bS kT).mono ?_); rintro e w1 ⟨rfl, T⟩; replace S := S.call T; clear T; (try simp only [z4, z5] at S)) | ((with_reducible refine iD 6 (.alloc 34) ?_); refine step_alloc (dst := some 6) S 34 (.agg ((tokL tokZ).toArray)) ((tokL tokZ).toArray) kR rfl gw ?_; clear S; intro g6 w S) | ((with_reducible refine iO none (.store 34 (.tmp 6) (.tmp 12)) ?_); refine step_store S 34 (.tmp 6) (.tmp 12) _ _ rfl rfl _ _ pk 36 kR lN lN on1 gw ?_; clear S; intro w S) | fail)
    go_ret2
    exact ⟨rfl, S.nil⟩

end Go.Proofs.YtmcefinhmihmnaaDoor
