/- Tokens: what Sign and Genuine of the program and of the specification return. No condition but the table of constants. -/
import Derived.Test.YtioonimpobcglaaDoorBd
import Derived.Test.YtioonimpobcglaaDoorBe
set_option linter.unusedSimpArgs false
set_option linter.unusedVariables false
namespace Go.Proofs.YtioonimpobcglaaDoor
open Go.RowKit

theorem snE_tgE (key : List UInt8) (n : Nat) (hn : n ≤ 8128) : tgE key.length n = snE key := by
  unfold tgE snE vkB
  by_cases h : key.length < 1 ∨ 64 < key.length
  · rw [if_pos h, if_neg (by simp; omega)]
  · rw [if_neg h, if_pos hn, if_pos (by simp; omega)]

theorem tag_head (key : List UInt8) (t : Tok) (v1 v2 : Value) (w : World) (h1 : Bs w v1 key) (h2 : Bs w v2 (headT t)) (hK : KT w) :
    Calls Tryd.prog 32 #[v1, v2] w fun e w' => e = .returned (.tuple #[.agg (arr8 (tgD key (headT t))), .int .i64 (snE key)]) ∧ Has w w' [] := by
  have := tag_s v1 v2 key (headT t) w h1 h2 hK (by rw [headT_length]; decide)
  rwa [headT_length, snE_tgE key 14 (by decide)] at this

set_option maxRecDepth 100000 in
set_option maxHeartbeats 2000000 in
theorem sign_s (v : Value) (key : List UInt8) (t : Tok) (w0 : World) (h : Bs w0 v key) (hK : KT w0) : Calls Tryd.prog 20 #[v, .agg (tokL t).toArray] w0 fun e w' => e = .returned (.tuple #[.agg (tokL (snT key t)).toArray, .int .i64 (snE key)]) ∧ Has w0 w' [] := by
  have S := Has.start w0
  obtain ⟨a0, c0, rfl, k1, k2⟩ := Sl.shape h
  unfold maxLen at k2
  have p1 := fun w => enc_s t w
  have hel := encT_length t
  have htk := encT_take t
  have p2 := fun v2 w h1 h2 h3 => tag_head key t (.slice a0 key.length c0) v2 w h1 h2 h3
  have hdl := tgD_length key (headT t)
  cases hv : vkB key with
  | true =>
    have e1 : snT key t = sgT key t := if_pos hv
    have e2 : snE key = 0 := if_pos hv
    have e3 : tgD key (headT t) = tagD key (headT t) := by unfold tgD; rw [headT_length, snE_tgE key 14 (by decide), if_pos e2]
    have e4 : sgT key t = t.with (tagD key (headT t)) (tagD_length _ _) := rfl
    rw [e1, e2, e4]
    rw [e2, e3] at p2
    rw [e3] at hdl
    obtain ⟨D, hD⟩ : ∃ D, D = tagD key (headT t) := ⟨_, rfl⟩
    have e5 : t.with (tagD key (headT t)) (tagD_length _ _) = t.with D (by rw [hD]; exact hdl) := by simp only [hD]
    rw [e5]
    have hdl2 : D.length = 32 := by rw [hD]; exact hdl
    have hst := tokL_store t D hdl2
    rw [← hD] at p2
    obtain ⟨T2, hT2⟩ : ∃ T2, T2 = t.with D hdl2 := ⟨_, rfl⟩
    rw [← hT2] at hst
    rw [show t.with D _ = T2 from hT2.symm]
    obtain ⟨X, hX⟩ : ∃ X, X = encT t := ⟨_, rfl⟩
    rw [← hX] at p1 hel htk
    clear e1 e2 e3 e4 e5 hdl hD hT2 hX hv
    have H := Lib.hid h; have HK := Lib.hid hK; have P1 := Lib.hid p1; have P2 := Lib.hid p2; have HEL := Lib.hid hel; have HTK := Lib.hid htk; have HST := Lib.hid hst; have HDL2 := Lib.hid hdl2; clear h hK p1 p2 hel htk hst hdl2
    go_enter Tryd.func20, Tryd.ntmps20
    go_wp2_with (first | ((with_reducible show wpList _ _ _ (⟨none, .store 25 (.tmp 21) (.tmp 20), _, _, _, _⟩ :: _) _ _); refine step_storeP S 25 (.tmp 21) (.tmp 20) g3 4 (arr8 D) rfl rfl _ (tokL t).toArray pk 32 (by kernel_rfl) (by rw [arr8_size]; exact HDL2.out) (by rw [tokL_size]; decide) (arr8_one _) (tokL T2).toArray HST.out rfl ?_; clear S; intro w S) | ((with_reducible show wpList _ _ _ (⟨some 3, .box 27 (.tmp 1), _, _, _, _⟩ :: _) _ _); refine step_boxA (dst := some 3) S 27 (.tmp 1) _ rfl rfl ?_; clear S; intro g3 w S) | ((with_reducible show wpList _ _ _ (⟨some 4, .alloc 27, _, _, _, _⟩ :: _) _ _); refine step_alloc (dst := some 4) S 27 (.agg ((tokL tokZ).toArray)) ((tokL tokZ).toArray) (by kernel_rfl) rfl rfl ?_; clear S; intro g4 w S) | ((with_reducible show wpList _ _ _ (⟨_, .load 27 _, _, _, _, _⟩ :: _) _ _); first | (refine step_load S 27 _ _ rfl _ _ _ pk _ Tryd.underlying27 rfl 36 (by kernel_rfl) (by first | rfl | (first | rfl | assumption | (exact Hid.out (by assumption)) | (exact tokL_size _) | (rw [arr8_size]; first | rfl | assumption | (exact Hid.out (by assumption)) | exact tokL_size _ | exact List.length_replicate ..) | (simp [arr8_size]; done))) rfl ?_) | (refine step_loadO 27 _ _ rfl _ _ _ (S.old_heap (Hid.out (by assumption))) _ Tryd.underlying27 rfl 36 (by kernel_rfl) (by first | rfl | (first | rfl | assumption | (exact Hid.out (by assumption)) | (exact tokL_size _) | (rw [arr8_size]; first | rfl | assumption | (exact Hid.out (by assumption)) | exact tokL_size _ | exact List.length_replicate ..) | (simp [arr8_size]; done))) rfl ?_) | (refine step_loadR 27 _ _ _ rfl _ (S.old_range hy) _ Tryd.underlying27 rfl 36 (by kernel_rfl) (by first | rfl | (first | rfl | assumption | (exact Hid.out (by assumption)) | (exact tokL_size _) | (rw [arr8_size]; first | rfl | assumption | (exact Hid.out (by assumption)) | exact tokL_size _ | exact List.length_replicate ..) | (simp [arr8_size]; done))) _ rfl rfl ?_)) | (go_at_call 16; (with_reducible refine (P1.out _).mono ?_); rintro e w1 ⟨v11, rfl, T⟩; replace S := S.call T; clear T; (try simp only [List.nil_append, List.cons_append] at S); obtain ⟨a11, c11, hv11, hc11, _⟩ := Sl.shape (S.bs (v := v11) pk); rw [HEL.out] at hv11 hc11; subst hv11) | ((with_reducible show wpList _ _ _ (⟨_, .slice 22 _ _ _ _, _, _, _, _⟩ :: _) _ _); refine step_cutH 22 5 1 _ _ _ _ _ _ _ 14 rfl rfl (by first | rfl | omega) (by first | (first | omega | assumption | (exact Hid.out (by assumption)) | (simp only [List.length_append, List.length_cons, List.length_nil]; omega)) | decide) Tryd.underlying22 (by kernel_rfl) rfl ?_) | (go_at_call 32; (with_reducible refine (P2.out _ _ (by first | assumption | exact S.oldB (Hid.out (by assumption)) | exact Bs.mk0 _ _ | exact S.bs pk | exact S.bsr pk) (by have := (S.bs (xs := X) pk).cutH 14 (by decide) HEL.out; rwa [HTK.out] at this) (S.kt (Hid.out (by assumption)))).mono ?_); rintro e w1 ⟨rfl, T⟩; replace S := S.call T; clear T; (try simp only [List.nil_append, List.cons_append] at S)) | ((with_reducible show wpList _ _ _ (⟨some 6, .alloc 25, _, _, _, _⟩ :: _) _ _); refine step_alloc (dst := some 6) S 25 (.agg (arr8 (List.replicate 32 0))) (arr8 (List.replicate 32 0)) (by kernel_rfl) rfl rfl ?_; clear S; intro g6 w S) | ((with_reducible show wpList _ _ _ (⟨none, .store 25 (.tmp 6) (.tmp 14), _, _, _, _⟩ :: _) _ _); refine step_store S 25 (.tmp 6) (.tmp 14) _ _ rfl rfl _ _ pk 32 (by kernel_rfl) (by first | rfl | (first | rfl | assumption | (exact Hid.out (by assumption)) | (exact tokL_size _) | (rw [arr8_size]; first | rfl | assumption | (exact Hid.out (by assumption)) | exact tokL_size _ | exact List.length_replicate ..) | (simp [arr8_size]; done))) (by first | rfl | (first | rfl | assumption | (exact Hid.out (by assumption)) | (exact tokL_size _) | (rw [arr8_size]; first | rfl | assumption | (exact Hid.out (by assumption)) | exact tokL_size _ | exact List.length_replicate ..) | (simp [arr8_size]; done))) on1 rfl ?_; clear S; intro w S) | ((with_reducible show wpList _ _ _ (⟨some 18, .build 27 _, _, _, _, _⟩ :: _) _ _); refine step_buildZ 27 (.agg ((tokL tokZ).toArray)) (fun w => by kernel_rfl) rfl ?_) | ((with_reducible show wpList _ _ _ (⟨none, .store 27 (.tmp 4) (.tmp 18), _, _, _, _⟩ :: _) _ _); refine step_store S 27 (.tmp 4) (.tmp 18) _ _ rfl rfl _ _ pk 36 (by kernel_rfl) (by first | rfl | (first | rfl | assumption | (exact Hid.out (by assumption)) | (exact tokL_size _) | (rw [arr8_size]; first | rfl | assumption | (exact Hid.out (by assumption)) | exact tokL_size _ | exact List.length_replicate ..) | (simp [arr8_size]; done))) (by first | rfl | (first | rfl | assumption | (exact Hid.out (by assumption)) | (exact tokL_size _) | (rw [arr8_size]; first | rfl | assumption | (exact Hid.out (by assumption)) | exact tokL_size _ | exact List.length_replicate ..) | (simp [arr8_size]; done))) on1 rfl ?_; clear S; intro w S) | ((with_reducible show wpList _ _ _ (⟨_, .load 25 _, _, _, _, _⟩ :: _) _ _); first | (refine step_load S 25 _ _ rfl _ _ _ pk _ Tryd.underlying25 rfl 32 (by kernel_rfl) (by first | rfl | (first | rfl | assumption | (exact Hid.out (by assumption)) | (exact tokL_size _) | (rw [arr8_size]; first | rfl | assumption | (exact Hid.out (by assumption)) | exact tokL_size _ | exact List.length_replicate ..) | (simp [arr8_size]; done))) rfl ?_) | (refine step_loadO 25 _ _ rfl _ _ _ (S.old_heap (Hid.out (by assumption))) _ Tryd.underlying25 rfl 32 (by kernel_rfl) (by first | rfl | (first | rfl | assumption | (exact Hid.out (by assumption)) | (exact tokL_size _) | (rw [arr8_size]; first | rfl | assumption | (exact Hid.out (by assumption)) | exact tokL_size _ | exact List.length_replicate ..) | (simp [arr8_size]; done))) rfl ?_) | (refine step_loadR 25 _ _ _ rfl _ (S.old_range hy) _ Tryd.underlying25 rfl 32 (by kernel_rfl) (by first | rfl | (first | rfl | assumption | (exact Hid.out (by assumption)) | (exact tokL_size _) | (rw [arr8_size]; first | rfl | assumption | (exact Hid.out (by assumption)) | exact tokL_size _ | exact List.length_replicate ..) | (simp [arr8_size]; done))) _ rfl rfl ?_)) | ((with_reducible show wpList _ _ _ (⟨none, .store 25 (.tmp 21) (.tmp 20), _, _, _, _⟩ :: _) _ _); refine step_store S 25 (.tmp 21) (.tmp 20) _ _ rfl rfl _ _ pk 32 (by kernel_rfl) (by first | rfl | (first | rfl | assumption | (exact Hid.out (by assumption)) | (exact tokL_size _) | (rw [arr8_size]; first | rfl | assumption | (exact Hid.out (by assumption)) | exact tokL_size _ | exact List.length_replicate ..) | (simp [arr8_size]; done))) (by first | rfl | (first | rfl | assumption | (exact Hid.out (by assumption)) | (exact tokL_size _) | (rw [arr8_size]; first | rfl | assumption | (exact Hid.out (by assumption)) | exact tokL_size _ | exact List.length_replicate ..) | (simp [arr8_size]; done))) on1 rfl ?_; clear S; intro w S) | ((with_reducible show wpList _ _ _ (⟨none, .store 27 (.tmp 4) (.tmp 22), _, _, _, _⟩ :: _) _ _); refine step_store S 27 (.tmp 4) (.tmp 22) _ _ rfl rfl _ _ pk 36 (by kernel_rfl) (by first | rfl | (first | rfl | assumption | (exact Hid.out (by assumption)) | (exact tokL_size _) | (rw [arr8_size]; first | rfl | assumption | (exact Hid.out (by assumption)) | exact tokL_size _ | exact List.length_replicate ..) | (simp [arr8_size]; done))) (by first | rfl | (first | rfl | assumption | (exact Hid.out (by assumption)) | (exact tokL_size _) | (rw [arr8_size]; first | rfl | assumption | (exact Hid.out (by assumption)) | exact tokL_size _ | exact List.length_replicate ..) | (simp [arr8_size]; done))) on1 rfl ?_; clear S; intro w S) | fail)
    refine ret_row_tmp rfl g4 27 _ (S.get pk) _ Tryd.underlying27 36 (by kernel_rfl) (by first | rfl | (first | rfl | assumption | (exact Hid.out (by assumption)) | (exact tokL_size _) | (rw [arr8_size]; first | rfl | assumption | (exact Hid.out (by assumption)) | exact tokL_size _ | exact List.length_replicate ..) | (simp [arr8_size]; done))) rfl rfl rfl ?_
    exact ⟨rfl, S.nil⟩
  | false =>
    have e1 : snT key t = tokZ := if_neg (by rw [hv]; decide)
    have e2 : snE key = 2 := if_neg (by rw [hv]; decide)
    rw [e1, e2]
    rw [e2] at p2
    obtain ⟨D, hD⟩ : ∃ D, D = tgD key (headT t) := ⟨_, rfl⟩
    rw [← hD] at p2 hdl
    obtain ⟨X, hX⟩ : ∃ X, X = encT t := ⟨_, rfl⟩
    rw [← hX] at p1 hel htk
    clear e1 e2 hD hX hv
    have H := Lib.hid h; have HK := Lib.hid hK; have P1 := Lib.hid p1; have P2 := Lib.hid p2; have HEL := Lib.hid hel; have HTK := Lib.hid htk; have HDL := Lib.hid hdl; clear h hK p1 p2 hel htk hdl
    go_enter Tryd.func20, Tryd.ntmps20
    go_wp2_with (first | ((with_reducible show wpList _ _ _ (⟨some 3, .box 27 (.tmp 1), _, _, _, _⟩ :: _) _ _); refine step_boxA (dst := some 3) S 27 (.tmp 1) _ rfl rfl ?_; clear S; intro g3 w S) | ((with_reducible show wpList _ _ _ (⟨some 4, .alloc 27, _, _, _, _⟩ :: _) _ _); refine step_alloc (dst := some 4) S 27 (.agg ((tokL tokZ).toArray)) ((tokL tokZ).toArray) (by kernel_rfl) rfl rfl ?_; clear S; intro g4 w S) | ((with_reducible show wpList _ _ _ (⟨_, .load 27 _, _, _, _, _⟩ :: _) _ _); first | (refine step_load S 27 _ _ rfl _ _ _ pk _ Tryd.underlying27 rfl 36 (by kernel_rfl) (by first | rfl | (first | rfl | assumption | (exact Hid.out (by assumption)) | (exact tokL_size _) | (rw [arr8_size]; first | rfl | assumption | (exact Hid.out (by assumption)) | exact tokL_size _ | exact List.length_replicate ..) | (simp [arr8_size]; done))) rfl ?_) | (refine step_loadO 27 _ _ rfl _ _ _ (S.old_heap (Hid.out (by assumption))) _ Tryd.underlying27 rfl 36 (by kernel_rfl) (by first | rfl | (first | rfl | assumption | (exact Hid.out (by assumption)) | (exact tokL_size _) | (rw [arr8_size]; first | rfl | assumption | (exact Hid.out (by assumption)) | exact tokL_size _ | exact List.length_replicate ..) | (simp [arr8_size]; done))) rfl ?_) | (refine step_loadR 27 _ _ _ rfl _ (S.old_range hy) _ Tryd.underlying27 rfl 36 (by kernel_rfl) (by first | rfl | (first | rfl | assumption | (exact Hid.out (by assumption)) | (exact tokL_size _) | (rw [arr8_size]; first | rfl | assumption | (exact Hid.out (by assumption)) | exact tokL_size _ | exact List.length_replicate ..) | (simp [arr8_size]; done))) _ rfl rfl ?_)) | (go_at_call 16; (with_reducible refine (P1.out _).mono ?_); rintro e w1 ⟨v11, rfl, T⟩; replace S := S.call T; clear T; (try simp only [List.nil_append, List.cons_append] at S); obtain ⟨a11, c11, hv11, hc11, _⟩ := Sl.shape (S.bs (v := v11) pk); rw [HEL.out] at hv11 hc11; subst hv11) | ((with_reducible show wpList _ _ _ (⟨_, .slice 22 _ _ _ _, _, _, _, _⟩ :: _) _ _); refine step_cutH 22 5 1 _ _ _ _ _ _ _ 14 rfl rfl (by first | rfl | omega) (by first | (first | omega | assumption | (exact Hid.out (by assumption)) | (simp only [List.length_append, List.length_cons, List.length_nil]; omega)) | decide) Tryd.underlying22 (by kernel_rfl) rfl ?_) | (go_at_call 32; (with_reducible refine (P2.out _ _ (by first | assumption | exact S.oldB (Hid.out (by assumption)) | exact Bs.mk0 _ _ | exact S.bs pk | exact S.bsr pk) (by have := (S.bs (xs := X) pk).cutH 14 (by decide) HEL.out; rwa [HTK.out] at this) (S.kt (Hid.out (by assumption)))).mono ?_); rintro e w1 ⟨rfl, T⟩; replace S := S.call T; clear T; (try simp only [List.nil_append, List.cons_append] at S)) | ((with_reducible show wpList _ _ _ (⟨some 6, .alloc 25, _, _, _, _⟩ :: _) _ _); refine step_alloc (dst := some 6) S 25 (.agg (arr8 (List.replicate 32 0))) (arr8 (List.replicate 32 0)) (by kernel_rfl) rfl rfl ?_; clear S; intro g6 w S) | ((with_reducible show wpList _ _ _ (⟨none, .store 25 (.tmp 6) (.tmp 14), _, _, _, _⟩ :: _) _ _); refine step_store S 25 (.tmp 6) (.tmp 14) _ _ rfl rfl _ _ pk 32 (by kernel_rfl) (by first | rfl | (first | rfl | assumption | (exact Hid.out (by assumption)) | (exact tokL_size _) | (rw [arr8_size]; first | rfl | assumption | (exact Hid.out (by assumption)) | exact tokL_size _ | exact List.length_replicate ..) | (simp [arr8_size]; done))) (by first | rfl | (first | rfl | assumption | (exact Hid.out (by assumption)) | (exact tokL_size _) | (rw [arr8_size]; first | rfl | assumption | (exact Hid.out (by assumption)) | exact tokL_size _ | exact List.length_replicate ..) | (simp [arr8_size]; done))) on1 rfl ?_; clear S; intro w S) | ((with_reducible show wpList _ _ _ (⟨some 18, .build 27 _, _, _, _, _⟩ :: _) _ _); refine step_buildZ 27 (.agg ((tokL tokZ).toArray)) (fun w => by kernel_rfl) rfl ?_) | ((with_reducible show wpList _ _ _ (⟨none, .store 27 (.tmp 4) (.tmp 18), _, _, _, _⟩ :: _) _ _); refine step_store S 27 (.tmp 4) (.tmp 18) _ _ rfl rfl _ _ pk 36 (by kernel_rfl) (by first | rfl | (first | rfl | assumption | (exact Hid.out (by assumption)) | (exact tokL_size _) | (rw [arr8_size]; first | rfl | assumption | (exact Hid.out (by assumption)) | exact tokL_size _ | exact List.length_replicate ..) | (simp [arr8_size]; done))) (by first | rfl | (first | rfl | assumption | (exact Hid.out (by assumption)) | (exact tokL_size _) | (rw [arr8_size]; first | rfl | assumption | (exact Hid.out (by assumption)) | exact tokL_size _ | exact List.length_replicate ..) | (simp [arr8_size]; done))) on1 rfl ?_; clear S; intro w S) | ((with_reducible show wpList _ _ _ (⟨_, .load 25 _, _, _, _, _⟩ :: _) _ _); first | (refine step_load S 25 _ _ rfl _ _ _ pk _ Tryd.underlying25 rfl 32 (by kernel_rfl) (by first | rfl | (first | rfl | assumption | (exact Hid.out (by assumption)) | (exact tokL_size _) | (rw [arr8_size]; first | rfl | assumption | (exact Hid.out (by assumption)) | exact tokL_size _ | exact List.length_replicate ..) | (simp [arr8_size]; done))) rfl ?_) | (refine step_loadO 25 _ _ rfl _ _ _ (S.old_heap (Hid.out (by assumption))) _ Tryd.underlying25 rfl 32 (by kernel_rfl) (by first | rfl | (first | rfl | assumption | (exact Hid.out (by assumption)) | (exact tokL_size _) | (rw [arr8_size]; first | rfl | assumption | (exact Hid.out (by assumption)) | exact tokL_size _ | exact List.length_replicate ..) | (simp [arr8_size]; done))) rfl ?_) | (refine step_loadR 25 _ _ _ rfl _ (S.old_range hy) _ Tryd.underlying25 rfl 32 (by kernel_rfl) (by first | rfl | (first | rfl | assumption | (exact Hid.out (by assumption)) | (exact tokL_size _) | (rw [arr8_size]; first | rfl | assumption | (exact Hid.out (by assumption)) | exact tokL_size _ | exact List.length_replicate ..) | (simp [arr8_size]; done))) _ rfl rfl ?_)) | ((with_reducible show wpList _ _ _ (⟨none, .store 25 (.tmp 21) (.tmp 20), _, _, _, _⟩ :: _) _ _); refine step_store S 25 (.tmp 21) (.tmp 20) _ _ rfl rfl _ _ pk 32 (by kernel_rfl) (by first | rfl | (first | rfl | assumption | (exact Hid.out (by assumption)) | (exact tokL_size _) | (rw [arr8_size]; first | rfl | assumption | (exact Hid.out (by assumption)) | exact tokL_size _ | exact List.length_replicate ..) | (simp [arr8_size]; done))) (by first | rfl | (first | rfl | assumption | (exact Hid.out (by assumption)) | (exact tokL_size _) | (rw [arr8_size]; first | rfl | assumption | (exact Hid.out (by assumption)) | exact tokL_size _ | exact List.length_replicate ..) | (simp [arr8_size]; done))) on1 rfl ?_; clear S; intro w S) | ((with_reducible show wpList _ _ _ (⟨none, .store 27 (.tmp 4) (.tmp 22), _, _, _, _⟩ :: _) _ _); refine step_store S 27 (.tmp 4) (.tmp 22) _ _ rfl rfl _ _ pk 36 (by kernel_rfl) (by first | rfl | (first | rfl | assumption | (exact Hid.out (by assumption)) | (exact tokL_size _) | (rw [arr8_size]; first | rfl | assumption | (exact Hid.out (by assumption)) | exact tokL_size _ | exact List.length_replicate ..) | (simp [arr8_size]; done))) (by first | rfl | (first | rfl | assumption | (exact Hid.out (by assumption)) | (exact tokL_size _) | (rw [arr8_size]; first | rfl | assumption | (exact Hid.out (by assumption)) | exact tokL_size _ | exact List.length_replicate ..) | (simp [arr8_size]; done))) on1 rfl ?_; clear S; intro w S) | fail)
    refine ret_row_tmp rfl g4 27 _ (S.get pk) _ Tryd.underlying27 36 (by kernel_rfl) (by first | rfl | (first | rfl | assumption | (exact Hid.out (by assumption)) | (exact tokL_size _) | (rw [arr8_size]; first | rfl | assumption | (exact Hid.out (by assumption)) | exact tokL_size _ | exact List.length_replicate ..) | (simp [arr8_size]; done))) rfl rfl rfl ?_
    exact ⟨rfl, S.nil⟩

set_option maxRecDepth 100000 in
set_option maxHeartbeats 2000000 in
theorem genuine_s (v : Value) (key : List UInt8) (t : Tok) (w0 : World) (h : Bs w0 v key) (hK : KT w0) : Calls Tryd.prog 22 #[v, .agg (tokL t).toArray] w0 fun e w' => e = .returned (.tuple #[.bool (vkB key && decide (sgT key t = t)), .int .i64 (snE key)]) ∧ Has w0 w' [] := by
  have S := Has.start w0
  obtain ⟨a0, c0, rfl, k1, k2⟩ := Sl.shape h
  unfold maxLen at k2
  have p1 := fun w h1 h2 => sign_s (.slice a0 key.length c0) key t w h1 h2
  have eg := eqGuardT
  cases hv : vkB key with
  | true =>
    have e1 : snT key t = sgT key t := if_pos hv
    have e2 : snE key = 0 := if_pos hv
    rw [e2]
    rw [e1, e2] at p1
    obtain ⟨T2, hT2⟩ : ∃ T2, T2 = sgT key t := ⟨_, rfl⟩
    rw [← hT2] at p1 ⊢
    have he := fun w => eqlT T2 t w
    clear e1 e2 hT2 hv
    obtain ⟨B, hB⟩ : ∃ B, B = decide (T2 = t) := ⟨_, rfl⟩
    rw [← hB] at he ⊢
    clear hB
    rw [Bool.true_and]
    have H := Lib.hid h; have HK := Lib.hid hK; have P1 := Lib.hid p1; clear h hK p1
    go_enter Tryd.func22, Tryd.ntmps22
    go_wp2_with (first | ((with_reducible show wpList _ _ _ (⟨some 3, .box 27 (.tmp 1), _, _, _, _⟩ :: _) _ _); refine step_boxA (dst := some 3) S 27 (.tmp 1) _ rfl gw ?_; clear S; intro g3 w S) | ((with_reducible show wpList _ _ _ (⟨_, .load 27 _, _, _, _, _⟩ :: _) _ _); first | (refine step_load S 27 _ _ rfl _ _ _ pk _ Tryd.underlying27 rfl 36 (by kernel_rfl) (by first | rfl | (first | rfl | assumption | (exact Hid.out (by assumption)) | (exact tokL_size _) | (rw [arr8_size]; first | rfl | assumption | (exact Hid.out (by assumption)) | exact tokL_size _ | exact List.length_replicate ..) | (simp [arr8_size]; done))) gw ?_) | (refine step_loadO 27 _ _ rfl _ _ _ (S.old_heap (Hid.out (by assumption))) _ Tryd.underlying27 rfl 36 (by kernel_rfl) (by first | rfl | (first | rfl | assumption | (exact Hid.out (by assumption)) | (exact tokL_size _) | (rw [arr8_size]; first | rfl | assumption | (exact Hid.out (by assumption)) | exact tokL_size _ | exact List.length_replicate ..) | (simp [arr8_size]; done))) gw ?_) | (refine step_loadR 27 _ _ _ rfl _ (S.old_range hy) _ Tryd.underlying27 rfl 36 (by kernel_rfl) (by first | rfl | (first | rfl | assumption | (exact Hid.out (by assumption)) | (exact tokL_size _) | (rw [arr8_size]; first | rfl | assumption | (exact Hid.out (by assumption)) | exact tokL_size _ | exact List.length_replicate ..) | (simp [arr8_size]; done))) _ rfl gw ?_)) | (go_at_call 20; (with_reducible refine (P1.out _ (by first | assumption | exact S.oldB (Hid.out (by assumption)) | exact Bs.mk0 _ _ | exact S.bs pk | exact S.bsr pk) (S.kt (Hid.out (by assumption)))).mono ?_); rintro e w1 ⟨rfl, T⟩; replace S := S.call T; clear T; (try simp only [List.nil_append, List.cons_append] at S)) | ((with_reducible show wpList _ _ _ (⟨some 6, .alloc 27, _, _, _, _⟩ :: _) _ _); refine step_alloc (dst := some 6) S 27 (.agg ((tokL tokZ).toArray)) ((tokL tokZ).toArray) (by kernel_rfl) rfl gw ?_; clear S; intro g6 w S) | ((with_reducible show wpList _ _ _ (⟨none, .store 27 (.tmp 6) (.tmp 12), _, _, _, _⟩ :: _) _ _); refine step_store S 27 (.tmp 6) (.tmp 12) _ _ rfl rfl _ _ pk 36 (by kernel_rfl) (by first | rfl | (first | rfl | assumption | (exact Hid.out (by assumption)) | (exact tokL_size _) | (rw [arr8_size]; first | rfl | assumption | (exact Hid.out (by assumption)) | exact tokL_size _ | exact List.length_replicate ..) | (simp [arr8_size]; done))) (by first | rfl | (first | rfl | assumption | (exact Hid.out (by assumption)) | (exact tokL_size _) | (rw [arr8_size]; first | rfl | assumption | (exact Hid.out (by assumption)) | exact tokL_size _ | exact List.length_replicate ..) | (simp [arr8_size]; done))) on1 gw ?_; clear S; intro w S) | fail)
    go_ret2
    exact ⟨rfl, S.nil⟩
  | false =>
    have e2 : snE key = 2 := if_neg (by rw [hv]; decide)
    rw [e2]
    rw [e2] at p1
    obtain ⟨T2, hT2⟩ : ∃ T2, T2 = snT key t := ⟨_, rfl⟩
    rw [← hT2] at p1
    clear e2 hT2 hv
    rw [Bool.false_and]
    have H := Lib.hid h; have HK := Lib.hid hK; have P1 := Lib.hid p1; clear h hK p1
    go_enter Tryd.func22, Tryd.ntmps22
    go_wp2_with (first | ((with_reducible show wpList _ _ _ (⟨some 3, .box 27 (.tmp 1), _, _, _, _⟩ :: _) _ _); refine step_boxA (dst := some 3) S 27 (.tmp 1) _ rfl gw ?_; clear S; intro g3 w S) | ((with_reducible show wpList _ _ _ (⟨_, .load 27 _, _, _, _, _⟩ :: _) _ _); first | (refine step_load S 27 _ _ rfl _ _ _ pk _ Tryd.underlying27 rfl 36 (by kernel_rfl) (by first | rfl | (first | rfl | assumption | (exact Hid.out (by assumption)) | (exact tokL_size _) | (rw [arr8_size]; first | rfl | assumption | (exact Hid.out (by assumption)) | exact tokL_size _ | exact List.length_replicate ..) | (simp [arr8_size]; done))) gw ?_) | (refine step_loadO 27 _ _ rfl _ _ _ (S.old_heap (Hid.out (by assumption))) _ Tryd.underlying27 rfl 36 (by kernel_rfl) (by first | rfl | (first | rfl | assumption | (exact Hid.out (by assumption)) | (exact tokL_size _) | (rw [arr8_size]; first | rfl | assumption | (exact Hid.out (by assumption)) | exact tokL_size _ | exact List.length_replicate ..) | (simp [arr8_size]; done))) gw ?_) | (refine step_loadR 27 _ _ _ rfl _ (S.old_range hy) _ Tryd.underlying27 rfl 36 (by kernel_rfl) (by first | rfl | (first | rfl | assumption | (exact Hid.out (by assumption)) | (exact tokL_size _) | (rw [arr8_size]; first | rfl | assumption | (exact Hid.out (by assumption)) | exact tokL_size _ | exact List.length_replicate ..) | (simp [arr8_size]; done))) _ rfl gw ?_)) | (go_at_call 20; (with_reducible refine (P1.out _ (by first | assumption | exact S.oldB (Hid.out (by assumption)) | exact Bs.mk0 _ _ | exact S.bs pk | exact S.bsr pk) (S.kt (Hid.out (by assumption)))).mono ?_); rintro e w1 ⟨rfl, T⟩; replace S := S.call T; clear T; (try simp only [List.nil_append, List.cons_append] at S)) | ((with_reducible show wpList _ _ _ (⟨some 6, .alloc 27, _, _, _, _⟩ :: _) _ _); refine step_alloc (dst := some 6) S 27 (.agg ((tokL tokZ).toArray)) ((tokL tokZ).toArray) (by kernel_rfl) rfl gw ?_; clear S; intro g6 w S) | ((with_reducible show wpList _ _ _ (⟨none, .store 27 (.tmp 6) (.tmp 12), _, _, _, _⟩ :: _) _ _); refine step_store S 27 (.tmp 6) (.tmp 12) _ _ rfl rfl _ _ pk 36 (by kernel_rfl) (by first | rfl | (first | rfl | assumption | (exact Hid.out (by assumption)) | (exact tokL_size _) | (rw [arr8_size]; first | rfl | assumption | (exact Hid.out (by assumption)) | exact tokL_size _ | exact List.length_replicate ..) | (simp [arr8_size]; done))) (by first | rfl | (first | rfl | assumption | (exact Hid.out (by assumption)) | (exact tokL_size _) | (rw [arr8_size]; first | rfl | assumption | (exact Hid.out (by assumption)) | exact tokL_size _ | exact List.length_replicate ..) | (simp [arr8_size]; done))) on1 gw ?_; clear S; intro w S) | fail)
    go_ret2
    exact ⟨rfl, S.nil⟩

theorem refTag_head (key : List UInt8) (t : Tok) (v1 v2 : Value) (w : World) (hk : vkB key = true) (h1 : Bs w v1 key) (h2 : Bs w v2 (headT t)) :
    Calls Tryd.prog 73 #[v1, v2] w fun e w' => e = .returned (.agg (arr8 (tagD key (headT t)))) ∧ Has w w' [] :=
  refTag_s v1 v2 key (headT t) w h1 h2 (of_decide_eq_true hk).2 (by rw [headT_length]; decide)

set_option maxRecDepth 100000 in
set_option maxHeartbeats 2000000 in
theorem signed_s (v : Value) (key : List UInt8) (t : Tok) (w0 : World) (h : Bs w0 v key) (hv : vkB key = true) : Calls Tryd.prog 50 #[v, .agg (tokL t).toArray] w0 fun e w' => e = .returned (.agg (tokL (sgT key t)).toArray) ∧ Has w0 w' [] := by
  have S := Has.start w0
  obtain ⟨a0, c0, rfl, k1, k2⟩ := Sl.shape h
  unfold maxLen at k2
  have p1 := fun w => head_s t w
  have p2 := fun v2 w h1 h2 => refTag_head key t (.slice a0 key.length c0) v2 w hv h1 h2
  have hdl := tagD_length key (headT t)
  have hst := tokL_store t (tagD key (headT t)) hdl
  have e4 : t.with (tagD key (headT t)) hdl = sgT key t := rfl
  rw [e4] at hst
  obtain ⟨T2, hT2⟩ : ∃ T2, T2 = sgT key t := ⟨_, rfl⟩
  rw [← hT2] at hst ⊢
  clear e4 hT2
  obtain ⟨D, hD⟩ : ∃ D, D = tagD key (headT t) := ⟨_, rfl⟩
  rw [← hD] at p2 hdl hst
  obtain ⟨X, hX⟩ : ∃ X, X = headT t := ⟨_, rfl⟩
  rw [← hX] at p1 p2
  clear hD hX hv
  have H := Lib.hid h; have P1 := Lib.hid p1; have P2 := Lib.hid p2; have HST := Lib.hid hst; have HDL := Lib.hid hdl; clear h p1 p2 hst hdl
  go_enter Tryd.func50, Tryd.ntmps50
  go_wp2_with (first | ((with_reducible show wpList _ _ _ (⟨none, .store 25 (.tmp 9) (.tmp 8), _, _, _, _⟩ :: _) _ _); refine step_storeP S 25 (.tmp 9) (.tmp 8) g3 4 (arr8 D) rfl rfl _ (tokL t).toArray pk 32 (by kernel_rfl) (by rw [arr8_size]; exact HDL.out) (by rw [tokL_size]; decide) (arr8_one _) (tokL T2).toArray HST.out rfl ?_; clear S; intro w S) | ((with_reducible show wpList _ _ _ (⟨some 3, .box 27 (.tmp 1), _, _, _, _⟩ :: _) _ _); refine step_boxA (dst := some 3) S 27 (.tmp 1) _ rfl rfl ?_; clear S; intro g3 w S) | ((with_reducible show wpList _ _ _ (⟨some 4, .alloc 27, _, _, _, _⟩ :: _) _ _); refine step_alloc (dst := some 4) S 27 (.agg ((tokL tokZ).toArray)) ((tokL tokZ).toArray) (by kernel_rfl) rfl rfl ?_; clear S; intro g4 w S) | ((with_reducible show wpList _ _ _ (⟨_, .load 27 _, _, _, _, _⟩ :: _) _ _); first | (refine step_load S 27 _ _ rfl _ _ _ pk _ Tryd.underlying27 rfl 36 (by kernel_rfl) (by first | rfl | (first | rfl | assumption | (exact Hid.out (by assumption)) | (exact tokL_size _) | (rw [arr8_size]; first | rfl | assumption | (exact Hid.out (by assumption)) | exact tokL_size _ | exact List.length_replicate ..) | (simp [arr8_size]; done))) rfl ?_) | (refine step_loadO 27 _ _ rfl _ _ _ (S.old_heap (Hid.out (by assumption))) _ Tryd.underlying27 rfl 36 (by kernel_rfl) (by first | rfl | (first | rfl | assumption | (exact Hid.out (by assumption)) | (exact tokL_size _) | (rw [arr8_size]; first | rfl | assumption | (exact Hid.out (by assumption)) | exact tokL_size _ | exact List.length_replicate ..) | (simp [arr8_size]; done))) rfl ?_) | (refine step_loadR 27 _ _ _ rfl _ (S.old_range hy) _ Tryd.underlying27 rfl 36 (by kernel_rfl) (by first | rfl | (first | rfl | assumption | (exact Hid.out (by assumption)) | (exact tokL_size _) | (rw [arr8_size]; first | rfl | assumption | (exact Hid.out (by assumption)) | exact tokL_size _ | exact List.length_replicate ..) | (simp [arr8_size]; done))) _ rfl rfl ?_)) | (go_at_call 46; (with_reducible refine (P1.out _).mono ?_); rintro e w1 ⟨v7, rfl, T⟩; replace S := S.call T; clear T; (try simp only [List.nil_append, List.cons_append] at S)) | (go_at_call 73; (with_reducible refine (P2.out _ _ (by first | assumption | exact S.oldB (Hid.out (by assumption)) | exact Bs.mk0 _ _ | exact S.bs pk | exact S.bsr pk) (by first | assumption | exact S.oldB (Hid.out (by assumption)) | exact Bs.mk0 _ _ | exact S.bs pk | exact S.bsr pk)).mono ?_); rintro e w1 ⟨rfl, T⟩; replace S := S.call T; clear T; (try simp only [List.nil_append, List.cons_append] at S)) | ((with_reducible show wpList _ _ _ (⟨none, .store 25 (.tmp 9) (.tmp 8), _, _, _, _⟩ :: _) _ _); refine step_store S 25 (.tmp 9) (.tmp 8) _ _ rfl rfl _ _ pk 32 (by kernel_rfl) (by first | rfl | (first | rfl | assumption | (exact Hid.out (by assumption)) | (exact tokL_size _) | (rw [arr8_size]; first | rfl | assumption | (exact Hid.out (by assumption)) | exact tokL_size _ | exact List.length_replicate ..) | (simp [arr8_size]; done))) (by first | rfl | (first | rfl | assumption | (exact Hid.out (by assumption)) | (exact tokL_size _) | (rw [arr8_size]; first | rfl | assumption | (exact Hid.out (by assumption)) | exact tokL_size _ | exact List.length_replicate ..) | (simp [arr8_size]; done))) on1 rfl ?_; clear S; intro w S) | ((with_reducible show wpList _ _ _ (⟨none, .store 27 (.tmp 4) (.tmp 10), _, _, _, _⟩ :: _) _ _); refine step_store S 27 (.tmp 4) (.tmp 10) _ _ rfl rfl _ _ pk 36 (by kernel_rfl) (by first | rfl | (first | rfl | assumption | (exact Hid.out (by assumption)) | (exact tokL_size _) | (rw [arr8_size]; first | rfl | assumption | (exact Hid.out (by assumption)) | exact tokL_size _ | exact List.length_replicate ..) | (simp [arr8_size]; done))) (by first | rfl | (first | rfl | assumption | (exact Hid.out (by assumption)) | (exact tokL_size _) | (rw [arr8_size]; first | rfl | assumption | (exact Hid.out (by assumption)) | exact tokL_size _ | exact List.length_replicate ..) | (simp [arr8_size]; done))) on1 rfl ?_; clear S; intro w S) | fail)
  refine ret_row rfl g4 27 _ (S.get pk) _ Tryd.underlying27 36 (by kernel_rfl) (by first | rfl | (first | rfl | assumption | (exact Hid.out (by assumption)) | (exact tokL_size _) | (rw [arr8_size]; first | rfl | assumption | (exact Hid.out (by assumption)) | exact tokL_size _ | exact List.length_replicate ..) | (simp [arr8_size]; done))) rfl rfl rfl ?_
  exact ⟨rfl, S.nil⟩

set_option maxRecDepth 100000 in
set_option maxHeartbeats 2000000 in
theorem refSign_s (v : Value) (key : List UInt8) (t : Tok) (w0 : World) (h : Bs w0 v key) : Calls Tryd.prog 21 #[v, .agg (tokL t).toArray] w0 fun e w' => e = .returned (.tuple #[.agg (tokL (snT key t)).toArray, .int .i64 (snE key)]) ∧ Has w0 w' [] := by
  have S := Has.start w0
  obtain ⟨a0, c0, rfl, k1, k2⟩ := Sl.shape h
  unfold maxLen at k2
  have p1 := fun v w h => validKey_s v key w h
  cases hv : vkB key with
  | true =>
    rw [show snT key t = sgT key t from if_pos hv, show snE key = 0 from if_pos hv]
    have p2 := fun v w h => signed_s v key t w h hv
    rw [hv] at p1
    obtain ⟨T2, hT2⟩ : ∃ T2, T2 = sgT key t := ⟨_, rfl⟩
    rw [← hT2] at p2 ⊢
    clear hv hT2
    have H := Lib.hid h; have P1 := Lib.hid p1; have P2 := Lib.hid p2; clear h p1 p2
    go_enter Tryd.func21, Tryd.ntmps21
    go_wp2_with (first | ((with_reducible show wpList _ _ _ (⟨some 3, .box 27 (.tmp 1), _, _, _, _⟩ :: _) _ _); refine step_boxA (dst := some 3) S 27 (.tmp 1) _ rfl rfl ?_; clear S; intro g3 w S) | ((with_reducible show wpList _ _ _ (⟨some 4, .alloc 27, _, _, _, _⟩ :: _) _ _); refine step_alloc (dst := some 4) S 27 (.agg ((tokL tokZ).toArray)) ((tokL tokZ).toArray) (by kernel_rfl) rfl rfl ?_; clear S; intro g4 w S) | (go_at_call 49; (with_reducible refine (P1.out _ _ (by first | assumption | exact S.oldB (Hid.out (by assumption)) | exact Bs.mk0 _ _ | exact S.bs pk | exact S.bsr pk)).mono ?_); rintro e w1 ⟨rfl, T⟩; replace S := S.call T; clear T; (try simp only [List.nil_append, List.cons_append] at S)) | ((with_reducible show wpList _ _ _ (⟨some 9, .build 27 _, _, _, _, _⟩ :: _) _ _); refine step_buildZ 27 (.agg ((tokL tokZ).toArray)) (fun w => by kernel_rfl) rfl ?_) | ((with_reducible show wpList _ _ _ (⟨none, .store 27 (.tmp 4) (.tmp 9), _, _, _, _⟩ :: _) _ _); refine step_store S 27 (.tmp 4) (.tmp 9) _ _ rfl rfl _ _ pk 36 (by kernel_rfl) (by first | rfl | (first | rfl | assumption | (exact Hid.out (by assumption)) | (exact tokL_size _) | (rw [arr8_size]; first | rfl | assumption | (exact Hid.out (by assumption)) | exact tokL_size _ | exact List.length_replicate ..) | (simp [arr8_size]; done))) (by first | rfl | (first | rfl | assumption | (exact Hid.out (by assumption)) | (exact tokL_size _) | (rw [arr8_size]; first | rfl | assumption | (exact Hid.out (by assumption)) | exact tokL_size _ | exact List.length_replicate ..) | (simp [arr8_size]; done))) on1 rfl ?_; clear S; intro w S) | ((with_reducible show wpList _ _ _ (⟨_, .load 27 _, _, _, _, _⟩ :: _) _ _); first | (refine step_load S 27 _ _ rfl _ _ _ pk _ Tryd.underlying27 rfl 36 (by kernel_rfl) (by first | rfl | (first | rfl | assumption | (exact Hid.out (by assumption)) | (exact tokL_size _) | (rw [arr8_size]; first | rfl | assumption | (exact Hid.out (by assumption)) | exact tokL_size _ | exact List.length_replicate ..) | (simp [arr8_size]; done))) rfl ?_) | (refine step_loadO 27 _ _ rfl _ _ _ (S.old_heap (Hid.out (by assumption))) _ Tryd.underlying27 rfl 36 (by kernel_rfl) (by first | rfl | (first | rfl | assumption | (exact Hid.out (by assumption)) | (exact tokL_size _) | (rw [arr8_size]; first | rfl | assumption | (exact Hid.out (by assumption)) | exact tokL_size _ | exact List.length_replicate ..) | (simp [arr8_size]; done))) rfl ?_) | (refine step_loadR 27 _ _ _ rfl _ (S.old_range hy) _ Tryd.underlying27 rfl 36 (by kernel_rfl) (by first | rfl | (first | rfl | assumption | (exact Hid.out (by assumption)) | (exact tokL_size _) | (rw [arr8_size]; first | rfl | assumption | (exact Hid.out (by assumption)) | exact tokL_size _ | exact List.length_replicate ..) | (simp [arr8_size]; done))) _ rfl rfl ?_)) | (go_at_call 50; (with_reducible refine (P2.out _ _ (by first | assumption | exact S.oldB (Hid.out (by assumption)) | exact Bs.mk0 _ _ | exact S.bs pk | exact S.bsr pk)).mono ?_); rintro e w1 ⟨rfl, T⟩; replace S := S.call T; clear T; (try simp only [List.nil_append, List.cons_append] at S)) | ((with_reducible show wpList _ _ _ (⟨none, .store 27 (.tmp 4) (.tmp 12), _, _, _, _⟩ :: _) _ _); refine step_store S 27 (.tmp 4) (.tmp 12) _ _ rfl rfl _ _ pk 36 (by kernel_rfl) (by first | rfl | (first | rfl | assumption | (exact Hid.out (by assumption)) | (exact tokL_size _) | (rw [arr8_size]; first | rfl | assumption | (exact Hid.out (by assumption)) | exact tokL_size _ | exact List.length_replicate ..) | (simp [arr8_size]; done))) (by first | rfl | (first | rfl | assumption | (exact Hid.out (by assumption)) | (exact tokL_size _) | (rw [arr8_size]; first | rfl | assumption | (exact Hid.out (by assumption)) | exact tokL_size _ | exact List.length_replicate ..) | (simp [arr8_size]; done))) on1 rfl ?_; clear S; intro w S) | fail)
    refine ret_row_tmp rfl g4 27 _ (S.get pk) _ Tryd.underlying27 36 (by kernel_rfl) (by first | rfl | (first | rfl | assumption | (exact Hid.out (by assumption)) | (exact tokL_size _) | (rw [arr8_size]; first | rfl | assumption | (exact Hid.out (by assumption)) | exact tokL_size _ | exact List.length_replicate ..) | (simp [arr8_size]; done))) rfl rfl rfl ?_
    exact ⟨rfl, S.nil⟩
  | false =>
    rw [show snT key t = tokZ from if_neg (by rw [hv]; decide), show snE key = 2 from if_neg (by rw [hv]; decide)]
    rw [hv] at p1
    clear hv
    have H := Lib.hid h; have P1 := Lib.hid p1; clear h p1
    go_enter Tryd.func21, Tryd.ntmps21
    go_wp2_with (first | ((with_reducible show wpList _ _ _ (⟨some 3, .box 27 (.tmp 1), _, _, _, _⟩ :: _) _ _); refine step_boxA (dst := some 3) S 27 (.tmp 1) _ rfl rfl ?_; clear S; intro g3 w S) | ((with_reducible show wpList _ _ _ (⟨some 4, .alloc 27, _, _, _, _⟩ :: _) _ _); refine step_alloc (dst := some 4) S 27 (.agg ((tokL tokZ).toArray)) ((tokL tokZ).toArray) (by kernel_rfl) rfl rfl ?_; clear S; intro g4 w S) | (go_at_call 49; (with_reducible refine (P1.out _ _ (by first | assumption | exact S.oldB (Hid.out (by assumption)) | exact Bs.mk0 _ _ | exact S.bs pk | exact S.bsr pk)).mono ?_); rintro e w1 ⟨rfl, T⟩; replace S := S.call T; clear T; (try simp only [List.nil_append, List.cons_append] at S)) | ((with_reducible show wpList _ _ _ (⟨some 9, .build 27 _, _, _, _, _⟩ :: _) _ _); refine step_buildZ 27 (.agg ((tokL tokZ).toArray)) (fun w => by kernel_rfl) rfl ?_) | ((with_reducible show wpList _ _ _ (⟨none, .store 27 (.tmp 4) (.tmp 9), _, _, _, _⟩ :: _) _ _); refine step_store S 27 (.tmp 4) (.tmp 9) _ _ rfl rfl _ _ pk 36 (by kernel_rfl) (by first | rfl | (first | rfl | assumption | (exact Hid.out (by assumption)) | (exact tokL_size _) | (rw [arr8_size]; first | rfl | assumption | (exact Hid.out (by assumption)) | exact tokL_size _ | exact List.length_replicate ..) | (simp [arr8_size]; done))) (by first | rfl | (first | rfl | assumption | (exact Hid.out (by assumption)) | (exact tokL_size _) | (rw [arr8_size]; first | rfl | assumption | (exact Hid.out (by assumption)) | exact tokL_size _ | exact List.length_replicate ..) | (simp [arr8_size]; done))) on1 rfl ?_; clear S; intro w S) | ((with_reducible show wpList _ _ _ (⟨_, .load 27 _, _, _, _, _⟩ :: _) _ _); first | (refine step_load S 27 _ _ rfl _ _ _ pk _ Tryd.underlying27 rfl 36 (by kernel_rfl) (by first | rfl | (first | rfl | assumption | (exact Hid.out (by assumption)) | (exact tokL_size _) | (rw [arr8_size]; first | rfl | assumption | (exact Hid.out (by assumption)) | exact tokL_size _ | exact List.length_replicate ..) | (simp [arr8_size]; done))) rfl ?_) | (refine step_loadO 27 _ _ rfl _ _ _ (S.old_heap (Hid.out (by assumption))) _ Tryd.underlying27 rfl 36 (by kernel_rfl) (by first | rfl | (first | rfl | assumption | (exact Hid.out (by assumption)) | (exact tokL_size _) | (rw [arr8_size]; first | rfl | assumption | (exact Hid.out (by assumption)) | exact tokL_size _ | exact List.length_replicate ..) | (simp [arr8_size]; done))) rfl ?_) | (refine step_loadR 27 _ _ _ rfl _ (S.old_range hy) _ Tryd.underlying27 rfl 36 (by kernel_rfl) (by first | rfl | (first | rfl | assumption | (exact Hid.out (by assumption)) | (exact tokL_size _) | (rw [arr8_size]; first | rfl | assumption | (exact Hid.out (by assumption)) | exact tokL_size _ | exact List.length_replicate ..) | (simp [arr8_size]; done))) _ rfl rfl ?_)) | ((with_reducible show wpList _ _ _ (⟨none, .store 27 (.tmp 4) (.tmp 12), _, _, _, _⟩ :: _) _ _); refine step_store S 27 (.tmp 4) (.tmp 12) _ _ rfl rfl _ _ pk 36 (by kernel_rfl) (by first | rfl | (first | rfl | assumption | (exact Hid.out (by assumption)) | (exact tokL_size _) | (rw [arr8_size]; first | rfl | assumption | (exact Hid.out (by assumption)) | exact tokL_size _ | exact List.length_replicate ..) | (simp [arr8_size]; done))) (by first | rfl | (first | rfl | assumption | (exact Hid.out (by assumption)) | (exact tokL_size _) | (rw [arr8_size]; first | rfl | assumption | (exact Hid.out (by assumption)) | exact tokL_size _ | exact List.length_replicate ..) | (simp [arr8_size]; done))) on1 rfl ?_; clear S; intro w S) | fail)
    refine ret_row_tmp rfl g4 27 _ (S.get pk) _ Tryd.underlying27 36 (by kernel_rfl) (by first | rfl | (first | rfl | assumption | (exact Hid.out (by assumption)) | (exact tokL_size _) | (rw [arr8_size]; first | rfl | assumption | (exact Hid.out (by assumption)) | exact tokL_size _ | exact List.length_replicate ..) | (simp [arr8_size]; done))) rfl rfl rfl ?_
    exact ⟨rfl, S.nil⟩

set_option maxRecDepth 100000 in
set_option maxHeartbeats 2000000 in
theorem refGenuine_s (v : Value) (key : List UInt8) (t : Tok) (w0 : World) (h : Bs w0 v key) : Calls Tryd.prog 23 #[v, .agg (tokL t).toArray] w0 fun e w' => e = .returned (.tuple #[.bool (vkB key && decide (sgT key t = t)), .int .i64 (snE key)]) ∧ Has w0 w' [] := by
  have S := Has.start w0
  obtain ⟨a0, c0, rfl, k1, k2⟩ := Sl.shape h
  unfold maxLen at k2
  have p1 := fun v w h => validKey_s v key w h
  have eg := eqGuardT
  cases hv : vkB key with
  | true =>
    rw [show snE key = 0 from if_pos hv, Bool.true_and]
    have p2 := fun v w h => signed_s v key t w h hv
    rw [hv] at p1
    obtain ⟨T2, hT2⟩ : ∃ T2, T2 = sgT key t := ⟨_, rfl⟩
    rw [← hT2] at p2 ⊢
    have he := fun w => eqlT T2 t w
    obtain ⟨B, hB⟩ : ∃ B, B = decide (T2 = t) := ⟨_, rfl⟩
    rw [← hB] at he ⊢
    clear hv hT2 hB
    have H := Lib.hid h; have P1 := Lib.hid p1; have P2 := Lib.hid p2; clear h p1 p2
    go_enter Tryd.func23, Tryd.ntmps23
    go_wp2_with (first | ((with_reducible show wpList _ _ _ (⟨some 3, .box 27 (.tmp 1), _, _, _, _⟩ :: _) _ _); refine step_boxA (dst := some 3) S 27 (.tmp 1) _ rfl rfl ?_; clear S; intro g3 w S) | (go_at_call 49; (with_reducible refine (P1.out _ _ (by first | assumption | exact S.oldB (Hid.out (by assumption)) | exact Bs.mk0 _ _ | exact S.bs pk | exact S.bsr pk)).mono ?_); rintro e w1 ⟨rfl, T⟩; replace S := S.call T; clear T; (try simp only [List.nil_append, List.cons_append] at S)) | ((with_reducible show wpList _ _ _ (⟨_, .load 27 _, _, _, _, _⟩ :: _) _ _); first | (refine step_load S 27 _ _ rfl _ _ _ pk _ Tryd.underlying27 rfl 36 (by kernel_rfl) (by first | rfl | (first | rfl | assumption | (exact Hid.out (by assumption)) | (exact tokL_size _) | (rw [arr8_size]; first | rfl | assumption | (exact Hid.out (by assumption)) | exact tokL_size _ | exact List.length_replicate ..) | (simp [arr8_size]; done))) rfl ?_) | (refine step_loadO 27 _ _ rfl _ _ _ (S.old_heap (Hid.out (by assumption))) _ Tryd.underlying27 rfl 36 (by kernel_rfl) (by first | rfl | (first | rfl | assumption | (exact Hid.out (by assumption)) | (exact tokL_size _) | (rw [arr8_size]; first | rfl | assumption | (exact Hid.out (by assumption)) | exact tokL_size _ | exact List.length_replicate ..) | (simp [arr8_size]; done))) rfl ?_) | (refine step_loadR 27 _ _ _ rfl _ (S.old_range hy) _ Tryd.underlying27 rfl 36 (by kernel_rfl) (by first | rfl | (first | rfl | assumption | (exact Hid.out (by assumption)) | (exact tokL_size _) | (rw [arr8_size]; first | rfl | assumption | (exact Hid.out (by assumption)) | exact tokL_size _ | exact List.length_replicate ..) | (simp [arr8_size]; done))) _ rfl rfl ?_)) | fail)
    refine wp_rely S [⟨[], [], [], fun _ v => v = (.slice a0 key.length c0), fun _ v => []⟩, ⟨[], [], [], fun _ v => v = .agg (tokL t).toArray, fun _ v => []⟩, ⟨[0, 1], [], [], fun _ v => v = .agg (tokL T2).toArray, fun _ v => []⟩, ⟨[], [], [], fun _ v => v = .agg (tokL t).toArray, fun _ v => []⟩, ⟨[0, 1, 2, 3], [], [], fun _ v => v = .bool B, fun _ v => []⟩, ⟨[0, 1, 2, 3, 4], [], [], fun _ v => v = (.bool B), fun _ v => []⟩, ⟨[0, 1, 2, 3, 4, 5], [], [], fun _ v => v = (.int .i64 0), fun _ v => []⟩] ?A1 ?hA1 (by kernel_rfl) (by kernel_rfl) (by kernel_rfl) [0, 1, 2, 3, 4, 5, 6] (by kernel_rfl) ?hok1 ?fin1
    case hA1 => intro u; simp only [putAll, List.length_cons, List.length_nil, Nat.zero_add, Nat.reduceAdd, dstAt, List.getElem?_toArray, List.getElem?_cons_zero, List.getElem?_cons_succ, Option.bind_some, Act.put, List.setIfInBounds_toArray, List.set_cons_zero, List.set_cons_succ]; rfl
    case hok1 =>
      intro i hi
      obtain rfl | rfl | rfl | rfl | rfl | rfl | rfl : i = 0 ∨ i = 1 ∨ i = 2 ∨ i = 3 ∨ i = 4 ∨ i = 5 ∨ i = 6 := by simp only [List.length_cons, List.length_nil, Nat.zero_add, Nat.reduceAdd] at hi; omega
      · clear hi
        refine step_of rfl rfl rfl ?_
        intro u G w hf S
        simp only [resOf, spec, RSpec.resAt, z0, z1, z2, z3, z4, z5, z6, z7, ptrBlk] at S ⊢
        simp only [does]
        go_simp
        try first | exact S | exact ⟨vv, S⟩ | exact vv
      · clear hi
        refine step_of rfl rfl rfl ?_
        intro u G w hf S
        simp only [resOf, spec, RSpec.resAt, z0, z1, z2, z3, z4, z5, z6, z7, ptrBlk] at S ⊢
        refine does_load 27 (.tmp 3) g3 rfl _ _ _ (S.get (r := blk g3 _) pk) _ Tryd.underlying27 rfl 36 (by kernel_rfl) (by first | rfl | (first | rfl | assumption | (exact Hid.out (by assumption)) | (exact tokL_size _) | (rw [arr8_size]; first | rfl | assumption | (exact Hid.out (by assumption)) | exact tokL_size _ | exact List.length_replicate ..) | (simp [arr8_size]; done))) ?_; exact ⟨rfl, S⟩
      · clear hi
        refine step_of rfl rfl rfl ?_
        intro u G w hf S
        have f0 : u 0 = (.slice a0 key.length c0) := hf 0 (by simp)
        have f1 : u 1 = .agg (tokL t).toArray := hf 1 (by simp)
        simp only [resOf, spec, RSpec.resAt, z0, z1, z2, z3, z4, z5, z6, z7, ptrBlk] at S ⊢
        simp only [f0, f1]
        refine does_fn (args := [((.slice a0 key.length c0)), (.agg (tokL t).toArray)]) Tryd.func50 (by kernel_rfl) (by kernel_rfl) (P2.out _ w (S.oldB H.out)) rfl ?_
        rintro e w1 ⟨rfl, T⟩
        exact ⟨_, rfl, rfl, S.call T⟩
      · clear hi
        refine step_of rfl rfl rfl ?_
        intro u G w hf S
        simp only [resOf, spec, RSpec.resAt, z0, z1, z2, z3, z4, z5, z6, z7, ptrBlk] at S ⊢
        refine does_load 27 (.tmp 3) g3 rfl _ _ _ (S.get (r := blk g3 _) pk) _ Tryd.underlying27 rfl 36 (by kernel_rfl) (by first | rfl | (first | rfl | assumption | (exact Hid.out (by assumption)) | (exact tokL_size _) | (rw [arr8_size]; first | rfl | assumption | (exact Hid.out (by assumption)) | exact tokL_size _ | exact List.length_replicate ..) | (simp [arr8_size]; done))) ?_; exact ⟨rfl, S⟩
      · clear hi
        refine step_of rfl rfl rfl ?_
        intro u G w hf S
        have f0 : u 0 = (.slice a0 key.length c0) := hf 0 (by simp)
        have f1 : u 1 = .agg (tokL t).toArray := hf 1 (by simp)
        have f2 : u 2 = .agg (tokL T2).toArray := hf 2 (by simp)
        have f3 : u 3 = .agg (tokL t).toArray := hf 3 (by simp)
        simp only [resOf, spec, RSpec.resAt, z0, z1, z2, z3, z4, z5, z6, z7, ptrBlk] at S ⊢
        simp only [f0, f1, f2, f3]
        simp only [does]
        go_simp
        try first | exact S | exact ⟨vv, S⟩ | exact vv
      · clear hi
        refine step_of rfl rfl rfl ?_
        intro u G w hf S
        have f0 : u 0 = (.slice a0 key.length c0) := hf 0 (by simp)
        have f1 : u 1 = .agg (tokL t).toArray := hf 1 (by simp)
        have f2 : u 2 = .agg (tokL T2).toArray := hf 2 (by simp)
        have f3 : u 3 = .agg (tokL t).toArray := hf 3 (by simp)
        have f4 : u 4 = .bool B := hf 4 (by simp)
        simp only [resOf, spec, RSpec.resAt, z0, z1, z2, z3, z4, z5, z6, z7, ptrBlk] at S ⊢
        simp only [f0, f1, f2, f3, f4]
        simp only [does]
        go_simp
        try first | exact S | exact ⟨vv, S⟩ | exact vv
      · clear hi
        refine step_of rfl rfl rfl ?_
        intro u G w hf S
        have f0 : u 0 = (.slice a0 key.length c0) := hf 0 (by simp)
        have f1 : u 1 = .agg (tokL t).toArray := hf 1 (by simp)
        have f2 : u 2 = .agg (tokL T2).toArray := hf 2 (by simp)
        have f3 : u 3 = .agg (tokL t).toArray := hf 3 (by simp)
        have f4 : u 4 = .bool B := hf 4 (by simp)
        have f5 : u 5 = (.bool B) := hf 5 (by simp)
        simp only [resOf, spec, RSpec.resAt, z0, z1, z2, z3, z4, z5, z6, z7, ptrBlk] at S ⊢
        simp only [f0, f1, f2, f3, f4, f5]
        simp only [does]
        go_simp
        try first | exact S | exact ⟨vv, S⟩ | exact vv
    case fin1 =>
      intro u w hf S
      have f0 : u 0 = (.slice a0 key.length c0) := hf 0 (by simp)
      have f1 : u 1 = .agg (tokL t).toArray := hf 1 (by simp)
      have f2 : u 2 = .agg (tokL T2).toArray := hf 2 (by simp)
      have f3 : u 3 = .agg (tokL t).toArray := hf 3 (by simp)
      have f4 : u 4 = .bool B := hf 4 (by simp)
      have f5 : u 5 = (.bool B) := hf 5 (by simp)
      have f6 : u 6 = (.int .i64 0) := hf 6 (by simp)
      simp only [resOf, spec, RSpec.resAt, z0, z1, z2, z3, z4, z5, z6, z7, ptrBlk] at S
      clear hf
      simp only [List.length_cons, List.length_nil, Nat.zero_add, Nat.reduceAdd, List.drop_succ_cons, List.drop_zero, f0, f1, f2, f3, f4, f5, f6]
      clear f0 f1 f2 f3 f4 f5 f6
      go_wp2_with (first | ((with_reducible show wpList _ _ _ (⟨some 3, .box 27 (.tmp 1), _, _, _, _⟩ :: _) _ _); refine step_boxA (dst := some 3) S 27 (.tmp 1) _ rfl rfl ?_; clear S; intro g3 w S) | ((with_reducible show wpList _ _ _ (⟨_, .load 27 _, _, _, _, _⟩ :: _) _ _); first | (refine step_load S 27 _ _ rfl _ _ _ pk _ Tryd.underlying27 rfl 36 (by kernel_rfl) (by first | rfl | (first | rfl | assumption | (exact Hid.out (by assumption)) | (exact tokL_size _) | (rw [arr8_size]; first | rfl | assumption | (exact Hid.out (by assumption)) | exact tokL_size _ | exact List.length_replicate ..) | (simp [arr8_size]; done))) rfl ?_) | (refine step_loadO 27 _ _ rfl _ _ _ (S.old_heap (Hid.out (by assumption))) _ Tryd.underlying27 rfl 36 (by kernel_rfl) (by first | rfl | (first | rfl | assumption | (exact Hid.out (by assumption)) | (exact tokL_size _) | (rw [arr8_size]; first | rfl | assumption | (exact Hid.out (by assumption)) | exact tokL_size _ | exact List.length_replicate ..) | (simp [arr8_size]; done))) rfl ?_) | (refine step_loadR 27 _ _ _ rfl _ (S.old_range hy) _ Tryd.underlying27 rfl 36 (by kernel_rfl) (by first | rfl | (first | rfl | assumption | (exact Hid.out (by assumption)) | (exact tokL_size _) | (rw [arr8_size]; first | rfl | assumption | (exact Hid.out (by assumption)) | exact tokL_size _ | exact List.length_replicate ..) | (simp [arr8_size]; done))) _ rfl rfl ?_)) | fail)
      go_ret2
      exact ⟨rfl, S.nil⟩
  | false =>
    rw [show snE key = 2 from if_neg (by rw [hv]; decide), Bool.false_and]
    rw [hv] at p1
    clear hv
    have H := Lib.hid h; have P1 := Lib.hid p1; clear h p1
    go_enter Tryd.func23, Tryd.ntmps23
    go_wp2_with (first | ((with_reducible show wpList _ _ _ (⟨some 3, .box 27 (.tmp 1), _, _, _, _⟩ :: _) _ _); refine step_boxA (dst := some 3) S 27 (.tmp 1) _ rfl rfl ?_; clear S; intro g3 w S) | (go_at_call 49; (with_reducible refine (P1.out _ _ (by first | assumption | exact S.oldB (Hid.out (by assumption)) | exact Bs.mk0 _ _ | exact S.bs pk | exact S.bsr pk)).mono ?_); rintro e w1 ⟨rfl, T⟩; replace S := S.call T; clear T; (try simp only [List.nil_append, List.cons_append] at S)) | ((with_reducible show wpList _ _ _ (⟨_, .load 27 _, _, _, _, _⟩ :: _) _ _); first | (refine step_load S 27 _ _ rfl _ _ _ pk _ Tryd.underlying27 rfl 36 (by kernel_rfl) (by first | rfl | (first | rfl | assumption | (exact Hid.out (by assumption)) | (exact tokL_size _) | (rw [arr8_size]; first | rfl | assumption | (exact Hid.out (by assumption)) | exact tokL_size _ | exact List.length_replicate ..) | (simp [arr8_size]; done))) rfl ?_) | (refine step_loadO 27 _ _ rfl _ _ _ (S.old_heap (Hid.out (by assumption))) _ Tryd.underlying27 rfl 36 (by kernel_rfl) (by first | rfl | (first | rfl | assumption | (exact Hid.out (by assumption)) | (exact tokL_size _) | (rw [arr8_size]; first | rfl | assumption | (exact Hid.out (by assumption)) | exact tokL_size _ | exact List.length_replicate ..) | (simp [arr8_size]; done))) rfl ?_) | (refine step_loadR 27 _ _ _ rfl _ (S.old_range hy) _ Tryd.underlying27 rfl 36 (by kernel_rfl) (by first | rfl | (first | rfl | assumption | (exact Hid.out (by assumption)) | (exact tokL_size _) | (rw [arr8_size]; first | rfl | assumption | (exact Hid.out (by assumption)) | exact tokL_size _ | exact List.length_replicate ..) | (simp [arr8_size]; done))) _ rfl rfl ?_)) | fail)
    go_ret2
    exact ⟨rfl, S.nil⟩
end Go.Proofs.YtioonimpobcglaaDoor
