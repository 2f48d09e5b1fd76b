/- AuthSigned: its walk. No condition but the tables and the reach. -/
import Derived.Test.YtioonimpobcglaaDoorBd
import Derived.Test.YtioonimpobcglaaDoorAlv
set_option linter.unusedSimpArgs false
set_option linter.unusedVariables false
namespace Go.Proofs.YtioonimpobcglaaDoor
open Go.RowKit

theorem arr8_setS (xs : List UInt8) (i : Nat) (y : UInt8) : (arr8 xs).setIfInBounds i (by8 y) = arr8 (xs.set i y) := by
  apply Array.ext'
  simp [arr8, List.map_set]

theorem bit_neS (x k : UInt8) (h : k.toNat < 8) : x ^^^ ((1 : UInt8) <<< k) ≠ x := by
  have hk : ∀ k : Fin 8, ((1 : UInt8) <<< (UInt8.ofNat k.val)) ≠ 0 := by decide
  have h1 := hk ⟨k.toNat, h⟩
  have e : UInt8.ofNat k.toNat = k := UInt8.ofNat_toNat
  simp only [e] at h1
  intro h2
  apply h1
  have h3 : x ^^^ (x ^^^ ((1 : UInt8) <<< k)) = x ^^^ x := by rw [h2]
  rw [← UInt8.xor_assoc, UInt8.xor_self, UInt8.zero_xor] at h3
  exact h3

theorem set_neS (xs : List UInt8) (i : Nat) (y : UInt8) (hi : i < xs.length) (hy : y ≠ xs[i]) : xs.set i y ≠ xs := by
  intro h
  have := congrArg (fun l => l[i]?) h
  simp only [List.getElem?_set_self hi, List.getElem?_eq_getElem hi, Option.some.injEq] at this
  exact hy this

theorem shl1S (k : Nat) (hk : k < 8) : ((1 : UInt8) <<< (UInt8.ofNat k)).toNat = 2 ^ k := by
  have : ∀ k : Fin 8, ((1 : UInt8) <<< (UInt8.ofNat k.val)).toNat = 2 ^ k.val := by decide
  exact this ⟨k, hk⟩

/-- A token with one byte of its tag changed. -/
def Tok.setTag (t : Tok) (i : Nat) (y : UInt8) : Tok := ⟨t.tenant, t.role, t.expiry, t.serial, t.tag.set i y, by rw [List.length_set]; exact t.len⟩

theorem tokL_set (t : Tok) (i : Nat) (y : UInt8) : (tokL t).toArray.setIfInBounds (4 + i) (by8 y) = (tokL (t.setTag i y)).toArray := by
  apply Array.ext'
  simp only [Array.toList_setIfInBounds, tokL, Tok.setTag, List.map_set]
  rw [show 4 + i = i + 1 + 1 + 1 + 1 by omega]
  rfl

theorem setTag_bad (key : List UInt8) (t : Tok) (i : Nat) (y x : UInt8) (hs : sgT key t = t) (hx : t.tag[i]? = some x) (hy : y ≠ x) : decide (sgT key (t.setTag i y) = t.setTag i y) = false := by
  apply decide_eq_false
  intro h
  have h1 : (sgT key (t.setTag i y)).tag = (t.setTag i y).tag := by rw [h]
  have h2 : (sgT key (t.setTag i y)).tag = (sgT key t).tag := rfl
  rw [h2, hs] at h1
  have h3 : t.tag.set i y ≠ t.tag := by
    obtain ⟨hlt, he⟩ := List.getElem?_eq_some_iff.1 hx
    exact set_neS t.tag i y hlt (by rw [he]; exact hy)
  exact h3 h1.symm

set_option maxRecDepth 100000 in
set_option maxHeartbeats 8000000 in
theorem signed_no (v0 : Value) (key : List UInt8) (t : Tok) (bit : Nat) (w0 : World) (h1 : Bs w0 v0 key) (hK : KT w0) (hP : PT w0) (hv : vkB key = false) :
    Calls Tryd.prog 6 #[v0, .agg (tokL t).toArray, .int .u8 (bit : Int)] w0 fun e w' => e = .returned (.bool true) ∧ Has w0 w' [] := by
  have S := Has.start w0
  have p1 := fun w hK hP => alive_s w hK hP
  have p2 := fun w h hk => sign_s v0 key t w h hk
  have p3 := fun w => enc_s t w
  have p4 := fun w h hk => genuine_s v0 key t w h hk
  rw [show snE key = 2 from if_neg (by rw [hv]; decide)] at p2 p4
  rw [hv, Bool.false_and] at p4
  have hel := encT_length t
  generalize encT t = X at p3 hel
  generalize snT key t = T1 at p2
  obtain ⟨a0, c0, rfl, k1, k2⟩ := Sl.shape h1
  unfold maxLen at k2
  have hk : key.length < 1 ∨ 64 < key.length := by
    by_cases h : key.length < 1 ∨ 64 < key.length
    · exact h
    · rw [show vkB key = true from decide_eq_true (by omega)] at hv; cases hv
  have HX := Lib.hid hk
  clear hv hk
  have H1 := Lib.hid h1; have HK := Lib.hid hK; have HP := Lib.hid hP; have P1 := Lib.hid p1; have P2 := Lib.hid p2; have P3 := Lib.hid p3; have P4 := Lib.hid p4; have HEL := Lib.hid hel; clear h1 hK hP p1 p2 p3 p4 hel
  go_enter Tryd.func6, Tryd.ntmps6
  go_wp2_with (first | ((with_reducible show wpList _ _ _ (⟨some 4, .box 27 (.tmp 1), _, _, _, _⟩ :: _) _ _); refine step_boxA (dst := some 4) S 27 (.tmp 1) _ rfl gw ?_; clear S; intro g4 w S) | (go_at_call 31; (with_reducible refine (P1.out _ (S.kt (Hid.out (by assumption))) (S.pt HP.out)).mono ?_); rintro e w1 ⟨rfl, T⟩; replace S := S.call T; clear T; (try simp only [List.nil_append, List.cons_append] at S)) | ((with_reducible show wpList _ _ _ (⟨_, .load 27 _, _, _, _, _⟩ :: _) _ _); first | (refine step_load S 27 _ _ rfl _ _ _ pk _ Tryd.underlying27 rfl 36 (by kernel_rfl) (by first | rfl | (first | rfl | assumption | (exact Hid.out (by assumption)) | (exact tokL_size _) | (rw [arr8_size]; first | rfl | assumption | (exact Hid.out (by assumption)) | exact tokL_size _ | exact List.length_replicate ..) | (simp [arr8_size]; done))) gw ?_) | (refine step_loadO 27 _ _ rfl _ _ _ (S.old_heap (Hid.out (by assumption))) _ Tryd.underlying27 rfl 36 (by kernel_rfl) (by first | rfl | (first | rfl | assumption | (exact Hid.out (by assumption)) | (exact tokL_size _) | (rw [arr8_size]; first | rfl | assumption | (exact Hid.out (by assumption)) | exact tokL_size _ | exact List.length_replicate ..) | (simp [arr8_size]; done))) gw ?_) | (refine step_loadR 27 _ _ _ rfl _ (S.old_range hy) _ Tryd.underlying27 rfl 36 (by kernel_rfl) (by first | rfl | (first | rfl | assumption | (exact Hid.out (by assumption)) | (exact tokL_size _) | (rw [arr8_size]; first | rfl | assumption | (exact Hid.out (by assumption)) | exact tokL_size _ | exact List.length_replicate ..) | (simp [arr8_size]; done))) _ rfl gw ?_)) | (go_at_call 20; (with_reducible refine (P2.out _ (S.oldB H1.out) (S.kt (Hid.out (by assumption)))).mono ?_); rintro e w1 ⟨rfl, T⟩; replace S := S.call T; clear T; (try simp only [List.nil_append, List.cons_append] at S)) | ((with_reducible show wpList _ _ _ (⟨some 8, .alloc 27, _, _, _, _⟩ :: _) _ _); refine step_alloc (dst := some 8) S 27 (.agg ((tokL tokZ).toArray)) ((tokL tokZ).toArray) (by kernel_rfl) rfl gw ?_; clear S; intro g8 w S) | ((with_reducible show wpList _ _ _ (⟨none, .store 27 (.tmp 8) (.tmp 23), _, _, _, _⟩ :: _) _ _); refine step_store S 27 (.tmp 8) (.tmp 23) _ _ rfl rfl _ _ pk 36 (by kernel_rfl) (by first | rfl | (first | rfl | assumption | (exact Hid.out (by assumption)) | (exact tokL_size _) | (rw [arr8_size]; first | rfl | assumption | (exact Hid.out (by assumption)) | exact tokL_size _ | exact List.length_replicate ..) | (simp [arr8_size]; done))) (by first | rfl | (first | rfl | assumption | (exact Hid.out (by assumption)) | (exact tokL_size _) | (rw [arr8_size]; first | rfl | assumption | (exact Hid.out (by assumption)) | exact tokL_size _ | exact List.length_replicate ..) | (simp [arr8_size]; done))) on1 gw ?_; clear S; intro w S) | (go_at_call 16; (with_reducible refine (P3.out _).mono ?_); rintro e w1 ⟨v10, rfl, T⟩; replace S := S.call T; clear T; (try simp only [List.nil_append, List.cons_append] at S); obtain ⟨a10, c10, hv10, hc10, hm10⟩ := Sl.shape (S.bs (v := v10) (xs := X) pk); rw [HEL.out] at hv10 hc10; subst hv10) | (go_at_call 22; (with_reducible refine (P4.out _ (S.oldB H1.out) (S.kt (Hid.out (by assumption)))).mono ?_); rintro e w1 ⟨rfl, T⟩; replace S := S.call T; clear T; (try simp only [List.nil_append, List.cons_append] at S)) | ((with_reducible show wpList _ _ _ (⟨_, .slice 22 _ _ _ _, _, _, _, _⟩ :: _) _ _); refine step_cutH 22 5 1 _ _ _ _ _ _ _ 14 rfl rfl (by first | rfl | omega) (by first | (first | omega | assumption | (exact Hid.out (by assumption)) | (simp only [List.length_append, List.length_cons, List.length_nil]; omega)) | decide) Tryd.underlying22 (by kernel_rfl) gw ?_) | (go_at_call 32; (with_reducible refine (tag_s _ _ _ _ _ (by first | assumption | exact S.oldB (Hid.out (by assumption)) | exact Bs.mk0 _ _ | exact S.bs pk | exact S.bsr pk) (by first | assumption | exact S.oldB (Hid.out (by assumption)) | exact Bs.mk0 _ _ | exact S.bs pk | exact S.bsr pk) (S.kt (Hid.out (by assumption))) (by (first | omega | assumption | (exact Hid.out (by assumption)) | (simp only [List.length_append, List.length_cons, List.length_nil]; omega)))).mono ?_); rintro e w1 ⟨rfl, T⟩; replace S := S.call T; clear T; (try simp only [List.nil_append, List.cons_append] at S)) | ((with_reducible show wpList _ _ _ (⟨some 13, .alloc 25, _, _, _, _⟩ :: _) _ _); refine step_alloc (dst := some 13) S 25 (.agg (arr8 (List.replicate 32 0))) (arr8 (List.replicate 32 0)) (by kernel_rfl) rfl gw ?_; clear S; intro g13 w S) | ((with_reducible show wpList _ _ _ (⟨none, .store 25 (.tmp 13) (.tmp 58), _, _, _, _⟩ :: _) _ _); refine step_store S 25 (.tmp 13) (.tmp 58) _ _ rfl rfl _ _ pk 32 (by kernel_rfl) (by first | rfl | (first | rfl | assumption | (exact Hid.out (by assumption)) | (exact tokL_size _) | (rw [arr8_size]; first | rfl | assumption | (exact Hid.out (by assumption)) | exact tokL_size _ | exact List.length_replicate ..) | (simp [arr8_size]; done))) (by first | rfl | (first | rfl | assumption | (exact Hid.out (by assumption)) | (exact tokL_size _) | (rw [arr8_size]; first | rfl | assumption | (exact Hid.out (by assumption)) | exact tokL_size _ | exact List.length_replicate ..) | (simp [arr8_size]; done))) on1 gw ?_; clear S; intro w S) | ((with_reducible show wpList _ _ _ (⟨some 15, .alloc 27, _, _, _, _⟩ :: _) _ _); refine step_alloc (dst := some 15) S 27 (.agg ((tokL tokZ).toArray)) ((tokL tokZ).toArray) (by kernel_rfl) rfl gw ?_; clear S; intro g15 w S) | ((with_reducible show wpList _ _ _ (⟨none, .store 27 (.tmp 15) (.tmp 60), _, _, _, _⟩ :: _) _ _); refine step_store S 27 (.tmp 15) (.tmp 60) _ _ rfl rfl _ _ pk 36 (by kernel_rfl) (by first | rfl | (first | rfl | assumption | (exact Hid.out (by assumption)) | (exact tokL_size _) | (rw [arr8_size]; first | rfl | assumption | (exact Hid.out (by assumption)) | exact tokL_size _ | exact List.length_replicate ..) | (simp [arr8_size]; done))) (by first | rfl | (first | rfl | assumption | (exact Hid.out (by assumption)) | (exact tokL_size _) | (rw [arr8_size]; first | rfl | assumption | (exact Hid.out (by assumption)) | exact tokL_size _ | exact List.length_replicate ..) | (simp [arr8_size]; done))) on1 gw ?_; clear S; intro w S) | ((with_reducible show wpList _ _ _ (⟨_, .load 25 _, _, _, _, _⟩ :: _) _ _); first | (refine step_load S 25 _ _ rfl _ _ _ pk _ Tryd.underlying25 rfl 32 (by kernel_rfl) (by first | rfl | (first | rfl | assumption | (exact Hid.out (by assumption)) | (exact tokL_size _) | (rw [arr8_size]; first | rfl | assumption | (exact Hid.out (by assumption)) | exact tokL_size _ | exact List.length_replicate ..) | (simp [arr8_size]; done))) gw ?_) | (refine step_loadO 25 _ _ rfl _ _ _ (S.old_heap (Hid.out (by assumption))) _ Tryd.underlying25 rfl 32 (by kernel_rfl) (by first | rfl | (first | rfl | assumption | (exact Hid.out (by assumption)) | (exact tokL_size _) | (rw [arr8_size]; first | rfl | assumption | (exact Hid.out (by assumption)) | exact tokL_size _ | exact List.length_replicate ..) | (simp [arr8_size]; done))) gw ?_) | (refine step_loadR 25 _ _ _ rfl _ (S.old_range hy) _ Tryd.underlying25 rfl 32 (by kernel_rfl) (by first | rfl | (first | rfl | assumption | (exact Hid.out (by assumption)) | (exact tokL_size _) | (rw [arr8_size]; first | rfl | assumption | (exact Hid.out (by assumption)) | exact tokL_size _ | exact List.length_replicate ..) | (simp [arr8_size]; done))) _ rfl gw ?_)) | ((with_reducible show wpList _ _ _ (⟨none, .store 25 (.tmp 62) (.tmp 61), _, _, _, _⟩ :: _) _ _); refine step_store S 25 (.tmp 62) (.tmp 61) _ _ rfl rfl _ _ pk 32 (by kernel_rfl) (by first | rfl | (first | rfl | assumption | (exact Hid.out (by assumption)) | (exact tokL_size _) | (rw [arr8_size]; first | rfl | assumption | (exact Hid.out (by assumption)) | exact tokL_size _ | exact List.length_replicate ..) | (simp [arr8_size]; done))) (by first | rfl | (first | rfl | assumption | (exact Hid.out (by assumption)) | (exact tokL_size _) | (rw [arr8_size]; first | rfl | assumption | (exact Hid.out (by assumption)) | exact tokL_size _ | exact List.length_replicate ..) | (simp [arr8_size]; done))) on1 gw ?_; clear S; intro w S) | ((with_reducible show wpList _ _ _ (⟨_, .load 5 _, _, _, _, _⟩ :: _) _ _); first | (refine step_load1 5 _ _ _ rfl (S.cell pk co) _ Tryd.underlying5 rfl gw ?_) | (refine step_load1 5 _ _ _ rfl (S.row_cell pk _ _ hyr) _ Tryd.underlying5 rfl gw ?_) | (refine step_load1 5 _ _ _ rfl (S.row_cellS pk _ _ hy) _ Tryd.underlying5 rfl gw ?_) | (refine step_load1 5 _ _ _ rfl (S.old_cell hy) _ Tryd.underlying5 rfl gw ?_)) | ((with_reducible show wpList _ _ _ (⟨none, .store 5 (.tmp 113) (.tmp 111), _, _, _, _⟩ :: _) _ _); first | (refine step_store1 S 5 (.tmp 113) (.tmp 111) _ _ (.int _ _) rfl rfl _ _ pk (by kernel_rfl) rfl rfl (by first | rfl | (first | rfl | assumption | (exact Hid.out (by assumption)) | (exact tokL_size _) | (rw [arr8_size]; first | rfl | assumption | (exact Hid.out (by assumption)) | exact tokL_size _ | exact List.length_replicate ..) | (simp [arr8_size]; done))) gw ?_; clear S; intro w S; try simp only [List.setIfInBounds_toArray, List.set_cons_zero, List.set_cons_succ] at S) | (refine step_storeR S 5 (.tmp 113) (.tmp 111) _ _ (.int _ _) rfl rfl _ _ _ _ pk (by (first | omega | assumption | (exact Hid.out (by assumption)) | (simp only [List.length_append, List.length_cons, List.length_nil]; omega))) (by kernel_rfl) rfl rfl gw ?_; clear S; intro w S) | (refine step_storeS S 5 (.tmp 113) (.tmp 111) _ _ (.int _ _) rfl rfl _ _ _ _ _ pk (by (first | omega | assumption | (exact Hid.out (by assumption)) | (simp only [List.length_append, List.length_cons, List.length_nil]; omega))) (by kernel_rfl) rfl rfl gw ?_; clear S; intro w S)) | fail)
  all_goals first
    | (go_ret; exact ⟨rfl, S.nil⟩)
    | (exfalso; have := HX.out; omega)

set_option maxRecDepth 100000 in
set_option maxHeartbeats 8000000 in
theorem signed_yes (v0 : Value) (key : List UInt8) (t : Tok) (bt : UInt8) (w0 : World) (h1 : Bs w0 v0 key) (hK : KT w0) (hP : PT w0) (hv : vkB key = true) :
    Calls Tryd.prog 6 #[v0, .agg (tokL t).toArray, .int .u8 (bt.toNat : Int)] w0 fun e w' => e = .returned (.bool true) ∧ Has w0 w' [] := by
  have S := Has.start w0
  have hbt := bt.toNat_lt
  obtain ⟨i, hi⟩ : ∃ i, i = bt.toNat / 8 := ⟨_, rfl⟩
  obtain ⟨j, hj8⟩ : ∃ j, j = bt.toNat % 8 := ⟨_, rfl⟩
  have hi32 : (i : Int) < 32 := by omega
  have hiq : (bt.toNat : Int) / 8 % 256 = (i : Int) := by omega
  have hjq : (bt.toNat : Int) % 8 = (j : Int) := by omega
  have hj9 : (j : Int) < 8 := by omega
  obtain ⟨T1, hT1⟩ : ∃ T1, T1 = sgT key t := ⟨_, rfl⟩
  obtain ⟨D, hD⟩ : ∃ D, D = tagD key (headT t) := ⟨_, rfl⟩
  have hdl : D.length = 32 := by rw [hD]; exact tagD_length _ _
  have hid : sgT key T1 = T1 := by rw [hT1]; rfl
  have hwith : T1 = t.with D hdl := by subst hD; exact hT1
  have e3 : tgD key (headT t) = D := by unfold tgD; rw [headT_length, snE_tgE key 14 (by decide), if_pos (show snE key = 0 from if_pos hv), hD]
  obtain ⟨x, hx⟩ : ∃ x, T1.tag[i]? = some x := ⟨_, List.getElem?_eq_getElem (by rw [T1.len]; omega)⟩
  obtain ⟨y, hy⟩ : ∃ y, y = x ^^^ ((1 : UInt8) <<< UInt8.ofNat j) := ⟨_, rfl⟩
  have hxy : bits .xor .u8 (x.toNat : Int) (2 ^ j % 256) = (y.toNat : Int) := by
    have e1 := xor8 x ((1 : UInt8) <<< UInt8.ofNat j)
    rw [shl1S j (by omega), ← hy] at e1
    have e2 : ∀ k : Fin 8, (2 : Int) ^ k.val % 256 = ((2 ^ k.val : Nat) : Int) := by decide
    have e3 := e2 ⟨j, by omega⟩
    simp only at e3
    rw [e3]
    exact e1
  have hyn : y ≠ x := by rw [hy]; exact bit_neS x _ (by rw [UInt8.toNat_ofNat']; omega)
  have hbad := setTag_bad key T1 i y x hid hx hyn
  have hset : (tokL T1).toArray.setIfInBounds (4 + i) (.int .u8 (y.toNat : Int)) = (tokL (T1.setTag i y)).toArray := tokL_set T1 i y
  have hcell := tokL_tag T1 i x hx
  have p1 := fun w hK hP => alive_s w hK hP
  have p2 := fun w h hk => sign_s v0 key t w h hk
  have p3 := fun w => enc_s t w
  have p4 := fun w h hk => genuine_s v0 key t w h hk
  have p5 := fun w h hk => genuine_s v0 key T1 w h hk
  have p6 := fun w h hk => genuine_s v0 key (T1.setTag i y) w h hk
  have p7 := fun v2 w h1 h2 h3 => tag_head key t v0 v2 w h1 h2 h3
  rw [show snE key = 0 from if_pos hv] at p2 p4 p5 p6 p7
  rw [show snT key t = sgT key t from if_pos hv, ← hT1] at p2
  rw [hv, Bool.true_and, ← hT1] at p4
  rw [hv, Bool.true_and, hid, decide_eq_true rfl] at p5
  rw [hv, Bool.true_and, hbad] at p6
  rw [e3] at p7
  have hst := tokL_store t D hdl
  rw [← hwith] at hst
  have hel := encT_length t
  have htk := encT_take t
  have eg := eqGuardT
  have hn1 := fun w => neqT T1 T1 w
  have hn2 := fun w => eqlT t T1 w
  simp only [decide_true, Bool.not_true] at hn1
  rw [show decide (t = T1) = decide (T1 = t) from by rw [Bool.eq_iff_iff]; simp only [decide_eq_true_eq]; exact ⟨Eq.symm, Eq.symm⟩] at hn2
  generalize decide (T1 = t) = B at p4 hn2
  generalize encT t = X at p3 hel htk
  generalize T1.setTag i y = T2 at p6 hset
  have hk : 1 ≤ key.length ∧ key.length ≤ 64 := of_decide_eq_true hv
  have n1 : ¬ (key.length : Int) < 1 := by omega
  have n2 : ¬ (64 : Int) < (key.length : Int) := by omega
  obtain ⟨a0, c0, rfl, k1, k2⟩ := Sl.shape h1
  unfold maxLen at k2
  clear hv hk hbt hi hj8 hT1 hD hid hwith e3 hx hy hyn hbad
  have H1 := Lib.hid h1; have HK := Lib.hid hK; have HP := Lib.hid hP; have P1 := Lib.hid p1; have P2 := Lib.hid p2; have P3 := Lib.hid p3; have P4 := Lib.hid p4; have P5 := Lib.hid p5; have P6 := Lib.hid p6; have P7 := Lib.hid p7; have HEL := Lib.hid hel; have HTK := Lib.hid htk; have HST := Lib.hid hst; have HDL := Lib.hid hdl; have HSET := Lib.hid hset; have HCELL := Lib.hid hcell; clear h1 hK hP p1 p2 p3 p4 p5 p6 p7 hel htk hst hdl hset hcell
  go_enter Tryd.func6, Tryd.ntmps6
  go_wp2_with (first | ((with_reducible show wpList _ _ _ (⟨none, .store 25 (.tmp 62) (.tmp 61), _, _, _, _⟩ :: _) _ _); refine step_storeP S 25 (.tmp 62) (.tmp 61) g15 4 (arr8 D) rfl rfl _ (tokL t).toArray pk 32 (by kernel_rfl) (by rw [arr8_size]; exact HDL.out) (by rw [tokL_size]; decide) (arr8_one _) (tokL T1).toArray HST.out rfl ?_; clear S; intro w S) | ((with_reducible show wpList _ _ _ (⟨none, .store 5 (.tmp 113) (.tmp 111), _, _, _, _⟩ :: _) _ _); refine step_store1 S 5 (.tmp 113) (.tmp 111) g8 (4 + i) (.int .u8 (y.toNat : Int)) rfl rfl _ (tokL T1).toArray pk (by kernel_rfl) rfl rfl (by rw [tokL_size]; omega) rfl ?_; clear S; intro w S; rw [HSET.out] at S) | ((with_reducible show wpList _ _ _ (⟨some 4, .box 27 (.tmp 1), _, _, _, _⟩ :: _) _ _); refine step_boxA (dst := some 4) S 27 (.tmp 1) _ rfl gw ?_; clear S; intro g4 w S) | (go_at_call 31; (with_reducible refine (P1.out _ (S.kt (Hid.out (by assumption))) (S.pt HP.out)).mono ?_); rintro e w1 ⟨rfl, T⟩; replace S := S.call T; clear T; (try simp only [List.nil_append, List.cons_append] at S)) | ((with_reducible show wpList _ _ _ (⟨_, .load 27 _, _, _, _, _⟩ :: _) _ _); first | (refine step_load S 27 _ _ rfl _ _ _ pk _ Tryd.underlying27 rfl 36 (by kernel_rfl) (by first | rfl | (first | rfl | assumption | (exact Hid.out (by assumption)) | (exact tokL_size _) | (rw [arr8_size]; first | rfl | assumption | (exact Hid.out (by assumption)) | exact tokL_size _ | exact List.length_replicate ..) | (simp [arr8_size]; done))) gw ?_) | (refine step_loadO 27 _ _ rfl _ _ _ (S.old_heap (Hid.out (by assumption))) _ Tryd.underlying27 rfl 36 (by kernel_rfl) (by first | rfl | (first | rfl | assumption | (exact Hid.out (by assumption)) | (exact tokL_size _) | (rw [arr8_size]; first | rfl | assumption | (exact Hid.out (by assumption)) | exact tokL_size _ | exact List.length_replicate ..) | (simp [arr8_size]; done))) gw ?_) | (refine step_loadR 27 _ _ _ rfl _ (S.old_range hy) _ Tryd.underlying27 rfl 36 (by kernel_rfl) (by first | rfl | (first | rfl | assumption | (exact Hid.out (by assumption)) | (exact tokL_size _) | (rw [arr8_size]; first | rfl | assumption | (exact Hid.out (by assumption)) | exact tokL_size _ | exact List.length_replicate ..) | (simp [arr8_size]; done))) _ rfl gw ?_)) | (go_at_call 20; (with_reducible refine (P2.out _ (S.oldB H1.out) (S.kt (Hid.out (by assumption)))).mono ?_); rintro e w1 ⟨rfl, T⟩; replace S := S.call T; clear T; (try simp only [List.nil_append, List.cons_append] at S)) | ((with_reducible show wpList _ _ _ (⟨some 8, .alloc 27, _, _, _, _⟩ :: _) _ _); refine step_alloc (dst := some 8) S 27 (.agg ((tokL tokZ).toArray)) ((tokL tokZ).toArray) (by kernel_rfl) rfl gw ?_; clear S; intro g8 w S) | ((with_reducible show wpList _ _ _ (⟨none, .store 27 (.tmp 8) (.tmp 23), _, _, _, _⟩ :: _) _ _); refine step_store S 27 (.tmp 8) (.tmp 23) _ _ rfl rfl _ _ pk 36 (by kernel_rfl) (by first | rfl | (first | rfl | assumption | (exact Hid.out (by assumption)) | (exact tokL_size _) | (rw [arr8_size]; first | rfl | assumption | (exact Hid.out (by assumption)) | exact tokL_size _ | exact List.length_replicate ..) | (simp [arr8_size]; done))) (by first | rfl | (first | rfl | assumption | (exact Hid.out (by assumption)) | (exact tokL_size _) | (rw [arr8_size]; first | rfl | assumption | (exact Hid.out (by assumption)) | exact tokL_size _ | exact List.length_replicate ..) | (simp [arr8_size]; done))) on1 gw ?_; clear S; intro w S) | (go_at_call 16; (with_reducible refine (P3.out _).mono ?_); rintro e w1 ⟨v10, rfl, T⟩; replace S := S.call T; clear T; (try simp only [List.nil_append, List.cons_append] at S); obtain ⟨a10, c10, hv10, hc10, hm10⟩ := Sl.shape (S.bs (v := v10) (xs := X) pk); rw [HEL.out] at hv10 hc10; subst hv10) | (go_at_call 22; (with_reducible refine (P4.out _ (S.oldB H1.out) (S.kt (Hid.out (by assumption)))).mono ?_); rintro e w1 ⟨rfl, T⟩; replace S := S.call T; clear T; (try simp only [List.nil_append, List.cons_append] at S)) | (go_at_call 22; (with_reducible refine (P5.out _ (S.oldB H1.out) (S.kt (Hid.out (by assumption)))).mono ?_); rintro e w1 ⟨rfl, T⟩; replace S := S.call T; clear T; (try simp only [List.nil_append, List.cons_append] at S)) | (go_at_call 22; (with_reducible refine (P6.out _ (S.oldB H1.out) (S.kt (Hid.out (by assumption)))).mono ?_); rintro e w1 ⟨rfl, T⟩; replace S := S.call T; clear T; (try simp only [List.nil_append, List.cons_append] at S)) | ((with_reducible show wpList _ _ _ (⟨_, .slice 22 _ _ _ _, _, _, _, _⟩ :: _) _ _); refine step_cutH 22 5 1 _ _ _ _ _ _ _ 14 rfl rfl (by first | rfl | omega) (by first | (first | omega | assumption | (exact Hid.out (by assumption)) | (simp only [List.length_append, List.length_cons, List.length_nil]; omega)) | decide) Tryd.underlying22 (by kernel_rfl) gw ?_) | (go_at_call 32; (with_reducible refine (P7.out _ _ (S.oldB H1.out) (by have := (S.bs (xs := X) pk).cutH 14 (by decide) HEL.out; rwa [HTK.out] at this) (S.kt (Hid.out (by assumption)))).mono ?_); rintro e w1 ⟨rfl, T⟩; replace S := S.call T; clear T; (try simp only [List.nil_append, List.cons_append] at S)) | ((with_reducible show wpList _ _ _ (⟨some 13, .alloc 25, _, _, _, _⟩ :: _) _ _); refine step_alloc (dst := some 13) S 25 (.agg (arr8 (List.replicate 32 0))) (arr8 (List.replicate 32 0)) (by kernel_rfl) rfl gw ?_; clear S; intro g13 w S) | ((with_reducible show wpList _ _ _ (⟨none, .store 25 (.tmp 13) (.tmp 58), _, _, _, _⟩ :: _) _ _); refine step_store S 25 (.tmp 13) (.tmp 58) _ _ rfl rfl _ _ pk 32 (by kernel_rfl) (by first | rfl | (first | rfl | assumption | (exact Hid.out (by assumption)) | (exact tokL_size _) | (rw [arr8_size]; first | rfl | assumption | (exact Hid.out (by assumption)) | exact tokL_size _ | exact List.length_replicate ..) | (simp [arr8_size]; done))) (by first | rfl | (first | rfl | assumption | (exact Hid.out (by assumption)) | (exact tokL_size _) | (rw [arr8_size]; first | rfl | assumption | (exact Hid.out (by assumption)) | exact tokL_size _ | exact List.length_replicate ..) | (simp [arr8_size]; done))) on1 gw ?_; clear S; intro w S) | ((with_reducible show wpList _ _ _ (⟨some 15, .alloc 27, _, _, _, _⟩ :: _) _ _); refine step_alloc (dst := some 15) S 27 (.agg ((tokL tokZ).toArray)) ((tokL tokZ).toArray) (by kernel_rfl) rfl gw ?_; clear S; intro g15 w S) | ((with_reducible show wpList _ _ _ (⟨none, .store 27 (.tmp 15) (.tmp 60), _, _, _, _⟩ :: _) _ _); refine step_store S 27 (.tmp 15) (.tmp 60) _ _ rfl rfl _ _ pk 36 (by kernel_rfl) (by first | rfl | (first | rfl | assumption | (exact Hid.out (by assumption)) | (exact tokL_size _) | (rw [arr8_size]; first | rfl | assumption | (exact Hid.out (by assumption)) | exact tokL_size _ | exact List.length_replicate ..) | (simp [arr8_size]; done))) (by first | rfl | (first | rfl | assumption | (exact Hid.out (by assumption)) | (exact tokL_size _) | (rw [arr8_size]; first | rfl | assumption | (exact Hid.out (by assumption)) | exact tokL_size _ | exact List.length_replicate ..) | (simp [arr8_size]; done))) on1 gw ?_; clear S; intro w S) | ((with_reducible show wpList _ _ _ (⟨_, .load 25 _, _, _, _, _⟩ :: _) _ _); first | (refine step_load S 25 _ _ rfl _ _ _ pk _ Tryd.underlying25 rfl 32 (by kernel_rfl) (by first | rfl | (first | rfl | assumption | (exact Hid.out (by assumption)) | (exact tokL_size _) | (rw [arr8_size]; first | rfl | assumption | (exact Hid.out (by assumption)) | exact tokL_size _ | exact List.length_replicate ..) | (simp [arr8_size]; done))) gw ?_) | (refine step_loadO 25 _ _ rfl _ _ _ (S.old_heap (Hid.out (by assumption))) _ Tryd.underlying25 rfl 32 (by kernel_rfl) (by first | rfl | (first | rfl | assumption | (exact Hid.out (by assumption)) | (exact tokL_size _) | (rw [arr8_size]; first | rfl | assumption | (exact Hid.out (by assumption)) | exact tokL_size _ | exact List.length_replicate ..) | (simp [arr8_size]; done))) gw ?_) | (refine step_loadR 25 _ _ _ rfl _ (S.old_range hy) _ Tryd.underlying25 rfl 32 (by kernel_rfl) (by first | rfl | (first | rfl | assumption | (exact Hid.out (by assumption)) | (exact tokL_size _) | (rw [arr8_size]; first | rfl | assumption | (exact Hid.out (by assumption)) | exact tokL_size _ | exact List.length_replicate ..) | (simp [arr8_size]; done))) _ rfl gw ?_)) | ((with_reducible show wpList _ _ _ (⟨none, .store 25 (.tmp 62) (.tmp 61), _, _, _, _⟩ :: _) _ _); refine step_store S 25 (.tmp 62) (.tmp 61) _ _ rfl rfl _ _ pk 32 (by kernel_rfl) (by first | rfl | (first | rfl | assumption | (exact Hid.out (by assumption)) | (exact tokL_size _) | (rw [arr8_size]; first | rfl | assumption | (exact Hid.out (by assumption)) | exact tokL_size _ | exact List.length_replicate ..) | (simp [arr8_size]; done))) (by first | rfl | (first | rfl | assumption | (exact Hid.out (by assumption)) | (exact tokL_size _) | (rw [arr8_size]; first | rfl | assumption | (exact Hid.out (by assumption)) | exact tokL_size _ | exact List.length_replicate ..) | (simp [arr8_size]; done))) on1 gw ?_; clear S; intro w S) | ((with_reducible show wpList _ _ _ (⟨_, .load 5 _, _, _, _, _⟩ :: _) _ _); first | (refine step_load1 5 _ _ _ rfl (S.cell pk co) _ Tryd.underlying5 rfl gw ?_) | (refine step_load1 5 _ _ _ rfl (S.row_cell pk _ _ hyr) _ Tryd.underlying5 rfl gw ?_) | (refine step_load1 5 _ _ _ rfl (S.row_cellS pk _ _ hy) _ Tryd.underlying5 rfl gw ?_) | (refine step_load1 5 _ _ _ rfl (S.old_cell hy) _ Tryd.underlying5 rfl gw ?_)) | ((with_reducible show wpList _ _ _ (⟨none, .store 5 (.tmp 113) (.tmp 111), _, _, _, _⟩ :: _) _ _); first | (refine step_store1 S 5 (.tmp 113) (.tmp 111) _ _ (.int _ _) rfl rfl _ _ pk (by kernel_rfl) rfl rfl (by first | rfl | (first | rfl | assumption | (exact Hid.out (by assumption)) | (exact tokL_size _) | (rw [arr8_size]; first | rfl | assumption | (exact Hid.out (by assumption)) | exact tokL_size _ | exact List.length_replicate ..) | (simp [arr8_size]; done))) gw ?_; clear S; intro w S; try simp only [List.setIfInBounds_toArray, List.set_cons_zero, List.set_cons_succ] at S) | (refine step_storeR S 5 (.tmp 113) (.tmp 111) _ _ (.int _ _) rfl rfl _ _ _ _ pk (by (first | omega | assumption | (exact Hid.out (by assumption)) | (simp only [List.length_append, List.length_cons, List.length_nil]; omega))) (by kernel_rfl) rfl rfl gw ?_; clear S; intro w S) | (refine step_storeS S 5 (.tmp 113) (.tmp 111) _ _ (.int _ _) rfl rfl _ _ _ _ _ pk (by (first | omega | assumption | (exact Hid.out (by assumption)) | (simp only [List.length_append, List.length_cons, List.length_nil]; omega))) (by kernel_rfl) rfl rfl gw ?_; clear S; intro w S)) | fail)
  all_goals (go_ret; exact ⟨rfl, S.nil⟩)

theorem authSigned_walk (v0 : Value) (key : List UInt8) (t : Tok) (bit : Nat) (w0 : World) (h1 : Bs w0 v0 key) (hK : KT w0) (hP : PT w0) (hb : bit < 256) :
    Calls Tryd.prog 6 #[v0, .agg (tokL t).toArray, .int .u8 (bit : Int)] w0 fun e w' => e = .returned (.bool true) ∧ Has w0 w' [] := by
  cases hv : vkB key with
  | false => exact signed_no v0 key t bit w0 h1 hK hP hv
  | true =>
    have e : (bit : Int) = ((UInt8.ofNat bit).toNat : Int) := by rw [UInt8.toNat_ofNat']; omega
    rw [e]
    exact signed_yes v0 key t _ w0 h1 hK hP hv
end Go.Proofs.YtioonimpobcglaaDoor
