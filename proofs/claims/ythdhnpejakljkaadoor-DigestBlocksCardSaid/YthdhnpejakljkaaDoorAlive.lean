/- The examples that every outright statement of layer 1 asks first: they hold; new memory alone. No condition but the table of constants. -/
import Derived.Test.YthdhnpejakljkaaDoorDigC
import Derived.Test.YthdhnpejakljkaaDoorVerify
set_option linter.unusedSimpArgs false
set_option linter.unusedVariables false
namespace Go.Proofs.YthdhnpejakljkaaDoor
open Go.RowKit

/-- A digest or tag as text, or no text with an error. -/
def hexT (b : List UInt8) (E : Int) : List UInt8 := if E = 0 then hexB b else []

set_option maxRecDepth 20000 in
set_option maxHeartbeats 1000000 in
theorem hexL_s (b : List UInt8) (E : Int) (w0 : World) (hb : b.length = 32) :
    Calls Tryd.prog 57 #[.agg (arr8 b), .int .i64 E] w0 fun e w' => e = .returned (.string (strB (hexT b E))) ∧ Has w0 w' [] := by
  have S := Has.start w0
  have hx : hexS b = hexB b := if_pos (by omega)
  have he : hexE b = 0 := if_pos (by omega)
  have hh := fun v w h => hex_s v b w h
  rw [hx, he] at hh
  obtain ⟨T, hT⟩ : ∃ T, T = hexB b := ⟨_, rfl⟩
  rw [← hT] at hh
  by_cases h0 : E = 0
  · subst h0
    have ht : hexT b 0 = T := by rw [hT]; exact if_pos rfl
    rw [ht]
    have HB := Lib.hid hb; have HH := Lib.hid hh; clear hb hh
    clear ht hx he hT
    go_enter Tryd.func57, Tryd.ntmps57
    go_wp2_with (first | ((with_reducible show wpList _ _ _ (⟨some 2, .box 40 (.tmp 0), _, _, _, _⟩ :: _) _ _); refine step_boxA (dst := some 2) S 40 (.tmp 0) _ rfl rfl ?_; clear S; intro g2 w S) | (go_at_call 40; (with_reducible refine (HH.out _ _ (S.bs_blkN (n := 32) (by (repeat (first | exact Pick.head _ _ | apply Pick.tail)); first | done | fail) HB.out (by decide))).mono ?_); rintro e w1 ⟨rfl, T⟩; replace S := S.call T; clear T; (try simp only [List.nil_append, List.cons_append] at S)) | fail)
    go_ret
    exact ⟨rfl, S.nil⟩
  · have ht : hexT b E = [] := if_neg h0
    rw [ht]
    have hn : (E != 0) = true := by simpa using h0
    have HB := Lib.hid hb; have HH := Lib.hid hh; clear hb hh
    clear ht hx he hT h0
    go_enter Tryd.func57, Tryd.ntmps57
    go_wp2_with (first | ((with_reducible show wpList _ _ _ (⟨some 2, .box 40 (.tmp 0), _, _, _, _⟩ :: _) _ _); refine step_boxA (dst := some 2) S 40 (.tmp 0) _ rfl rfl ?_; clear S; intro g2 w S) | (go_at_call 40; (with_reducible refine (HH.out _ _ (S.bs_blkN (n := 32) (by (repeat (first | exact Pick.head _ _ | apply Pick.tail)); first | done | fail) HB.out (by decide))).mono ?_); rintro e w1 ⟨rfl, T⟩; replace S := S.call T; clear T; (try simp only [List.nil_append, List.cons_append] at S)) | fail)
    go_ret
    exact ⟨rfl, S.nil⟩

def sumT (xs : List UInt8) : List UInt8 := hexT (smD xs) (smE xs.length)
def tagT (key xs : List UInt8) : List UInt8 := hexT (tgD key xs) (tgE key.length xs.length)

set_option maxRecDepth 20000 in
set_option maxHeartbeats 1000000 in
theorem sumL_s (xs : List UInt8) (s : ByteArray) (hs : s = strB xs) (w0 : World) (hl : xs.length ≤ 9223372036854775807) (hK : KT w0) :
    Calls Tryd.prog 35 #[.string s] w0 fun e w' => e = .returned (.string (strB (sumT xs))) ∧ Has w0 w' [] := by
  subst hs
  have S := Has.start w0
  unfold sumT
  have hc := fun v w h1 h2 => sum_s v xs w h1 h2
  have hx := fun w => hexL_s (smD xs) (smE xs.length) w (smD_length xs)
  have hdl := smD_length xs
  obtain ⟨T, hT⟩ : ∃ T, T = hexT (smD xs) (smE xs.length) := ⟨_, rfl⟩
  rw [← hT] at hx ⊢
  clear hT
  obtain ⟨D, hD⟩ : ∃ D, D = smD xs := ⟨_, rfl⟩
  obtain ⟨E, hE⟩ : ∃ E, E = smE xs.length := ⟨_, rfl⟩
  rw [← hD, ← hE] at hx hc
  rw [← hD] at hdl
  have hlm : xs.length ≤ maxLen := hl
  have HK := Lib.hid hK; have HC := Lib.hid hc; have HX := Lib.hid hx; have HDL := Lib.hid hdl; have HLM := Lib.hid hlm; clear hK hc hx hdl hlm
  clear hD hE
  go_enter Tryd.func35, Tryd.ntmps35
  go_wp2_with (first | ((with_reducible show wpList _ _ _ (⟨some 7, .convert 9 27 (.tmp 6), _, _, _, _⟩ :: _) _ _); refine step_s2b S 9 27 5 (.tmp 6) _ rfl (by (first | omega | assumption | (exact Hid.out (by assumption)) | (simp only [List.length_append, List.length_cons, List.length_nil]; omega))) Tryd.underlying9 Tryd.underlying27 Tryd.underlying5 rfl ?_; clear S; intro v7 w S) | (go_at_call 25; (with_reducible refine (HC.out _ _ (by first | assumption | exact S.oldB (Hid.out (by assumption)) | exact Bs.mk0 _ _ | exact S.bs (by (repeat (first | exact Pick.head _ _ | apply Pick.tail)); first | done | fail) | exact S.bsr (by (repeat (first | exact Pick.head _ _ | apply Pick.tail)); first | done | fail)) (S.kt (Hid.out (by assumption)))).mono ?_); rintro e w1 ⟨rfl, T⟩; replace S := S.call T; clear T; (try simp only [List.nil_append, List.cons_append] at S)) | ((with_reducible show wpList _ _ _ (⟨some 3, .alloc 40, _, _, _, _⟩ :: _) _ _); refine step_alloc (dst := some 3) S 40 (.agg (arr8 (List.replicate 32 0))) (arr8 (List.replicate 32 0)) (by kernel_rfl) rfl rfl ?_; clear S; intro g3 w S) | ((with_reducible show wpList _ _ _ (⟨none, .store 40 (.tmp 3) (.tmp 9), _, _, _, _⟩ :: _) _ _); refine step_store S 40 (.tmp 3) (.tmp 9) _ _ rfl rfl _ _ (by (repeat (first | exact Pick.head _ _ | apply Pick.tail)); first | done | fail) 32 (by kernel_rfl) (by first | rfl | (first | rfl | assumption | (exact Hid.out (by assumption)) | (rw [arr8_size]; first | rfl | assumption | (exact Hid.out (by assumption)) | exact smD_length _ | exact tgD_length _ _ | exact List.length_replicate ..) | (simp [arr8_size]; done))) (by first | rfl | (first | rfl | assumption | (exact Hid.out (by assumption)) | (rw [arr8_size]; first | rfl | assumption | (exact Hid.out (by assumption)) | exact smD_length _ | exact tgD_length _ _ | exact List.length_replicate ..) | (simp [arr8_size]; done))) (by (first | exact arr8_one _ | exact cellsH_one .. | rfl | (simp [U32_one, one_slice, one_int, one_bool]; done))) rfl ?_; clear S; intro w S) | ((with_reducible show wpList _ _ _ (⟨some 11, .load 40 (.tmp 3), _, _, _, _⟩ :: _) _ _); first | (refine step_load S 40 (.tmp 3) _ rfl _ _ _ (by (repeat (first | exact Pick.head _ _ | apply Pick.tail)); first | done | fail) _ Tryd.underlying40 rfl 32 (by kernel_rfl) (by first | rfl | (first | rfl | assumption | (exact Hid.out (by assumption)) | (rw [arr8_size]; first | rfl | assumption | (exact Hid.out (by assumption)) | exact smD_length _ | exact tgD_length _ _ | exact List.length_replicate ..) | (simp [arr8_size]; done))) rfl ?_) | (refine step_loadO 40 (.tmp 3) _ rfl _ _ _ (S.old_heap (Hid.out (by assumption))) _ Tryd.underlying40 rfl 32 (by kernel_rfl) (by first | rfl | (first | rfl | assumption | (exact Hid.out (by assumption)) | (rw [arr8_size]; first | rfl | assumption | (exact Hid.out (by assumption)) | exact smD_length _ | exact tgD_length _ _ | exact List.length_replicate ..) | (simp [arr8_size]; done))) rfl ?_)) | (go_at_call 57; (with_reducible refine (HX.out _).mono ?_); rintro e w1 ⟨rfl, T⟩; replace S := S.call T; clear T; (try simp only [List.nil_append, List.cons_append] at S)) | fail)
  go_ret
  exact ⟨rfl, S.nil⟩

set_option maxRecDepth 20000 in
set_option maxHeartbeats 1000000 in
theorem tagL_s (key xs : List UInt8) (s1 s2 : ByteArray) (hs1 : s1 = strB key) (hs2 : s2 = strB xs) (w0 : World) (hl1 : key.length ≤ 9223372036854775807) (hl : xs.length ≤ 140737488351232) (hK : KT w0) :
    Calls Tryd.prog 36 #[.string s1, .string s2] w0 fun e w' => e = .returned (.string (strB (tagT key xs))) ∧ Has w0 w' [] := by
  subst hs1; subst hs2
  have S := Has.start w0
  unfold tagT
  have hc := fun v1 v2 w h1 h2 h3 h4 => tag_s v1 v2 key xs w h1 h2 h3 h4
  have hx := fun w => hexL_s (tgD key xs) (tgE key.length xs.length) w (tgD_length key xs)
  have hdl := tgD_length key xs
  obtain ⟨T, hT⟩ : ∃ T, T = hexT (tgD key xs) (tgE key.length xs.length) := ⟨_, rfl⟩
  rw [← hT] at hx ⊢
  clear hT
  obtain ⟨D, hD⟩ : ∃ D, D = tgD key xs := ⟨_, rfl⟩
  obtain ⟨E, hE⟩ : ∃ E, E = tgE key.length xs.length := ⟨_, rfl⟩
  rw [← hD, ← hE] at hx hc
  rw [← hD] at hdl
  have hlm : xs.length ≤ maxLen := Nat.le_trans hl (by decide)
  have hlk : key.length ≤ maxLen := hl1
  have HK := Lib.hid hK; have HC := Lib.hid hc; have HX := Lib.hid hx; have HDL := Lib.hid hdl; have HLM := Lib.hid hlm; have HLK := Lib.hid hlk; have HL := Lib.hid hl; clear hK hc hx hdl hlm hlk hl
  clear hD hE
  go_enter Tryd.func36, Tryd.ntmps36
  go_wp2_with (first | ((with_reducible show wpList _ _ _ (⟨some 9, .convert 9 27 (.tmp 8), _, _, _, _⟩ :: _) _ _); refine step_s2b S 9 27 5 (.tmp 8) _ rfl (by (first | omega | assumption | (exact Hid.out (by assumption)) | (simp only [List.length_append, List.length_cons, List.length_nil]; omega))) Tryd.underlying9 Tryd.underlying27 Tryd.underlying5 rfl ?_; clear S; intro v9 w S) | ((with_reducible show wpList _ _ _ (⟨some 11, .convert 9 27 (.tmp 10), _, _, _, _⟩ :: _) _ _); refine step_s2b S 9 27 5 (.tmp 10) _ rfl (by (first | omega | assumption | (exact Hid.out (by assumption)) | (simp only [List.length_append, List.length_cons, List.length_nil]; omega))) Tryd.underlying9 Tryd.underlying27 Tryd.underlying5 rfl ?_; clear S; intro v11 w S) | (go_at_call 27; (with_reducible refine (HC.out _ _ _ (by first | assumption | exact S.oldB (Hid.out (by assumption)) | exact Bs.mk0 _ _ | exact S.bs (by (repeat (first | exact Pick.head _ _ | apply Pick.tail)); first | done | fail) | exact S.bsr (by (repeat (first | exact Pick.head _ _ | apply Pick.tail)); first | done | fail)) (by first | assumption | exact S.oldB (Hid.out (by assumption)) | exact Bs.mk0 _ _ | exact S.bs (by (repeat (first | exact Pick.head _ _ | apply Pick.tail)); first | done | fail) | exact S.bsr (by (repeat (first | exact Pick.head _ _ | apply Pick.tail)); first | done | fail)) (S.kt (Hid.out (by assumption))) HL.out).mono ?_); rintro e w1 ⟨rfl, T⟩; replace S := S.call T; clear T; (try simp only [List.nil_append, List.cons_append] at S)) | ((with_reducible show wpList _ _ _ (⟨some 5, .alloc 40, _, _, _, _⟩ :: _) _ _); refine step_alloc (dst := some 5) S 40 (.agg (arr8 (List.replicate 32 0))) (arr8 (List.replicate 32 0)) (by kernel_rfl) rfl rfl ?_; clear S; intro g5 w S) | ((with_reducible show wpList _ _ _ (⟨none, .store 40 (.tmp 5) (.tmp 13), _, _, _, _⟩ :: _) _ _); refine step_store S 40 (.tmp 5) (.tmp 13) _ _ rfl rfl _ _ (by (repeat (first | exact Pick.head _ _ | apply Pick.tail)); first | done | fail) 32 (by kernel_rfl) (by first | rfl | (first | rfl | assumption | (exact Hid.out (by assumption)) | (rw [arr8_size]; first | rfl | assumption | (exact Hid.out (by assumption)) | exact smD_length _ | exact tgD_length _ _ | exact List.length_replicate ..) | (simp [arr8_size]; done))) (by first | rfl | (first | rfl | assumption | (exact Hid.out (by assumption)) | (rw [arr8_size]; first | rfl | assumption | (exact Hid.out (by assumption)) | exact smD_length _ | exact tgD_length _ _ | exact List.length_replicate ..) | (simp [arr8_size]; done))) (by (first | exact arr8_one _ | exact cellsH_one .. | rfl | (simp [U32_one, one_slice, one_int, one_bool]; done))) rfl ?_; clear S; intro w S) | ((with_reducible show wpList _ _ _ (⟨some 15, .load 40 (.tmp 5), _, _, _, _⟩ :: _) _ _); first | (refine step_load S 40 (.tmp 5) _ rfl _ _ _ (by (repeat (first | exact Pick.head _ _ | apply Pick.tail)); first | done | fail) _ Tryd.underlying40 rfl 32 (by kernel_rfl) (by first | rfl | (first | rfl | assumption | (exact Hid.out (by assumption)) | (rw [arr8_size]; first | rfl | assumption | (exact Hid.out (by assumption)) | exact smD_length _ | exact tgD_length _ _ | exact List.length_replicate ..) | (simp [arr8_size]; done))) rfl ?_) | (refine step_loadO 40 (.tmp 5) _ rfl _ _ _ (S.old_heap (Hid.out (by assumption))) _ Tryd.underlying40 rfl 32 (by kernel_rfl) (by first | rfl | (first | rfl | assumption | (exact Hid.out (by assumption)) | (rw [arr8_size]; first | rfl | assumption | (exact Hid.out (by assumption)) | exact smD_length _ | exact tgD_length _ _ | exact List.length_replicate ..) | (simp [arr8_size]; done))) rfl ?_)) | (go_at_call 57; (with_reducible refine (HX.out _).mono ?_); rintro e w1 ⟨rfl, T⟩; replace S := S.call T; clear T; (try simp only [List.nil_append, List.cons_append] at S)) | fail)
  go_ret
  exact ⟨rfl, S.nil⟩

theorem put_ex (v : Value) (w : World) (h : Bs w v [7]) : Calls Tryd.prog 31 #[v, .int .u64 258, .int .i64 2] w (MadeE w [7, 1, 2] 0) := by
  have := putUint_s v [7] 258 258 2 rfl w h (by decide) (by decide) (by decide)
  rwa [show putR [7] 258 2 = [7, 1, 2] by decide, show putE ([7] : List UInt8).length 258 2 = 0 by decide] at this

theorem takeUint_ex (v : Value) (w : World) (h : Bs w v [7, 1, 2]) : Calls Tryd.prog 33 #[v, .int .i64 1, .int .i64 2] w fun e w' => e = .returned (.tuple #[.int .u64 258, .int .i64 3, .int .i64 0]) ∧ Has w w' [] := by
  have := takeUint_s v [7, 1, 2] 1 2 w h (by decide) (by decide) (by decide)
  rwa [show tuV [7, 1, 2] 1 2 = 258 by decide, show tuN ([7, 1, 2] : List UInt8).length 1 2 = 3 by decide, show tuE ([7, 1, 2] : List UInt8).length 1 2 = 0 by decide] at this

theorem takeBytes_ex (v : Value) (w : World) (h : Bs w v [7, 1, 2]) : Calls Tryd.prog 34 #[v, .int .i64 1, .int .i64 2] w (MadeNE w [1, 2] 3 0) := by
  have := takeBytes_s v [7, 1, 2] 1 2 w h (by decide) (by decide) (by decide)
  rwa [show takeR [7, 1, 2] 1 2 = [1, 2] by decide, show takeN ([7, 1, 2] : List UInt8).length 1 2 = 3 by decide, show takeE ([7, 1, 2] : List UInt8).length 1 2 = 0 by decide] at this

theorem parse_ex (w : World) : Calls Tryd.prog 38 #[.string { data := #[48, 48, 97, 102] }] w (MadeE w [0, 175] 0) := by
  have := parse_s { data := #[48, 48, 97, 102] } [48, 48, 97, 102] w rfl
  rwa [show parseR [48, 48, 97, 102] = [0, 175] by decide +kernel, show parseE [48, 48, 97, 102] = 0 by decide +kernel] at this

theorem sum_ex (w : World) (hK : KT w) : Calls Tryd.prog 35 #[.string { data := #[97, 98, 99] }] w fun e w' => e = .returned (.string { data := #[98, 97, 55, 56, 49, 54, 98, 102, 56, 102, 48, 49, 99, 102, 101, 97, 52, 49, 52, 49, 52, 48, 100, 101, 53, 100, 97, 101, 50, 50, 50, 51, 98, 48, 48, 51, 54, 49, 97, 51, 57, 54, 49, 55, 55, 97, 57, 99, 98, 52, 49, 48, 102, 102, 54, 49, 102, 50, 48, 48, 49, 53, 97, 100] }) ∧ Has w w' [] := by
  have := sumL_s [97, 98, 99] { data := #[97, 98, 99] } rfl w (by decide) hK
  rwa [show sumT [97, 98, 99] = [98, 97, 55, 56, 49, 54, 98, 102, 56, 102, 48, 49, 99, 102, 101, 97, 52, 49, 52, 49, 52, 48, 100, 101, 53, 100, 97, 101, 50, 50, 50, 51, 98, 48, 48, 51, 54, 49, 97, 51, 57, 54, 49, 55, 55, 97, 57, 99, 98, 52, 49, 48, 102, 102, 54, 49, 102, 50, 48, 48, 49, 53, 97, 100] by decide +kernel] at this

theorem tag_ex (w : World) (hK : KT w) : Calls Tryd.prog 36 #[.string { data := #[74, 101, 102, 101] }, .string { data := #[119, 104, 97, 116, 32, 100, 111, 32, 121, 97, 32, 119, 97, 110, 116, 32, 102, 111, 114, 32, 110, 111, 116, 104, 105, 110, 103, 63] }] w fun e w' => e = .returned (.string { data := #[53, 98, 100, 99, 99, 49, 52, 54, 98, 102, 54, 48, 55, 53, 52, 101, 54, 97, 48, 52, 50, 52, 50, 54, 48, 56, 57, 53, 55, 53, 99, 55, 53, 97, 48, 48, 51, 102, 48, 56, 57, 100, 50, 55, 51, 57, 56, 51, 57, 100, 101, 99, 53, 56, 98, 57, 54, 52, 101, 99, 51, 56, 52, 51] }) ∧ Has w w' [] := by
  have := tagL_s [74, 101, 102, 101] [119, 104, 97, 116, 32, 100, 111, 32, 121, 97, 32, 119, 97, 110, 116, 32, 102, 111, 114, 32, 110, 111, 116, 104, 105, 110, 103, 63] { data := #[74, 101, 102, 101] } { data := #[119, 104, 97, 116, 32, 100, 111, 32, 121, 97, 32, 119, 97, 110, 116, 32, 102, 111, 114, 32, 110, 111, 116, 104, 105, 110, 103, 63] } rfl rfl w (by decide) (by decide) hK
  rwa [show tagT [74, 101, 102, 101] [119, 104, 97, 116, 32, 100, 111, 32, 121, 97, 32, 119, 97, 110, 116, 32, 102, 111, 114, 32, 110, 111, 116, 104, 105, 110, 103, 63] = [53, 98, 100, 99, 99, 49, 52, 54, 98, 102, 54, 48, 55, 53, 52, 101, 54, 97, 48, 52, 50, 52, 50, 54, 48, 56, 57, 53, 55, 53, 99, 55, 53, 97, 48, 48, 51, 102, 48, 56, 57, 100, 50, 55, 51, 57, 56, 51, 57, 100, 101, 99, 53, 56, 98, 57, 54, 52, 101, 99, 51, 56, 52, 51] by decide +kernel] at this

set_option maxRecDepth 20000 in
set_option maxHeartbeats 2000000 in
theorem alive_s (w0 : World) (hK : KT w0) : Calls Tryd.prog 32 #[] w0 fun e w' => e = .returned (.bool true) ∧ Has w0 w' [] := by
  have S := Has.start w0
  have hs1 : strB [7, 1, 2] = { data := #[7, 1, 2] } := rfl
  have hs2 : strB [1, 2] = { data := #[1, 2] } := rfl
  have hs3 : strB [0, 175] = { data := #[0, 175] } := rfl
  have HK := Lib.hid hK; clear hK
  go_enter Tryd.func32, Tryd.ntmps32
  go_wp2_with (first | ((with_reducible show wpList _ _ _ (⟨some 12, .buildSlice 27 _ _, _, _, _, _⟩ :: _) _ _); refine step_build8 S 1 _ [7] (by first | rfl | kernel_rfl) rfl (by decide) rfl ?_; clear S; intro v12 w S) | (go_at_call 31; (with_reducible refine (put_ex _ _ (by first | assumption | exact S.oldB (Hid.out (by assumption)) | exact Bs.mk0 _ _ | exact S.bs (by (repeat (first | exact Pick.head _ _ | apply Pick.tail)); first | done | fail) | exact S.bsr (by (repeat (first | exact Pick.head _ _ | apply Pick.tail)); first | done | fail))).mono ?_); rintro e w1 ⟨v13, rfl, T⟩; replace S := S.call T; clear T; (try simp only [List.nil_append, List.cons_append] at S)) | ((with_reducible show wpList _ _ _ (⟨some 17, .buildSlice 27 _ _, _, _, _, _⟩ :: _) _ _); refine step_build8 S 3 _ [7, 1, 2] (by first | rfl | kernel_rfl) rfl (by decide) rfl ?_; clear S; intro v17 w S) | (go_at_call 33; (with_reducible refine (takeUint_ex _ _ (by first | assumption | exact S.oldB (Hid.out (by assumption)) | exact Bs.mk0 _ _ | exact S.bs (by (repeat (first | exact Pick.head _ _ | apply Pick.tail)); first | done | fail) | exact S.bsr (by (repeat (first | exact Pick.head _ _ | apply Pick.tail)); first | done | fail))).mono ?_); rintro e w1 ⟨rfl, T⟩; replace S := S.call T; clear T; (try simp only [List.nil_append, List.cons_append] at S)) | ((with_reducible show wpList _ _ _ (⟨some 23, .buildSlice 27 _ _, _, _, _, _⟩ :: _) _ _); refine step_build8 S 3 _ [7, 1, 2] (by first | rfl | kernel_rfl) rfl (by decide) rfl ?_; clear S; intro v23 w S) | (go_at_call 34; (with_reducible refine (takeBytes_ex _ _ (by first | assumption | exact S.oldB (Hid.out (by assumption)) | exact Bs.mk0 _ _ | exact S.bs (by (repeat (first | exact Pick.head _ _ | apply Pick.tail)); first | done | fail) | exact S.bsr (by (repeat (first | exact Pick.head _ _ | apply Pick.tail)); first | done | fail))).mono ?_); rintro e w1 ⟨v24, rfl, T⟩; replace S := S.call T; clear T; (try simp only [List.nil_append, List.cons_append] at S)) | (go_at_call 38; (with_reducible refine (parse_ex _).mono ?_); rintro e w1 ⟨v29, rfl, T⟩; replace S := S.call T; clear T; (try simp only [List.nil_append, List.cons_append] at S)) | ((with_reducible show wpList _ _ _ (⟨some 36, .convert 27 9 (.tmp 35), _, _, _, _⟩ :: _) _ _); refine step_conv 27 9 5 (.tmp 35) _ _ rfl Tryd.underlying27 Tryd.underlying5 Tryd.underlying9 (by first | assumption | exact S.oldB (Hid.out (by assumption)) | exact Bs.mk0 _ _ | exact S.bs (by (repeat (first | exact Pick.head _ _ | apply Pick.tail)); first | done | fail) | exact S.bsr (by (repeat (first | exact Pick.head _ _ | apply Pick.tail)); first | done | fail)) rfl ?_) | ((with_reducible show wpList _ _ _ (⟨some 57, .convert 27 9 (.tmp 56), _, _, _, _⟩ :: _) _ _); refine step_conv 27 9 5 (.tmp 56) _ _ rfl Tryd.underlying27 Tryd.underlying5 Tryd.underlying9 (by first | assumption | exact S.oldB (Hid.out (by assumption)) | exact Bs.mk0 _ _ | exact S.bs (by (repeat (first | exact Pick.head _ _ | apply Pick.tail)); first | done | fail) | exact S.bsr (by (repeat (first | exact Pick.head _ _ | apply Pick.tail)); first | done | fail)) rfl ?_) | ((with_reducible show wpList _ _ _ (⟨some 70, .convert 27 9 (.tmp 69), _, _, _, _⟩ :: _) _ _); refine step_conv 27 9 5 (.tmp 69) _ _ rfl Tryd.underlying27 Tryd.underlying5 Tryd.underlying9 (by first | assumption | exact S.oldB (Hid.out (by assumption)) | exact Bs.mk0 _ _ | exact S.bs (by (repeat (first | exact Pick.head _ _ | apply Pick.tail)); first | done | fail) | exact S.bsr (by (repeat (first | exact Pick.head _ _ | apply Pick.tail)); first | done | fail)) rfl ?_) | (go_at_call 35; (with_reducible refine (sum_ex _ (S.kt (Hid.out (by assumption)))).mono ?_); rintro e w1 ⟨rfl, T⟩; replace S := S.call T; clear T; (try simp only [List.nil_append, List.cons_append] at S)) | (go_at_call 36; (with_reducible refine (tag_ex _ (S.kt (Hid.out (by assumption)))).mono ?_); rintro e w1 ⟨rfl, T⟩; replace S := S.call T; clear T; (try simp only [List.nil_append, List.cons_append] at S)) | fail)
  go_ret
  exact ⟨rfl, S.nil⟩
end Go.Proofs.YthdhnpejakljkaaDoor
