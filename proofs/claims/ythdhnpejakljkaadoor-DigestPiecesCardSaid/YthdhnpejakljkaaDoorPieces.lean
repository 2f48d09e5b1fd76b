/- DigestPieces holds for every input: a hash does not depend on how bytes are cut. No condition but the table of constants and the reach. -/
import Derived.Test.YthdhnpejakljkaaDoorStS
import Derived.Test.YthdhnpejakljkaaDoorHash
import Derived.Test.YthdhnpejakljkaaDoorShaLaw
import Derived.Test.YthdhnpejakljkaaDoorAlive
set_option linter.unusedSimpArgs false
set_option linter.unusedVariables false
namespace Go.Proofs.YthdhnpejakljkaaDoor
open Go.RowKit

theorem start_s (w : World) : Calls Tryd.prog 17 #[] w fun e w' => e = .returned (.agg (cellsH startS (.slice none 0 0) 0)) ∧ Has w w' [] :=
  (start_any w).mono fun _ _ h => ⟨h.1, Has.of_below h.2⟩

/-- The first k pieces. -/
def catP (ps : List (Value × List UInt8)) (k : Nat) : List UInt8 := (ps.take k).flatMap (·.2)
theorem catP_succ (ps : List (Value × List UInt8)) (k : Nat) (p : Value × List UInt8) (h : ps[k]? = some p) : catP ps (k + 1) = catP ps k ++ p.2 := by
  obtain ⟨hk, rfl⟩ := List.getElem?_eq_some_iff.1 h
  unfold catP
  rw [List.take_succ_eq_append_getElem hk, List.flatMap_append]
  simp

theorem cellsH_8 (s : St) (t : Value) (n : Nat) : aggAt (.agg (cellsH s t n)) 8 = t := rfl

theorem write_go (xs bs : List UInt8) (t v : Value) (w : World) (h : xs.length + bs.length ≤ 8192) (ht : Bs w t (hT xs)) (hv : Bs w v bs) (hK : KT w) :
    Calls Tryd.prog 19 #[.agg (cellsH (hS xs) t xs.length), v] w (MadeH w (hS (xs ++ bs)) (hT (xs ++ bs)) (xs ++ bs).length 0) := by
  have := write_s (hS xs) t v (hT xs) bs xs.length w ht hv hK
  obtain ⟨e1, e2, e3, e4⟩ := write_hash xs bs h
  rwa [e1, e2, e3, e4] at this

theorem write_no (xs bs : List UInt8) (t v : Value) (w : World) (h1 : xs.length ≤ 8192) (h : 8192 < xs.length + bs.length) (ht : Bs w t (hT xs)) (hv : Bs w v bs) (hK : KT w) :
    Calls Tryd.prog 19 #[.agg (cellsH (hS xs) t xs.length), v] w (MadeH w (wS (hS xs) (hT xs) xs.length bs) (wT (hT xs) xs.length bs) (wN (hT xs).length xs.length bs.length) 4) := by
  have := write_s (hS xs) t v (hT xs) bs xs.length w ht hv hK
  rwa [write_many xs bs h1 h] at this

theorem hS_nil : hS [] = startS := rfl
theorem hT_nil : hT [] = [] := rfl

theorem finish_hash (xs : List UInt8) (t : Value) (w : World) (h : xs.length ≤ 8192) (ht : Bs w t (hT xs)) (hK : KT w) :
    Calls Tryd.prog 23 #[.agg (cellsH (hS xs) t xs.length)] w fun e w' => e = .returned (.tuple #[.agg (arr8 (sumD xs)), .int .i64 0]) ∧ Has w w' [] := by
  have := finish_s (hS xs) t (hT xs) xs.length w ht hK
  have hc : chkE (hT xs).length xs.length = 0 := if_pos (chk_hT xs h)
  rwa [fD_hash xs h, hc] at this

theorem check_hash (xs : List UInt8) (a : Option Addr) (c : Nat) (w : World) (h : xs.length ≤ 8192) :
    Calls Tryd.prog 21 #[.agg (cellsH (hS xs) (.slice a (hT xs).length c) xs.length)] w fun e w' => e = .returned (.int .i64 0) ∧ Has w w' [] := by
  have := check_s (hS xs) a (hT xs).length c xs.length w (by rw [hT_length]; omega)
  have hc : chkE (hT xs).length xs.length = 0 := if_pos (chk_hT xs h)
  rwa [hc] at this

theorem sum_in8 (xs : List UInt8) (v : Value) (w : World) (h : xs.length ≤ 8192) (hv : Bs w v xs) (hK : KT w) :
    Calls Tryd.prog 25 #[v] w fun e w' => e = .returned (.tuple #[.agg (arr8 (sumD xs)), .int .i64 0]) ∧ Has w w' [] := by
  have := sum_s v xs w hv hK
  rwa [smD_eq xs h, show smE xs.length = 0 from if_pos h] at this

theorem hT_cut (X : List UInt8) : ((X.drop (64 * (X.length / 64))).take (X.length - 64 * (X.length / 64))) = hT X := by
  unfold hT
  rw [List.take_of_length_le (by simp)]

theorem write_all (xs : List UInt8) (v : Value) (w : World) (h : xs.length ≤ 8192) (hv : Bs w v xs) (hK : KT w) :
    Calls Tryd.prog 19 #[.agg (cellsH startS (.slice none 0 0) 0), v] w (MadeH w (hS xs) (hT xs) xs.length 0) := by
  have := write_go [] xs (.slice none 0 0) v w (by simpa using h) (by rw [hT_nil]; exact Bs.mk0 _ _) hv hK
  simpa only [hS_nil, List.nil_append, List.length_nil] using this

set_option maxRecDepth 100000 in
set_option maxHeartbeats 4000000 in
theorem digestPieces_walk (v : Value) (ps : List (Value × List UInt8)) (w0 : World) (h1 : Sl w0 1 v ps.length (ps.map (·.1))) (h2 : ∀ z ∈ ps, Bs w0 z.1 z.2 ∧ z.2.length ≤ 140737488351232) (hK : KT w0) :
    Calls Tryd.prog 10 #[v] w0 fun e w' => e = .returned (.bool true) ∧ Has w0 w' [] := by
  have S := Has.start w0
  obtain ⟨a0, c0, rfl, k1, k2⟩ := Sl.shape h1
  unfold maxLen at k2
  have H1 := Lib.hid h1; have H2 := Lib.hid h2; have HK := Lib.hid hK; clear h1 h2 hK
  go_enter Tryd.func10, Tryd.ntmps10
  go_wp2_with (first | (go_at_call 32; (with_reducible refine (alive_s _ (S.kt (Hid.out (by assumption)))).mono ?_); rintro e w1 ⟨rfl, T⟩; replace S := S.call T; clear T; (try simp only [List.nil_append, List.cons_append] at S)) | (go_at_call 17; (with_reducible refine (start_s _).mono ?_); rintro e w1 ⟨rfl, T⟩; replace S := S.call T; clear T; (try simp only [List.nil_append, List.cons_append] at S)) | ((with_reducible show wpList _ _ _ (⟨some 4, .alloc 30, _, _, _, _⟩ :: _) _ _); refine step_alloc (dst := some 4) S 30 (.agg (cellsH stZ (.slice none 0 0) 0)) (cellsH stZ (.slice none 0 0) 0) (by kernel_rfl) rfl rfl ?_; clear S; intro g4 w S) | ((with_reducible show wpList _ _ _ (⟨none, .store 30 (.tmp 4) (.tmp 16), _, _, _, _⟩ :: _) _ _); refine step_store S 30 (.tmp 4) (.tmp 16) _ _ rfl rfl _ _ (by (repeat (first | exact Pick.head _ _ | apply Pick.tail)); first | done | fail) 10 (by kernel_rfl) (by first | rfl | (first | rfl | assumption | (exact Hid.out (by assumption)) | (rw [arr8_size]; first | rfl | assumption | (exact Hid.out (by assumption)) | exact fD_length _ _ _ | exact smD_length _ | exact sumD_length _ | exact List.length_replicate ..) | (simp [arr8_size]; done))) (by first | rfl | (first | rfl | assumption | (exact Hid.out (by assumption)) | (rw [arr8_size]; first | rfl | assumption | (exact Hid.out (by assumption)) | exact fD_length _ _ _ | exact smD_length _ | exact sumD_length _ | exact List.length_replicate ..) | (simp [arr8_size]; done))) (by (first | exact arr8_one _ | exact cellsH_one .. | rfl | (simp [U32_one, one_slice, one_int, one_bool]; done))) rfl ?_; clear S; intro w S) | ((with_reducible show wpList _ _ _ (⟨some 24, .load 30 (.tmp 4), _, _, _, _⟩ :: _) _ _); first | (refine step_load S 30 (.tmp 4) _ rfl _ _ _ (by (repeat (first | exact Pick.head _ _ | apply Pick.tail)); first | done | fail) _ Tryd.underlying30 rfl 10 (by kernel_rfl) (by first | rfl | (first | rfl | assumption | (exact Hid.out (by assumption)) | (rw [arr8_size]; first | rfl | assumption | (exact Hid.out (by assumption)) | exact fD_length _ _ _ | exact smD_length _ | exact sumD_length _ | exact List.length_replicate ..) | (simp [arr8_size]; done))) rfl ?_) | (refine step_loadO 30 (.tmp 4) _ rfl _ _ _ (S.old_heap (Hid.out (by assumption))) _ Tryd.underlying30 rfl 10 (by kernel_rfl) (by first | rfl | (first | rfl | assumption | (exact Hid.out (by assumption)) | (rw [arr8_size]; first | rfl | assumption | (exact Hid.out (by assumption)) | exact fD_length _ _ _ | exact smD_length _ | exact sumD_length _ | exact List.length_replicate ..) | (simp [arr8_size]; done))) rfl ?_)) | ((with_reducible show wpList _ _ _ (⟨some 28, .load 27 (.tmp 27), _, _, _, _⟩ :: _) _ _); first | (refine step_load1 27 (.tmp 27) _ _ rfl (S.cell (by (repeat (first | exact Pick.head _ _ | apply Pick.tail)); first | done | fail) (by (first | assumption | (exact Hid.out (by assumption)) | exact cellsH_t .. | exact cellsH_n .. | (simp only [List.setIfInBounds_toArray, List.set_cons_zero, List.set_cons_succ, List.getElem?_toArray, List.getElem?_cons_zero, List.getElem?_cons_succ]; rfl) | rfl))) _ Tryd.underlying27 rfl rfl ?_) | (refine step_load1 27 (.tmp 27) _ _ rfl (S.row_cell (by (repeat (first | exact Pick.head _ _ | apply Pick.tail)); first | done | fail) _ _ (by first | assumption | exact Hid.out (by assumption) | rfl)) _ Tryd.underlying27 rfl rfl ?_) | (refine step_load1 27 (.tmp 27) _ _ rfl (S.old_cell (by first | assumption | exact Hid.out (by assumption))) _ Tryd.underlying27 rfl rfl ?_)) | ((with_reducible show wpList _ _ _ (⟨some 7, .alloc 30, _, _, _, _⟩ :: _) _ _); refine step_alloc (dst := some 7) S 30 (.agg (cellsH stZ (.slice none 0 0) 0)) (cellsH stZ (.slice none 0 0) 0) (by kernel_rfl) rfl rfl ?_; clear S; intro g7 w S) | ((with_reducible show wpList _ _ _ (⟨none, .store 30 (.tmp 7) (.tmp 30), _, _, _, _⟩ :: _) _ _); refine step_store S 30 (.tmp 7) (.tmp 30) _ _ rfl rfl _ _ (by (repeat (first | exact Pick.head _ _ | apply Pick.tail)); first | done | fail) 10 (by kernel_rfl) (by first | rfl | (first | rfl | assumption | (exact Hid.out (by assumption)) | (rw [arr8_size]; first | rfl | assumption | (exact Hid.out (by assumption)) | exact fD_length _ _ _ | exact smD_length _ | exact sumD_length _ | exact List.length_replicate ..) | (simp [arr8_size]; done))) (by first | rfl | (first | rfl | assumption | (exact Hid.out (by assumption)) | (rw [arr8_size]; first | rfl | assumption | (exact Hid.out (by assumption)) | exact fD_length _ _ _ | exact smD_length _ | exact sumD_length _ | exact List.length_replicate ..) | (simp [arr8_size]; done))) (by (first | exact arr8_one _ | exact cellsH_one .. | rfl | (simp [U32_one, one_slice, one_int, one_bool]; done))) rfl ?_; clear S; intro w S) | ((with_reducible show wpList _ _ _ (⟨some 35, .load 27 (.tmp 34), _, _, _, _⟩ :: _) _ _); first | (refine step_load1 27 (.tmp 34) _ _ rfl (S.cell (by (repeat (first | exact Pick.head _ _ | apply Pick.tail)); first | done | fail) (by (first | assumption | (exact Hid.out (by assumption)) | exact cellsH_t .. | exact cellsH_n .. | (simp only [List.setIfInBounds_toArray, List.set_cons_zero, List.set_cons_succ, List.getElem?_toArray, List.getElem?_cons_zero, List.getElem?_cons_succ]; rfl) | rfl))) _ Tryd.underlying27 rfl rfl ?_) | (refine step_load1 27 (.tmp 34) _ _ rfl (S.row_cell (by (repeat (first | exact Pick.head _ _ | apply Pick.tail)); first | done | fail) _ _ (by first | assumption | exact Hid.out (by assumption) | rfl)) _ Tryd.underlying27 rfl rfl ?_) | (refine step_load1 27 (.tmp 34) _ _ rfl (S.old_cell (by first | assumption | exact Hid.out (by assumption))) _ Tryd.underlying27 rfl rfl ?_)) | ((with_reducible show wpList _ _ _ (⟨some 52, .load 27 (.tmp 51), _, _, _, _⟩ :: _) _ _); first | (refine step_load1 27 (.tmp 51) _ _ rfl (S.cell (by (repeat (first | exact Pick.head _ _ | apply Pick.tail)); first | done | fail) (by (first | assumption | (exact Hid.out (by assumption)) | exact cellsH_t .. | exact cellsH_n .. | (simp only [List.setIfInBounds_toArray, List.set_cons_zero, List.set_cons_succ, List.getElem?_toArray, List.getElem?_cons_zero, List.getElem?_cons_succ]; rfl) | rfl))) _ Tryd.underlying27 rfl rfl ?_) | (refine step_load1 27 (.tmp 51) _ _ rfl (S.row_cell (by (repeat (first | exact Pick.head _ _ | apply Pick.tail)); first | done | fail) _ _ (by first | assumption | exact Hid.out (by assumption) | rfl)) _ Tryd.underlying27 rfl rfl ?_) | (refine step_load1 27 (.tmp 51) _ _ rfl (S.old_cell (by first | assumption | exact Hid.out (by assumption))) _ Tryd.underlying27 rfl rfl ?_)) | (at_builtin; refine step_append8 S (.tmp 48) (.tmp 52) _ _ rfl (by (repeat (first | exact Pick.head _ _ | apply Pick.tail)); first | done | fail) _ _ rfl (by first | assumption | exact S.oldB (Hid.out (by assumption)) | exact Bs.mk0 _ _ | exact S.bs (by (repeat (first | exact Pick.head _ _ | apply Pick.tail)); first | done | fail) | exact S.bsr (by (repeat (first | exact Pick.head _ _ | apply Pick.tail)); first | done | fail)) (by (first | omega | assumption | (exact Hid.out (by assumption)) | (simp only [List.length_append, List.length_cons, List.length_nil]; omega))) rfl ?_; clear S; intro v53 w S; (try simp only [List.nil_append] at S)) | ((with_reducible show wpList _ _ _ (⟨some 54, .load 30 (.tmp 7), _, _, _, _⟩ :: _) _ _); first | (refine step_load S 30 (.tmp 7) _ rfl _ _ _ (by (repeat (first | exact Pick.head _ _ | apply Pick.tail)); first | done | fail) _ Tryd.underlying30 rfl 10 (by kernel_rfl) (by first | rfl | (first | rfl | assumption | (exact Hid.out (by assumption)) | (rw [arr8_size]; first | rfl | assumption | (exact Hid.out (by assumption)) | exact fD_length _ _ _ | exact smD_length _ | exact sumD_length _ | exact List.length_replicate ..) | (simp [arr8_size]; done))) rfl ?_) | (refine step_loadO 30 (.tmp 7) _ rfl _ _ _ (S.old_heap (Hid.out (by assumption))) _ Tryd.underlying30 rfl 10 (by kernel_rfl) (by first | rfl | (first | rfl | assumption | (exact Hid.out (by assumption)) | (rw [arr8_size]; first | rfl | assumption | (exact Hid.out (by assumption)) | exact fD_length _ _ _ | exact smD_length _ | exact sumD_length _ | exact List.length_replicate ..) | (simp [arr8_size]; done))) rfl ?_)) | ((with_reducible show wpList _ _ _ (⟨none, .store 30 (.tmp 4) (.tmp 54), _, _, _, _⟩ :: _) _ _); refine step_store S 30 (.tmp 4) (.tmp 54) _ _ rfl rfl _ _ (by (repeat (first | exact Pick.head _ _ | apply Pick.tail)); first | done | fail) 10 (by kernel_rfl) (by first | rfl | (first | rfl | assumption | (exact Hid.out (by assumption)) | (rw [arr8_size]; first | rfl | assumption | (exact Hid.out (by assumption)) | exact fD_length _ _ _ | exact smD_length _ | exact sumD_length _ | exact List.length_replicate ..) | (simp [arr8_size]; done))) (by first | rfl | (first | rfl | assumption | (exact Hid.out (by assumption)) | (rw [arr8_size]; first | rfl | assumption | (exact Hid.out (by assumption)) | exact fD_length _ _ _ | exact smD_length _ | exact sumD_length _ | exact List.length_replicate ..) | (simp [arr8_size]; done))) (by (first | exact arr8_one _ | exact cellsH_one .. | rfl | (simp [U32_one, one_slice, one_int, one_bool]; done))) rfl ?_; clear S; intro w S) | ((with_reducible show wpList _ _ _ (⟨some 55, .load 30 (.tmp 4), _, _, _, _⟩ :: _) _ _); first | (refine step_load S 30 (.tmp 4) _ rfl _ _ _ (by (repeat (first | exact Pick.head _ _ | apply Pick.tail)); first | done | fail) _ Tryd.underlying30 rfl 10 (by kernel_rfl) (by first | rfl | (first | rfl | assumption | (exact Hid.out (by assumption)) | (rw [arr8_size]; first | rfl | assumption | (exact Hid.out (by assumption)) | exact fD_length _ _ _ | exact smD_length _ | exact sumD_length _ | exact List.length_replicate ..) | (simp [arr8_size]; done))) rfl ?_) | (refine step_loadO 30 (.tmp 4) _ rfl _ _ _ (S.old_heap (Hid.out (by assumption))) _ Tryd.underlying30 rfl 10 (by kernel_rfl) (by first | rfl | (first | rfl | assumption | (exact Hid.out (by assumption)) | (rw [arr8_size]; first | rfl | assumption | (exact Hid.out (by assumption)) | exact fD_length _ _ _ | exact smD_length _ | exact sumD_length _ | exact List.length_replicate ..) | (simp [arr8_size]; done))) rfl ?_)) | ((with_reducible show wpList _ _ _ (⟨some 60, .load 28 (.tmp 59), _, _, _, _⟩ :: _) _ _); first | (refine step_load1 28 (.tmp 59) _ _ rfl (S.cell (by (repeat (first | exact Pick.head _ _ | apply Pick.tail)); first | done | fail) (by (first | assumption | (exact Hid.out (by assumption)) | exact cellsH_t .. | exact cellsH_n .. | (simp only [List.setIfInBounds_toArray, List.set_cons_zero, List.set_cons_succ, List.getElem?_toArray, List.getElem?_cons_zero, List.getElem?_cons_succ]; rfl) | rfl))) _ Tryd.underlying28 rfl rfl ?_) | (refine step_load1 28 (.tmp 59) _ _ rfl (S.row_cell (by (repeat (first | exact Pick.head _ _ | apply Pick.tail)); first | done | fail) _ _ (by first | assumption | exact Hid.out (by assumption) | rfl)) _ Tryd.underlying28 rfl rfl ?_) | (refine step_load1 28 (.tmp 59) _ _ rfl (S.old_cell (by first | assumption | exact Hid.out (by assumption))) _ Tryd.underlying28 rfl rfl ?_)) | ((with_reducible show wpList _ _ _ (⟨some 68, .load 27 (.tmp 67), _, _, _, _⟩ :: _) _ _); first | (refine step_load1 27 (.tmp 67) _ _ rfl (S.cell (by (repeat (first | exact Pick.head _ _ | apply Pick.tail)); first | done | fail) (by (first | assumption | (exact Hid.out (by assumption)) | exact cellsH_t .. | exact cellsH_n .. | (simp only [List.setIfInBounds_toArray, List.set_cons_zero, List.set_cons_succ, List.getElem?_toArray, List.getElem?_cons_zero, List.getElem?_cons_succ]; rfl) | rfl))) _ Tryd.underlying27 rfl rfl ?_) | (refine step_load1 27 (.tmp 67) _ _ rfl (S.row_cell (by (repeat (first | exact Pick.head _ _ | apply Pick.tail)); first | done | fail) _ _ (by first | assumption | exact Hid.out (by assumption) | rfl)) _ Tryd.underlying27 rfl rfl ?_) | (refine step_load1 27 (.tmp 67) _ _ rfl (S.old_cell (by first | assumption | exact Hid.out (by assumption))) _ Tryd.underlying27 rfl rfl ?_)) | ((with_reducible show wpList _ _ _ (⟨some 69, .convert 27 9 (.tmp 68), _, _, _, _⟩ :: _) _ _); refine step_conv 27 9 5 (.tmp 68) _ _ rfl Tryd.underlying27 Tryd.underlying5 Tryd.underlying9 (by first | assumption | exact S.oldB (Hid.out (by assumption)) | exact Bs.mk0 _ _ | exact S.bs (by (repeat (first | exact Pick.head _ _ | apply Pick.tail)); first | done | fail) | exact S.bsr (by (repeat (first | exact Pick.head _ _ | apply Pick.tail)); first | done | fail)) rfl ?_) | ((with_reducible show wpList _ _ _ (⟨some 76, .convert 27 9 (.tmp 75), _, _, _, _⟩ :: _) _ _); refine step_conv 27 9 5 (.tmp 75) _ _ rfl Tryd.underlying27 Tryd.underlying5 Tryd.underlying9 (by first | assumption | exact S.oldB (Hid.out (by assumption)) | exact Bs.mk0 _ _ | exact S.bs (by (repeat (first | exact Pick.head _ _ | apply Pick.tail)); first | done | fail) | exact S.bsr (by (repeat (first | exact Pick.head _ _ | apply Pick.tail)); first | done | fail)) rfl ?_) | ((with_reducible show wpList _ _ _ (⟨some 9, .alloc 30, _, _, _, _⟩ :: _) _ _); refine step_alloc (dst := some 9) S 30 (.agg (cellsH stZ (.slice none 0 0) 0)) (cellsH stZ (.slice none 0 0) 0) (by kernel_rfl) rfl rfl ?_; clear S; intro g9 w S) | ((with_reducible show wpList _ _ _ (⟨none, .store 30 (.tmp 9) (.tmp 83), _, _, _, _⟩ :: _) _ _); refine step_store S 30 (.tmp 9) (.tmp 83) _ _ rfl rfl _ _ (by (repeat (first | exact Pick.head _ _ | apply Pick.tail)); first | done | fail) 10 (by kernel_rfl) (by first | rfl | (first | rfl | assumption | (exact Hid.out (by assumption)) | (rw [arr8_size]; first | rfl | assumption | (exact Hid.out (by assumption)) | exact fD_length _ _ _ | exact smD_length _ | exact sumD_length _ | exact List.length_replicate ..) | (simp [arr8_size]; done))) (by first | rfl | (first | rfl | assumption | (exact Hid.out (by assumption)) | (rw [arr8_size]; first | rfl | assumption | (exact Hid.out (by assumption)) | exact fD_length _ _ _ | exact smD_length _ | exact sumD_length _ | exact List.length_replicate ..) | (simp [arr8_size]; done))) (by (first | exact arr8_one _ | exact cellsH_one .. | rfl | (simp [U32_one, one_slice, one_int, one_bool]; done))) rfl ?_; clear S; intro w S) | ((with_reducible show wpList _ _ _ (⟨some 86, .load 30 (.tmp 4), _, _, _, _⟩ :: _) _ _); first | (refine step_load S 30 (.tmp 4) _ rfl _ _ _ (by (repeat (first | exact Pick.head _ _ | apply Pick.tail)); first | done | fail) _ Tryd.underlying30 rfl 10 (by kernel_rfl) (by first | rfl | (first | rfl | assumption | (exact Hid.out (by assumption)) | (rw [arr8_size]; first | rfl | assumption | (exact Hid.out (by assumption)) | exact fD_length _ _ _ | exact smD_length _ | exact sumD_length _ | exact List.length_replicate ..) | (simp [arr8_size]; done))) rfl ?_) | (refine step_loadO 30 (.tmp 4) _ rfl _ _ _ (S.old_heap (Hid.out (by assumption))) _ Tryd.underlying30 rfl 10 (by kernel_rfl) (by first | rfl | (first | rfl | assumption | (exact Hid.out (by assumption)) | (rw [arr8_size]; first | rfl | assumption | (exact Hid.out (by assumption)) | exact fD_length _ _ _ | exact smD_length _ | exact sumD_length _ | exact List.length_replicate ..) | (simp [arr8_size]; done))) rfl ?_)) | ((with_reducible show wpList _ _ _ (⟨some 11, .alloc 40, _, _, _, _⟩ :: _) _ _); refine step_alloc (dst := some 11) S 40 (.agg (arr8 (List.replicate 32 0))) (arr8 (List.replicate 32 0)) (by kernel_rfl) rfl rfl ?_; clear S; intro g11 w S) | ((with_reducible show wpList _ _ _ (⟨none, .store 40 (.tmp 11) (.tmp 88), _, _, _, _⟩ :: _) _ _); refine step_store S 40 (.tmp 11) (.tmp 88) _ _ rfl rfl _ _ (by (repeat (first | exact Pick.head _ _ | apply Pick.tail)); first | done | fail) 32 (by kernel_rfl) (by first | rfl | (first | rfl | assumption | (exact Hid.out (by assumption)) | (rw [arr8_size]; first | rfl | assumption | (exact Hid.out (by assumption)) | exact fD_length _ _ _ | exact smD_length _ | exact sumD_length _ | exact List.length_replicate ..) | (simp [arr8_size]; done))) (by first | rfl | (first | rfl | assumption | (exact Hid.out (by assumption)) | (rw [arr8_size]; first | rfl | assumption | (exact Hid.out (by assumption)) | exact fD_length _ _ _ | exact smD_length _ | exact sumD_length _ | exact List.length_replicate ..) | (simp [arr8_size]; done))) (by (first | exact arr8_one _ | exact cellsH_one .. | rfl | (simp [U32_one, one_slice, one_int, one_bool]; done))) rfl ?_; clear S; intro w S) | (go_at_call 25; (with_reducible refine (sum_s _ _ _ (by first | assumption | exact S.oldB (Hid.out (by assumption)) | exact Bs.mk0 _ _ | exact S.bs (by (repeat (first | exact Pick.head _ _ | apply Pick.tail)); first | done | fail) | exact S.bsr (by (repeat (first | exact Pick.head _ _ | apply Pick.tail)); first | done | fail)) (S.kt (Hid.out (by assumption)))).mono ?_); rintro e w1 ⟨rfl, T⟩; replace S := S.call T; clear T; (try simp only [List.nil_append, List.cons_append] at S)) | ((with_reducible show wpList _ _ _ (⟨some 13, .alloc 40, _, _, _, _⟩ :: _) _ _); refine step_alloc (dst := some 13) S 40 (.agg (arr8 (List.replicate 32 0))) (arr8 (List.replicate 32 0)) (by kernel_rfl) rfl rfl ?_; clear S; intro g13 w S) | ((with_reducible show wpList _ _ _ (⟨none, .store 40 (.tmp 13) (.tmp 93), _, _, _, _⟩ :: _) _ _); refine step_store S 40 (.tmp 13) (.tmp 93) _ _ rfl rfl _ _ (by (repeat (first | exact Pick.head _ _ | apply Pick.tail)); first | done | fail) 32 (by kernel_rfl) (by first | rfl | (first | rfl | assumption | (exact Hid.out (by assumption)) | (rw [arr8_size]; first | rfl | assumption | (exact Hid.out (by assumption)) | exact fD_length _ _ _ | exact smD_length _ | exact sumD_length _ | exact List.length_replicate ..) | (simp [arr8_size]; done))) (by first | rfl | (first | rfl | assumption | (exact Hid.out (by assumption)) | (rw [arr8_size]; first | rfl | assumption | (exact Hid.out (by assumption)) | exact fD_length _ _ _ | exact smD_length _ | exact sumD_length _ | exact List.length_replicate ..) | (simp [arr8_size]; done))) (by (first | exact arr8_one _ | exact cellsH_one .. | rfl | (simp [U32_one, one_slice, one_int, one_bool]; done))) rfl ?_; clear S; intro w S) | ((with_reducible show wpList _ _ _ (⟨some 102, .load 23 (.tmp 101), _, _, _, _⟩ :: _) _ _); refine step_loadP S 23 (.tmp 101) _ _ rfl _ _ _ (by (repeat (first | exact Pick.head _ _ | apply Pick.tail)); first | done | fail) 8 _ (by (first | exact cellsH_st .. | assumption | rfl)) (by first | rfl | (first | rfl | assumption | (exact Hid.out (by assumption)) | (rw [arr8_size]; first | rfl | assumption | (exact Hid.out (by assumption)) | exact fD_length _ _ _ | exact smD_length _ | exact sumD_length _ | exact List.length_replicate ..) | (simp [arr8_size]; done))) _ Tryd.underlying23 rfl (by kernel_rfl) rfl ?_) | ((with_reducible show wpList _ _ _ (⟨some 104, .load 23 (.tmp 103), _, _, _, _⟩ :: _) _ _); refine step_loadP S 23 (.tmp 103) _ _ rfl _ _ _ (by (repeat (first | exact Pick.head _ _ | apply Pick.tail)); first | done | fail) 8 _ (by (first | exact cellsH_st .. | assumption | rfl)) (by first | rfl | (first | rfl | assumption | (exact Hid.out (by assumption)) | (rw [arr8_size]; first | rfl | assumption | (exact Hid.out (by assumption)) | exact fD_length _ _ _ | exact smD_length _ | exact sumD_length _ | exact List.length_replicate ..) | (simp [arr8_size]; done))) _ Tryd.underlying23 rfl (by kernel_rfl) rfl ?_) | ((with_reducible show wpList _ _ _ (⟨some 116, .load 40 (.tmp 11), _, _, _, _⟩ :: _) _ _); first | (refine step_load S 40 (.tmp 11) _ rfl _ _ _ (by (repeat (first | exact Pick.head _ _ | apply Pick.tail)); first | done | fail) _ Tryd.underlying40 rfl 32 (by kernel_rfl) (by first | rfl | (first | rfl | assumption | (exact Hid.out (by assumption)) | (rw [arr8_size]; first | rfl | assumption | (exact Hid.out (by assumption)) | exact fD_length _ _ _ | exact smD_length _ | exact sumD_length _ | exact List.length_replicate ..) | (simp [arr8_size]; done))) rfl ?_) | (refine step_loadO 40 (.tmp 11) _ rfl _ _ _ (S.old_heap (Hid.out (by assumption))) _ Tryd.underlying40 rfl 32 (by kernel_rfl) (by first | rfl | (first | rfl | assumption | (exact Hid.out (by assumption)) | (rw [arr8_size]; first | rfl | assumption | (exact Hid.out (by assumption)) | exact fD_length _ _ _ | exact smD_length _ | exact sumD_length _ | exact List.length_replicate ..) | (simp [arr8_size]; done))) rfl ?_)) | ((with_reducible show wpList _ _ _ (⟨some 117, .load 40 (.tmp 13), _, _, _, _⟩ :: _) _ _); first | (refine step_load S 40 (.tmp 13) _ rfl _ _ _ (by (repeat (first | exact Pick.head _ _ | apply Pick.tail)); first | done | fail) _ Tryd.underlying40 rfl 32 (by kernel_rfl) (by first | rfl | (first | rfl | assumption | (exact Hid.out (by assumption)) | (rw [arr8_size]; first | rfl | assumption | (exact Hid.out (by assumption)) | exact fD_length _ _ _ | exact smD_length _ | exact sumD_length _ | exact List.length_replicate ..) | (simp [arr8_size]; done))) rfl ?_) | (refine step_loadO 40 (.tmp 13) _ rfl _ _ _ (S.old_heap (Hid.out (by assumption))) _ Tryd.underlying40 rfl 32 (by kernel_rfl) (by first | rfl | (first | rfl | assumption | (exact Hid.out (by assumption)) | (rw [arr8_size]; first | rfl | assumption | (exact Hid.out (by assumption)) | exact fD_length _ _ _ | exact smD_length _ | exact sumD_length _ | exact List.length_replicate ..) | (simp [arr8_size]; done))) rfl ?_)) | fail)
  have S := (S.nil_row 5 1).nil_row 5 1
  go_loopw [5, 6] (fun v5 t wr => ∃ (k : Nat) (tv : Value), k ≤ ps.length ∧ t = .int .i64 (k : Int) ∧ (catP ps k).length ≤ 8192 ∧ Has w0 wr [row8 v5 (catP ps k), row8 tv (hT (catP ps k)), blk g4 (.cells (cellsH (hS (catP ps k)) tv (catP ps k).length) 30 (0, 0))]) (fun _ t _ => ps.length - (intOf t).toNat)
  case atStart => exact ⟨0, .slice none 0 0, Nat.zero_le _, rfl, Nat.zero_le _, by rw [show catP ps 0 = [] from rfl, hT_nil, hS_nil]; exact S⟩
  case round =>
    obtain ⟨k, tv, hk, rfl, hX8, S⟩ := hrel
    by_cases hlt : k < ps.length
    · have hp : ps[k]? = some ps[k] := List.getElem?_eq_getElem hlt
      have hmem := H2.out ps[k] (List.getElem_mem hlt)
      have hsucc := catP_succ ps k _ hp
      obtain ⟨b, off, rfl, hcell⟩ := H1.out.atA (by omega)
      have hck := hcell k ps[k].1 (by simp [hp])
      obtain ⟨p, hpe⟩ : ∃ p, p = ps[k] := ⟨_, rfl⟩
      rw [← hpe] at hmem hsucc hck
      obtain ⟨pv, bs⟩ := p
      dsimp only at hsucc hck hmem
      obtain ⟨hbs, hbl⟩ := hmem
      obtain ⟨pa, pc, rfl, q1, q2⟩ := Sl.shape hbs
      unfold maxLen at q2
      obtain ⟨X, hX⟩ : ∃ X, X = catP ps k := ⟨_, rfl⟩
      rw [← hX] at S hsucc hX8
      have hki : (k : Int) < ps.length := by omega
      obtain ⟨s, hs⟩ : ∃ s, s = hS X := ⟨_, rfl⟩
      obtain ⟨ts, hts⟩ : ∃ s, s = hT X := ⟨_, rfl⟩
      rw [← hs, ← hts] at S
      by_cases hmany : 8192 < X.length + bs.length
      · have hw := fun t w h1 h2 => write_no X bs t (.slice pa bs.length pc) w hX8 hmany h1 h2
        rw [← hs, ← hts] at hw
        obtain ⟨s', hs'⟩ : ∃ s', s' = wS s ts X.length bs := ⟨_, rfl⟩
        obtain ⟨t', ht'⟩ : ∃ s', s' = wT ts X.length bs := ⟨_, rfl⟩
        obtain ⟨n', hn'⟩ : ∃ s', s' = wN ts.length X.length bs.length := ⟨_, rfl⟩
        rw [← hs', ← ht', ← hn'] at hw
        have hm1 : 8192 - (X.length : Int) < bs.length := by omega
        obtain ⟨a5, c5, hv5, _, _⟩ := Sl.shape (S.bs (by (repeat (first | exact Pick.head _ _ | apply Pick.tail)); first | done | fail))
        subst hv5
        have HW := Lib.hid hw; have HCK := Lib.hid hck; have HBS := Lib.hid hbs; clear hw hck hbs
        clear hs hts hX hsucc hp hpe hs' ht' hn' hcell
        go_wp2_with fail
        refine wp_rely S [⟨[], [], [], fun _ v => v = .agg (cellsH s tv X.length), fun _ v => []⟩, ⟨[], [], [], fun _ v => v = (.slice (some ⟨b, off, none⟩) ps.length c0), fun _ v => []⟩, ⟨[], [], [], fun _ v => v = (.int .i64 (k : Int)), fun _ v => []⟩, ⟨[1, 2], [], [], fun _ v => v = .pointer (some ⟨b, off + k, none⟩), fun _ v => []⟩, ⟨[1, 2, 3], [], [], fun _ v => v = .slice pa bs.length pc, fun _ v => []⟩, ⟨[0, 1, 2, 3, 4], [], [], fun _ v => ∃ a c, v = .tuple #[.agg (cellsH s' (.slice a t'.length c) n'), .int .i64 4], fun _ v => [row8 (aggAt (tupAt v 0) 8) t']⟩, ⟨[0, 1, 2, 3, 4, 5], [], [], fun d v => v = d 5, fun _ v => []⟩, ⟨[0, 1, 2, 3, 4, 5, 6], [], [], fun d v => v = tupAt (d 5) 0, fun _ v => []⟩, ⟨[0, 1, 2, 3, 4, 5, 6], [], [], fun d v => v = tupAt (d 5) 1, fun _ v => []⟩, ⟨[], [], [], fun _ v => ∃ g, v = .pointer (some ⟨g, 0, none⟩), fun _ v => [blk (ptrBlk v) (.cells (cellsH stZ (.slice none 0 0) 0) 30 (0, 0))]⟩, ⟨[0, 1, 2, 3, 4, 5, 6, 7, 9], [9], [], fun _ v => True, fun d v => [blk (ptrBlk (d 9)) (.cells (aggCells (tupAt (d 5) 0)) 30 (0, 0))]⟩, ⟨[0, 1, 2, 3, 4, 5, 6, 7, 8, 9, 10], [], [], fun d v => v = (tupAt (d 5) 1), fun _ v => []⟩] ?A1 ?hA1 (by kernel_rfl) (by kernel_rfl) (by kernel_rfl) [0, 1, 2, 3, 4, 5, 6, 7, 8, 10, 11] (by kernel_rfl) ?hok1 ?fin1
        case hA1 => intro u; simp only [putAll, List.length_cons, List.length_nil, Nat.zero_add, Nat.reduceAdd, dstAt, List.getElem?_toArray, List.getElem?_cons_zero, List.getElem?_cons_succ, Option.bind_some, Act.put, List.setIfInBounds_toArray, List.set_cons_zero, List.set_cons_succ]; rfl
        case hok1 =>
          intro i hi
          obtain rfl | rfl | rfl | rfl | rfl | rfl | rfl | rfl | rfl | rfl | rfl | rfl : i = 0 ∨ i = 1 ∨ i = 2 ∨ i = 3 ∨ i = 4 ∨ i = 5 ∨ i = 6 ∨ i = 7 ∨ i = 8 ∨ i = 9 ∨ i = 10 ∨ i = 11 := by simp only [List.length_cons, List.length_nil, Nat.zero_add, Nat.reduceAdd] at hi; omega
          · clear hi
            refine step_of rfl rfl rfl ?_
            intro u G w hf S
            simp only [resOf, spec, RSpec.resAt, List.getD_cons_zero, List.getD_cons_succ, List.flatMap_cons, List.flatMap_nil, List.nil_append, List.cons_append, List.append_nil, List.append_assoc, ptrBlk, cellsH_8, aggCells_agg, tupAt20, tupAt21, tupAt30, tupAt31, tupAt32] at S ⊢
            refine does_load 30 (.tmp 4) g4 rfl _ _ _ (S.get (r := blk g4 _) (by (repeat (first | exact Pick.head _ _ | apply Pick.tail)); first | done | fail)) _ Tryd.underlying30 rfl 10 (by kernel_rfl) (by first | rfl | (first | rfl | assumption | (exact Hid.out (by assumption)) | (rw [arr8_size]; first | rfl | assumption | (exact Hid.out (by assumption)) | exact fD_length _ _ _ | exact smD_length _ | exact sumD_length _ | exact List.length_replicate ..) | (simp [arr8_size]; done))) ?_; exact ⟨rfl, S⟩
          · clear hi
            refine step_of rfl rfl rfl ?_
            intro u G w hf S
            simp only [resOf, spec, RSpec.resAt, List.getD_cons_zero, List.getD_cons_succ, List.flatMap_cons, List.flatMap_nil, List.nil_append, List.cons_append, List.append_nil, List.append_assoc, ptrBlk, cellsH_8, aggCells_agg, tupAt20, tupAt21, tupAt30, tupAt31, tupAt32] at S ⊢
            simp only [does]
            go_simp
            try exact S
          · clear hi
            refine step_of rfl rfl rfl ?_
            intro u G w hf S
            simp only [resOf, spec, RSpec.resAt, List.getD_cons_zero, List.getD_cons_succ, List.flatMap_cons, List.flatMap_nil, List.nil_append, List.cons_append, List.append_nil, List.append_assoc, ptrBlk, cellsH_8, aggCells_agg, tupAt20, tupAt21, tupAt30, tupAt31, tupAt32] at S ⊢
            simp only [does]
            go_simp
            try exact S
          · clear hi
            refine step_of rfl rfl rfl ?_
            intro u G w hf S
            have f1 : u 1 = (.slice (some ⟨b, off, none⟩) ps.length c0) := hf 1 (by simp)
            have f2 : u 2 = (.int .i64 (k : Int)) := hf 2 (by simp)
            simp only [resOf, spec, RSpec.resAt, List.getD_cons_zero, List.getD_cons_succ, List.flatMap_cons, List.flatMap_nil, List.nil_append, List.cons_append, List.append_nil, List.append_assoc, ptrBlk, cellsH_8, aggCells_agg, tupAt20, tupAt21, tupAt30, tupAt31, tupAt32] at S ⊢
            simp only [f1, f2, cellsH_8, aggCells_agg, tupAt20, tupAt21, tupAt30, tupAt31, tupAt32]
            simp only [does]
            go_simp
            try exact S
          · clear hi
            refine step_of rfl rfl rfl ?_
            intro u G w hf S
            have f1 : u 1 = (.slice (some ⟨b, off, none⟩) ps.length c0) := hf 1 (by simp)
            have f2 : u 2 = (.int .i64 (k : Int)) := hf 2 (by simp)
            have f3 : u 3 = .pointer (some ⟨b, off + k, none⟩) := hf 3 (by simp)
            simp only [resOf, spec, RSpec.resAt, List.getD_cons_zero, List.getD_cons_succ, List.flatMap_cons, List.flatMap_nil, List.nil_append, List.cons_append, List.append_nil, List.append_assoc, ptrBlk, cellsH_8, aggCells_agg, tupAt20, tupAt21, tupAt30, tupAt31, tupAt32] at S ⊢
            simp only [f1, f2, f3, cellsH_8, aggCells_agg, tupAt20, tupAt21, tupAt30, tupAt31, tupAt32]
            refine does_load1 27 (.tmp 27) _ _ rfl (S.old_cell (by first | assumption | exact Hid.out (by assumption))) _ Tryd.underlying27 rfl ?_; exact ⟨rfl, S⟩
          · clear hi
            refine step_of rfl rfl rfl ?_
            intro u G w hf S
            have f0 : u 0 = .agg (cellsH s tv X.length) := hf 0 (by simp)
            have f1 : u 1 = (.slice (some ⟨b, off, none⟩) ps.length c0) := hf 1 (by simp)
            have f2 : u 2 = (.int .i64 (k : Int)) := hf 2 (by simp)
            have f3 : u 3 = .pointer (some ⟨b, off + k, none⟩) := hf 3 (by simp)
            have f4 : u 4 = .slice pa bs.length pc := hf 4 (by simp)
            simp only [resOf, spec, RSpec.resAt, List.getD_cons_zero, List.getD_cons_succ, List.flatMap_cons, List.flatMap_nil, List.nil_append, List.cons_append, List.append_nil, List.append_assoc, ptrBlk, cellsH_8, aggCells_agg, tupAt20, tupAt21, tupAt30, tupAt31, tupAt32] at S ⊢
            simp only [f0, f1, f2, f3, f4, cellsH_8, aggCells_agg, tupAt20, tupAt21, tupAt30, tupAt31, tupAt32]
            refine does_fn (args := [(.agg (cellsH s tv X.length)), (.slice pa bs.length pc)]) Tryd.func19 (by kernel_rfl) (by kernel_rfl) (HW.out _ _ (by first | assumption | exact S.oldB (Hid.out (by assumption)) | exact Bs.mk0 _ _ | exact S.bs (by (repeat (first | exact Pick.head _ _ | apply Pick.tail)); first | done | fail) | exact S.bsr (by (repeat (first | exact Pick.head _ _ | apply Pick.tail)); first | done | fail)) (S.oldB HBS.out) (S.kt (Hid.out (by assumption)))) rfl ?_
            rintro e w1 ⟨a, c, rfl, T⟩
            exact ⟨_, rfl, ⟨_, _, rfl⟩, S.call T⟩
          · clear hi
            refine step_of rfl rfl rfl ?_
            intro u G w hf S
            have f0 : u 0 = .agg (cellsH s tv X.length) := hf 0 (by simp)
            have f1 : u 1 = (.slice (some ⟨b, off, none⟩) ps.length c0) := hf 1 (by simp)
            have f2 : u 2 = (.int .i64 (k : Int)) := hf 2 (by simp)
            have f3 : u 3 = .pointer (some ⟨b, off + k, none⟩) := hf 3 (by simp)
            have f4 : u 4 = .slice pa bs.length pc := hf 4 (by simp)
            have f5 : ∃ a c, u 5 = .tuple #[.agg (cellsH s' (.slice a t'.length c) n'), .int .i64 4] := hf 5 (by simp)
            obtain ⟨a29, c29, f5⟩ := f5
            have m5 : mask [0, 1, 2, 3, 4, 5] u 5 = u 5 := rfl
            simp only [resOf, spec, RSpec.resAt, List.getD_cons_zero, List.getD_cons_succ, List.flatMap_cons, List.flatMap_nil, List.nil_append, List.cons_append, List.append_nil, List.append_assoc, m5, ptrBlk, cellsH_8, aggCells_agg, tupAt20, tupAt21, tupAt30, tupAt31, tupAt32] at S ⊢
            simp only [m5, f0, f1, f2, f3, f4, f5, cellsH_8, aggCells_agg, tupAt20, tupAt21, tupAt30, tupAt31, tupAt32]
            simp only [does]
            go_simp
            try exact S
          · clear hi
            refine step_of rfl rfl rfl ?_
            intro u G w hf S
            have f0 : u 0 = .agg (cellsH s tv X.length) := hf 0 (by simp)
            have f1 : u 1 = (.slice (some ⟨b, off, none⟩) ps.length c0) := hf 1 (by simp)
            have f2 : u 2 = (.int .i64 (k : Int)) := hf 2 (by simp)
            have f3 : u 3 = .pointer (some ⟨b, off + k, none⟩) := hf 3 (by simp)
            have f4 : u 4 = .slice pa bs.length pc := hf 4 (by simp)
            have f5 : ∃ a c, u 5 = .tuple #[.agg (cellsH s' (.slice a t'.length c) n'), .int .i64 4] := hf 5 (by simp)
            obtain ⟨a29, c29, f5⟩ := f5
            have f6 : u 6 = u 5 := hf 6 (by simp)
            have m5 : mask [0, 1, 2, 3, 4, 5, 6] u 5 = u 5 := rfl
            simp only [resOf, spec, RSpec.resAt, List.getD_cons_zero, List.getD_cons_succ, List.flatMap_cons, List.flatMap_nil, List.nil_append, List.cons_append, List.append_nil, List.append_assoc, m5, ptrBlk, cellsH_8, aggCells_agg, tupAt20, tupAt21, tupAt30, tupAt31, tupAt32] at S ⊢
            simp only [m5, f0, f1, f2, f3, f4, f5, f6, cellsH_8, aggCells_agg, tupAt20, tupAt21, tupAt30, tupAt31, tupAt32]
            simp only [does]
            go_simp
            try exact S
          · clear hi
            refine step_of rfl rfl rfl ?_
            intro u G w hf S
            have f0 : u 0 = .agg (cellsH s tv X.length) := hf 0 (by simp)
            have f1 : u 1 = (.slice (some ⟨b, off, none⟩) ps.length c0) := hf 1 (by simp)
            have f2 : u 2 = (.int .i64 (k : Int)) := hf 2 (by simp)
            have f3 : u 3 = .pointer (some ⟨b, off + k, none⟩) := hf 3 (by simp)
            have f4 : u 4 = .slice pa bs.length pc := hf 4 (by simp)
            have f5 : ∃ a c, u 5 = .tuple #[.agg (cellsH s' (.slice a t'.length c) n'), .int .i64 4] := hf 5 (by simp)
            obtain ⟨a29, c29, f5⟩ := f5
            have f6 : u 6 = u 5 := hf 6 (by simp)
            have m5 : mask [0, 1, 2, 3, 4, 5, 6] u 5 = u 5 := rfl
            simp only [resOf, spec, RSpec.resAt, List.getD_cons_zero, List.getD_cons_succ, List.flatMap_cons, List.flatMap_nil, List.nil_append, List.cons_append, List.append_nil, List.append_assoc, m5, ptrBlk, cellsH_8, aggCells_agg, tupAt20, tupAt21, tupAt30, tupAt31, tupAt32] at S ⊢
            simp only [m5, f0, f1, f2, f3, f4, f5, f6, cellsH_8, aggCells_agg, tupAt20, tupAt21, tupAt30, tupAt31, tupAt32]
            simp only [does]
            go_simp
            try exact S
          · clear hi
            refine step_of rfl rfl rfl ?_
            intro u G w hf S
            simp only [resOf, spec, RSpec.resAt, List.getD_cons_zero, List.getD_cons_succ, List.flatMap_cons, List.flatMap_nil, List.nil_append, List.cons_append, List.append_nil, List.append_assoc, ptrBlk, cellsH_8, aggCells_agg, tupAt20, tupAt21, tupAt30, tupAt31, tupAt32] at S ⊢
            refine does_alloc S 30 (.agg (cellsH stZ (.slice none 0 0) 0)) (cellsH stZ (.slice none 0 0) 0) (by kernel_rfl) rfl ?_; intro g w1 S; exact ⟨⟨g, rfl⟩, S⟩
          · clear hi
            refine step_of rfl rfl rfl ?_
            intro u G w hf S
            have f0 : u 0 = .agg (cellsH s tv X.length) := hf 0 (by simp)
            have f1 : u 1 = (.slice (some ⟨b, off, none⟩) ps.length c0) := hf 1 (by simp)
            have f2 : u 2 = (.int .i64 (k : Int)) := hf 2 (by simp)
            have f3 : u 3 = .pointer (some ⟨b, off + k, none⟩) := hf 3 (by simp)
            have f4 : u 4 = .slice pa bs.length pc := hf 4 (by simp)
            have f5 : ∃ a c, u 5 = .tuple #[.agg (cellsH s' (.slice a t'.length c) n'), .int .i64 4] := hf 5 (by simp)
            obtain ⟨a29, c29, f5⟩ := f5
            have f6 : u 6 = u 5 := hf 6 (by simp)
            have f7 : u 7 = tupAt (u 5) 0 := hf 7 (by simp)
            have f9 : ∃ g, u 9 = .pointer (some ⟨g, 0, none⟩) := hf 9 (by simp)
            obtain ⟨g7, f9⟩ := f9
            have m5 : mask [0, 1, 2, 3, 4, 5, 6, 7, 9] u 5 = u 5 := rfl
            have m9 : mask [0, 1, 2, 3, 4, 5, 6, 7, 9] u 9 = u 9 := rfl
            simp only [resOf, spec, RSpec.resAt, List.getD_cons_zero, List.getD_cons_succ, List.flatMap_cons, List.flatMap_nil, List.nil_append, List.cons_append, List.append_nil, List.append_assoc, m9, m5, ptrBlk, cellsH_8, aggCells_agg, tupAt20, tupAt21, tupAt30, tupAt31, tupAt32] at S ⊢
            simp only [m9, m5, f0, f1, f2, f3, f4, f5, f6, f7, f9, cellsH_8, aggCells_agg, tupAt20, tupAt21, tupAt30, tupAt31, tupAt32] at S ⊢
            try simp only [ptrBlk] at S
            refine does_store S 30 (.tmp 7) (.tmp 30) _ rfl rfl 10 (by kernel_rfl) (by first | rfl | (first | rfl | assumption | (exact Hid.out (by assumption)) | (rw [arr8_size]; first | rfl | assumption | (exact Hid.out (by assumption)) | exact fD_length _ _ _ | exact smD_length _ | exact sumD_length _ | exact List.length_replicate ..) | (simp [arr8_size]; done))) (by first | rfl | (first | rfl | assumption | (exact Hid.out (by assumption)) | (rw [arr8_size]; first | rfl | assumption | (exact Hid.out (by assumption)) | exact fD_length _ _ _ | exact smD_length _ | exact sumD_length _ | exact List.length_replicate ..) | (simp [arr8_size]; done))) (by (first | exact arr8_one _ | exact cellsH_one .. | rfl | (simp [U32_one, one_slice, one_int, one_bool]; done))) ?_; intro w1 S; exact ⟨trivial, S⟩
          · clear hi
            refine step_of rfl rfl rfl ?_
            intro u G w hf S
            have f0 : u 0 = .agg (cellsH s tv X.length) := hf 0 (by simp)
            have f1 : u 1 = (.slice (some ⟨b, off, none⟩) ps.length c0) := hf 1 (by simp)
            have f2 : u 2 = (.int .i64 (k : Int)) := hf 2 (by simp)
            have f3 : u 3 = .pointer (some ⟨b, off + k, none⟩) := hf 3 (by simp)
            have f4 : u 4 = .slice pa bs.length pc := hf 4 (by simp)
            have f5 : ∃ a c, u 5 = .tuple #[.agg (cellsH s' (.slice a t'.length c) n'), .int .i64 4] := hf 5 (by simp)
            obtain ⟨a29, c29, f5⟩ := f5
            have f6 : u 6 = u 5 := hf 6 (by simp)
            have f7 : u 7 = tupAt (u 5) 0 := hf 7 (by simp)
            have f8 : u 8 = tupAt (u 5) 1 := hf 8 (by simp)
            have f9 : ∃ g, u 9 = .pointer (some ⟨g, 0, none⟩) := hf 9 (by simp)
            obtain ⟨g7, f9⟩ := f9
            have m5 : mask [0, 1, 2, 3, 4, 5, 6, 7, 8, 9, 10] u 5 = u 5 := rfl
            simp only [resOf, spec, RSpec.resAt, List.getD_cons_zero, List.getD_cons_succ, List.flatMap_cons, List.flatMap_nil, List.nil_append, List.cons_append, List.append_nil, List.append_assoc, m5, ptrBlk, cellsH_8, aggCells_agg, tupAt20, tupAt21, tupAt30, tupAt31, tupAt32] at S ⊢
            simp only [m5, f0, f1, f2, f3, f4, f5, f6, f7, f8, f9, cellsH_8, aggCells_agg, tupAt20, tupAt21, tupAt30, tupAt31, tupAt32]
            simp only [does]
            go_simp
            try exact S
        case fin1 =>
          intro u w hf S
          have f0 : u 0 = .agg (cellsH s tv X.length) := hf 0 (by simp)
          have f1 : u 1 = (.slice (some ⟨b, off, none⟩) ps.length c0) := hf 1 (by simp)
          have f2 : u 2 = (.int .i64 (k : Int)) := hf 2 (by simp)
          have f3 : u 3 = .pointer (some ⟨b, off + k, none⟩) := hf 3 (by simp)
          have f4 : u 4 = .slice pa bs.length pc := hf 4 (by simp)
          have f5 : ∃ a c, u 5 = .tuple #[.agg (cellsH s' (.slice a t'.length c) n'), .int .i64 4] := hf 5 (by simp)
          obtain ⟨a29, c29, f5⟩ := f5
          have f6 : u 6 = u 5 := hf 6 (by simp)
          have f7 : u 7 = tupAt (u 5) 0 := hf 7 (by simp)
          have f8 : u 8 = tupAt (u 5) 1 := hf 8 (by simp)
          have f9 : ∃ g, u 9 = .pointer (some ⟨g, 0, none⟩) := hf 9 (by simp)
          obtain ⟨g7, f9⟩ := f9
          have f11 : u 11 = (tupAt (u 5) 1) := hf 11 (by simp)
          have m6_5 : mask [0, 1, 2, 3, 4, 5] u 5 = u 5 := rfl
          have m7_5 : mask [0, 1, 2, 3, 4, 5, 6] u 5 = u 5 := rfl
          have m8_5 : mask [0, 1, 2, 3, 4, 5, 6] u 5 = u 5 := rfl
          have m10_5 : mask [0, 1, 2, 3, 4, 5, 6, 7, 9] u 5 = u 5 := rfl
          have m10_9 : mask [0, 1, 2, 3, 4, 5, 6, 7, 9] u 9 = u 9 := rfl
          have m11_5 : mask [0, 1, 2, 3, 4, 5, 6, 7, 8, 9, 10] u 5 = u 5 := rfl
          simp only [resOf, spec, RSpec.resAt, List.getD_cons_zero, List.getD_cons_succ, List.flatMap_cons, List.flatMap_nil, List.nil_append, List.cons_append, List.append_nil, List.append_assoc, m6_5, m7_5, m8_5, m10_5, m10_9, m11_5, ptrBlk, cellsH_8, aggCells_agg, tupAt20, tupAt21, tupAt30, tupAt31, tupAt32] at S
          clear hf
          simp only [List.length_cons, List.length_nil, Nat.zero_add, Nat.reduceAdd, List.drop_succ_cons, List.drop_zero, f0, f1, f2, f3, f4, f5, f6, f7, f8, f9, f11, cellsH_8, aggCells_agg, tupAt20, tupAt21, tupAt30, tupAt31, tupAt32]
          try simp only [f0, f1, f2, f3, f4, f5, f6, f7, f8, f9, f11, cellsH_8, aggCells_agg, tupAt20, tupAt21, tupAt30, tupAt31, tupAt32, ptrBlk] at S
          clear f0 f1 f2 f3 f4 f5 f6 f7 f8 f9 f11 m6_5 m7_5 m8_5 m10_5 m10_9 m11_5
          go_wp2_with (first | ((with_reducible show wpList _ _ _ (⟨some 4, .alloc 30, _, _, _, _⟩ :: _) _ _); refine step_alloc (dst := some 4) S 30 (.agg (cellsH stZ (.slice none 0 0) 0)) (cellsH stZ (.slice none 0 0) 0) (by kernel_rfl) rfl rfl ?_; clear S; intro g4 w S) | ((with_reducible show wpList _ _ _ (⟨none, .store 30 (.tmp 4) (.tmp 16), _, _, _, _⟩ :: _) _ _); refine step_store S 30 (.tmp 4) (.tmp 16) _ _ rfl rfl _ _ (by (repeat (first | exact Pick.head _ _ | apply Pick.tail)); first | done | fail) 10 (by kernel_rfl) (by first | rfl | (first | rfl | assumption | (exact Hid.out (by assumption)) | (rw [arr8_size]; first | rfl | assumption | (exact Hid.out (by assumption)) | exact fD_length _ _ _ | exact smD_length _ | exact sumD_length _ | exact List.length_replicate ..) | (simp [arr8_size]; done))) (by first | rfl | (first | rfl | assumption | (exact Hid.out (by assumption)) | (rw [arr8_size]; first | rfl | assumption | (exact Hid.out (by assumption)) | exact fD_length _ _ _ | exact smD_length _ | exact sumD_length _ | exact List.length_replicate ..) | (simp [arr8_size]; done))) (by (first | exact arr8_one _ | exact cellsH_one .. | rfl | (simp [U32_one, one_slice, one_int, one_bool]; done))) rfl ?_; clear S; intro w S) | ((with_reducible show wpList _ _ _ (⟨some 24, .load 30 (.tmp 4), _, _, _, _⟩ :: _) _ _); first | (refine step_load S 30 (.tmp 4) _ rfl _ _ _ (by (repeat (first | exact Pick.head _ _ | apply Pick.tail)); first | done | fail) _ Tryd.underlying30 rfl 10 (by kernel_rfl) (by first | rfl | (first | rfl | assumption | (exact Hid.out (by assumption)) | (rw [arr8_size]; first | rfl | assumption | (exact Hid.out (by assumption)) | exact fD_length _ _ _ | exact smD_length _ | exact sumD_length _ | exact List.length_replicate ..) | (simp [arr8_size]; done))) rfl ?_) | (refine step_loadO 30 (.tmp 4) _ rfl _ _ _ (S.old_heap (Hid.out (by assumption))) _ Tryd.underlying30 rfl 10 (by kernel_rfl) (by first | rfl | (first | rfl | assumption | (exact Hid.out (by assumption)) | (rw [arr8_size]; first | rfl | assumption | (exact Hid.out (by assumption)) | exact fD_length _ _ _ | exact smD_length _ | exact sumD_length _ | exact List.length_replicate ..) | (simp [arr8_size]; done))) rfl ?_)) | ((with_reducible show wpList _ _ _ (⟨some 28, .load 27 (.tmp 27), _, _, _, _⟩ :: _) _ _); first | (refine step_load1 27 (.tmp 27) _ _ rfl (S.cell (by (repeat (first | exact Pick.head _ _ | apply Pick.tail)); first | done | fail) (by (first | assumption | (exact Hid.out (by assumption)) | exact cellsH_t .. | exact cellsH_n .. | (simp only [List.setIfInBounds_toArray, List.set_cons_zero, List.set_cons_succ, List.getElem?_toArray, List.getElem?_cons_zero, List.getElem?_cons_succ]; rfl) | rfl))) _ Tryd.underlying27 rfl rfl ?_) | (refine step_load1 27 (.tmp 27) _ _ rfl (S.row_cell (by (repeat (first | exact Pick.head _ _ | apply Pick.tail)); first | done | fail) _ _ (by first | assumption | exact Hid.out (by assumption) | rfl)) _ Tryd.underlying27 rfl rfl ?_) | (refine step_load1 27 (.tmp 27) _ _ rfl (S.old_cell (by first | assumption | exact Hid.out (by assumption))) _ Tryd.underlying27 rfl rfl ?_)) | ((with_reducible show wpList _ _ _ (⟨some 7, .alloc 30, _, _, _, _⟩ :: _) _ _); refine step_alloc (dst := some 7) S 30 (.agg (cellsH stZ (.slice none 0 0) 0)) (cellsH stZ (.slice none 0 0) 0) (by kernel_rfl) rfl rfl ?_; clear S; intro g7 w S) | ((with_reducible show wpList _ _ _ (⟨none, .store 30 (.tmp 7) (.tmp 30), _, _, _, _⟩ :: _) _ _); refine step_store S 30 (.tmp 7) (.tmp 30) _ _ rfl rfl _ _ (by (repeat (first | exact Pick.head _ _ | apply Pick.tail)); first | done | fail) 10 (by kernel_rfl) (by first | rfl | (first | rfl | assumption | (exact Hid.out (by assumption)) | (rw [arr8_size]; first | rfl | assumption | (exact Hid.out (by assumption)) | exact fD_length _ _ _ | exact smD_length _ | exact sumD_length _ | exact List.length_replicate ..) | (simp [arr8_size]; done))) (by first | rfl | (first | rfl | assumption | (exact Hid.out (by assumption)) | (rw [arr8_size]; first | rfl | assumption | (exact Hid.out (by assumption)) | exact fD_length _ _ _ | exact smD_length _ | exact sumD_length _ | exact List.length_replicate ..) | (simp [arr8_size]; done))) (by (first | exact arr8_one _ | exact cellsH_one .. | rfl | (simp [U32_one, one_slice, one_int, one_bool]; done))) rfl ?_; clear S; intro w S) | ((with_reducible show wpList _ _ _ (⟨some 35, .load 27 (.tmp 34), _, _, _, _⟩ :: _) _ _); first | (refine step_load1 27 (.tmp 34) _ _ rfl (S.cell (by (repeat (first | exact Pick.head _ _ | apply Pick.tail)); first | done | fail) (by (first | assumption | (exact Hid.out (by assumption)) | exact cellsH_t .. | exact cellsH_n .. | (simp only [List.setIfInBounds_toArray, List.set_cons_zero, List.set_cons_succ, List.getElem?_toArray, List.getElem?_cons_zero, List.getElem?_cons_succ]; rfl) | rfl))) _ Tryd.underlying27 rfl rfl ?_) | (refine step_load1 27 (.tmp 34) _ _ rfl (S.row_cell (by (repeat (first | exact Pick.head _ _ | apply Pick.tail)); first | done | fail) _ _ (by first | assumption | exact Hid.out (by assumption) | rfl)) _ Tryd.underlying27 rfl rfl ?_) | (refine step_load1 27 (.tmp 34) _ _ rfl (S.old_cell (by first | assumption | exact Hid.out (by assumption))) _ Tryd.underlying27 rfl rfl ?_)) | ((with_reducible show wpList _ _ _ (⟨some 52, .load 27 (.tmp 51), _, _, _, _⟩ :: _) _ _); first | (refine step_load1 27 (.tmp 51) _ _ rfl (S.cell (by (repeat (first | exact Pick.head _ _ | apply Pick.tail)); first | done | fail) (by (first | assumption | (exact Hid.out (by assumption)) | exact cellsH_t .. | exact cellsH_n .. | (simp only [List.setIfInBounds_toArray, List.set_cons_zero, List.set_cons_succ, List.getElem?_toArray, List.getElem?_cons_zero, List.getElem?_cons_succ]; rfl) | rfl))) _ Tryd.underlying27 rfl rfl ?_) | (refine step_load1 27 (.tmp 51) _ _ rfl (S.row_cell (by (repeat (first | exact Pick.head _ _ | apply Pick.tail)); first | done | fail) _ _ (by first | assumption | exact Hid.out (by assumption) | rfl)) _ Tryd.underlying27 rfl rfl ?_) | (refine step_load1 27 (.tmp 51) _ _ rfl (S.old_cell (by first | assumption | exact Hid.out (by assumption))) _ Tryd.underlying27 rfl rfl ?_)) | (at_builtin; refine step_append8 S (.tmp 48) (.tmp 52) _ _ rfl (by (repeat (first | exact Pick.head _ _ | apply Pick.tail)); first | done | fail) _ _ rfl (by first | assumption | exact S.oldB (Hid.out (by assumption)) | exact Bs.mk0 _ _ | exact S.bs (by (repeat (first | exact Pick.head _ _ | apply Pick.tail)); first | done | fail) | exact S.bsr (by (repeat (first | exact Pick.head _ _ | apply Pick.tail)); first | done | fail)) (by (first | omega | assumption | (exact Hid.out (by assumption)) | (simp only [List.length_append, List.length_cons, List.length_nil]; omega))) rfl ?_; clear S; intro v53 w S; (try simp only [List.nil_append] at S)) | ((with_reducible show wpList _ _ _ (⟨some 54, .load 30 (.tmp 7), _, _, _, _⟩ :: _) _ _); first | (refine step_load S 30 (.tmp 7) _ rfl _ _ _ (by (repeat (first | exact Pick.head _ _ | apply Pick.tail)); first | done | fail) _ Tryd.underlying30 rfl 10 (by kernel_rfl) (by first | rfl | (first | rfl | assumption | (exact Hid.out (by assumption)) | (rw [arr8_size]; first | rfl | assumption | (exact Hid.out (by assumption)) | exact fD_length _ _ _ | exact smD_length _ | exact sumD_length _ | exact List.length_replicate ..) | (simp [arr8_size]; done))) rfl ?_) | (refine step_loadO 30 (.tmp 7) _ rfl _ _ _ (S.old_heap (Hid.out (by assumption))) _ Tryd.underlying30 rfl 10 (by kernel_rfl) (by first | rfl | (first | rfl | assumption | (exact Hid.out (by assumption)) | (rw [arr8_size]; first | rfl | assumption | (exact Hid.out (by assumption)) | exact fD_length _ _ _ | exact smD_length _ | exact sumD_length _ | exact List.length_replicate ..) | (simp [arr8_size]; done))) rfl ?_)) | ((with_reducible show wpList _ _ _ (⟨none, .store 30 (.tmp 4) (.tmp 54), _, _, _, _⟩ :: _) _ _); refine step_store S 30 (.tmp 4) (.tmp 54) _ _ rfl rfl _ _ (by (repeat (first | exact Pick.head _ _ | apply Pick.tail)); first | done | fail) 10 (by kernel_rfl) (by first | rfl | (first | rfl | assumption | (exact Hid.out (by assumption)) | (rw [arr8_size]; first | rfl | assumption | (exact Hid.out (by assumption)) | exact fD_length _ _ _ | exact smD_length _ | exact sumD_length _ | exact List.length_replicate ..) | (simp [arr8_size]; done))) (by first | rfl | (first | rfl | assumption | (exact Hid.out (by assumption)) | (rw [arr8_size]; first | rfl | assumption | (exact Hid.out (by assumption)) | exact fD_length _ _ _ | exact smD_length _ | exact sumD_length _ | exact List.length_replicate ..) | (simp [arr8_size]; done))) (by (first | exact arr8_one _ | exact cellsH_one .. | rfl | (simp [U32_one, one_slice, one_int, one_bool]; done))) rfl ?_; clear S; intro w S) | ((with_reducible show wpList _ _ _ (⟨some 55, .load 30 (.tmp 4), _, _, _, _⟩ :: _) _ _); first | (refine step_load S 30 (.tmp 4) _ rfl _ _ _ (by (repeat (first | exact Pick.head _ _ | apply Pick.tail)); first | done | fail) _ Tryd.underlying30 rfl 10 (by kernel_rfl) (by first | rfl | (first | rfl | assumption | (exact Hid.out (by assumption)) | (rw [arr8_size]; first | rfl | assumption | (exact Hid.out (by assumption)) | exact fD_length _ _ _ | exact smD_length _ | exact sumD_length _ | exact List.length_replicate ..) | (simp [arr8_size]; done))) rfl ?_) | (refine step_loadO 30 (.tmp 4) _ rfl _ _ _ (S.old_heap (Hid.out (by assumption))) _ Tryd.underlying30 rfl 10 (by kernel_rfl) (by first | rfl | (first | rfl | assumption | (exact Hid.out (by assumption)) | (rw [arr8_size]; first | rfl | assumption | (exact Hid.out (by assumption)) | exact fD_length _ _ _ | exact smD_length _ | exact sumD_length _ | exact List.length_replicate ..) | (simp [arr8_size]; done))) rfl ?_)) | ((with_reducible show wpList _ _ _ (⟨some 60, .load 28 (.tmp 59), _, _, _, _⟩ :: _) _ _); first | (refine step_load1 28 (.tmp 59) _ _ rfl (S.cell (by (repeat (first | exact Pick.head _ _ | apply Pick.tail)); first | done | fail) (by (first | assumption | (exact Hid.out (by assumption)) | exact cellsH_t .. | exact cellsH_n .. | (simp only [List.setIfInBounds_toArray, List.set_cons_zero, List.set_cons_succ, List.getElem?_toArray, List.getElem?_cons_zero, List.getElem?_cons_succ]; rfl) | rfl))) _ Tryd.underlying28 rfl rfl ?_) | (refine step_load1 28 (.tmp 59) _ _ rfl (S.row_cell (by (repeat (first | exact Pick.head _ _ | apply Pick.tail)); first | done | fail) _ _ (by first | assumption | exact Hid.out (by assumption) | rfl)) _ Tryd.underlying28 rfl rfl ?_) | (refine step_load1 28 (.tmp 59) _ _ rfl (S.old_cell (by first | assumption | exact Hid.out (by assumption))) _ Tryd.underlying28 rfl rfl ?_)) | ((with_reducible show wpList _ _ _ (⟨some 68, .load 27 (.tmp 67), _, _, _, _⟩ :: _) _ _); first | (refine step_load1 27 (.tmp 67) _ _ rfl (S.cell (by (repeat (first | exact Pick.head _ _ | apply Pick.tail)); first | done | fail) (by (first | assumption | (exact Hid.out (by assumption)) | exact cellsH_t .. | exact cellsH_n .. | (simp only [List.setIfInBounds_toArray, List.set_cons_zero, List.set_cons_succ, List.getElem?_toArray, List.getElem?_cons_zero, List.getElem?_cons_succ]; rfl) | rfl))) _ Tryd.underlying27 rfl rfl ?_) | (refine step_load1 27 (.tmp 67) _ _ rfl (S.row_cell (by (repeat (first | exact Pick.head _ _ | apply Pick.tail)); first | done | fail) _ _ (by first | assumption | exact Hid.out (by assumption) | rfl)) _ Tryd.underlying27 rfl rfl ?_) | (refine step_load1 27 (.tmp 67) _ _ rfl (S.old_cell (by first | assumption | exact Hid.out (by assumption))) _ Tryd.underlying27 rfl rfl ?_)) | ((with_reducible show wpList _ _ _ (⟨some 69, .convert 27 9 (.tmp 68), _, _, _, _⟩ :: _) _ _); refine step_conv 27 9 5 (.tmp 68) _ _ rfl Tryd.underlying27 Tryd.underlying5 Tryd.underlying9 (by first | assumption | exact S.oldB (Hid.out (by assumption)) | exact Bs.mk0 _ _ | exact S.bs (by (repeat (first | exact Pick.head _ _ | apply Pick.tail)); first | done | fail) | exact S.bsr (by (repeat (first | exact Pick.head _ _ | apply Pick.tail)); first | done | fail)) rfl ?_) | ((with_reducible show wpList _ _ _ (⟨some 76, .convert 27 9 (.tmp 75), _, _, _, _⟩ :: _) _ _); refine step_conv 27 9 5 (.tmp 75) _ _ rfl Tryd.underlying27 Tryd.underlying5 Tryd.underlying9 (by first | assumption | exact S.oldB (Hid.out (by assumption)) | exact Bs.mk0 _ _ | exact S.bs (by (repeat (first | exact Pick.head _ _ | apply Pick.tail)); first | done | fail) | exact S.bsr (by (repeat (first | exact Pick.head _ _ | apply Pick.tail)); first | done | fail)) rfl ?_) | ((with_reducible show wpList _ _ _ (⟨some 9, .alloc 30, _, _, _, _⟩ :: _) _ _); refine step_alloc (dst := some 9) S 30 (.agg (cellsH stZ (.slice none 0 0) 0)) (cellsH stZ (.slice none 0 0) 0) (by kernel_rfl) rfl rfl ?_; clear S; intro g9 w S) | ((with_reducible show wpList _ _ _ (⟨none, .store 30 (.tmp 9) (.tmp 83), _, _, _, _⟩ :: _) _ _); refine step_store S 30 (.tmp 9) (.tmp 83) _ _ rfl rfl _ _ (by (repeat (first | exact Pick.head _ _ | apply Pick.tail)); first | done | fail) 10 (by kernel_rfl) (by first | rfl | (first | rfl | assumption | (exact Hid.out (by assumption)) | (rw [arr8_size]; first | rfl | assumption | (exact Hid.out (by assumption)) | exact fD_length _ _ _ | exact smD_length _ | exact sumD_length _ | exact List.length_replicate ..) | (simp [arr8_size]; done))) (by first | rfl | (first | rfl | assumption | (exact Hid.out (by assumption)) | (rw [arr8_size]; first | rfl | assumption | (exact Hid.out (by assumption)) | exact fD_length _ _ _ | exact smD_length _ | exact sumD_length _ | exact List.length_replicate ..) | (simp [arr8_size]; done))) (by (first | exact arr8_one _ | exact cellsH_one .. | rfl | (simp [U32_one, one_slice, one_int, one_bool]; done))) rfl ?_; clear S; intro w S) | ((with_reducible show wpList _ _ _ (⟨some 86, .load 30 (.tmp 4), _, _, _, _⟩ :: _) _ _); first | (refine step_load S 30 (.tmp 4) _ rfl _ _ _ (by (repeat (first | exact Pick.head _ _ | apply Pick.tail)); first | done | fail) _ Tryd.underlying30 rfl 10 (by kernel_rfl) (by first | rfl | (first | rfl | assumption | (exact Hid.out (by assumption)) | (rw [arr8_size]; first | rfl | assumption | (exact Hid.out (by assumption)) | exact fD_length _ _ _ | exact smD_length _ | exact sumD_length _ | exact List.length_replicate ..) | (simp [arr8_size]; done))) rfl ?_) | (refine step_loadO 30 (.tmp 4) _ rfl _ _ _ (S.old_heap (Hid.out (by assumption))) _ Tryd.underlying30 rfl 10 (by kernel_rfl) (by first | rfl | (first | rfl | assumption | (exact Hid.out (by assumption)) | (rw [arr8_size]; first | rfl | assumption | (exact Hid.out (by assumption)) | exact fD_length _ _ _ | exact smD_length _ | exact sumD_length _ | exact List.length_replicate ..) | (simp [arr8_size]; done))) rfl ?_)) | ((with_reducible show wpList _ _ _ (⟨some 11, .alloc 40, _, _, _, _⟩ :: _) _ _); refine step_alloc (dst := some 11) S 40 (.agg (arr8 (List.replicate 32 0))) (arr8 (List.replicate 32 0)) (by kernel_rfl) rfl rfl ?_; clear S; intro g11 w S) | ((with_reducible show wpList _ _ _ (⟨none, .store 40 (.tmp 11) (.tmp 88), _, _, _, _⟩ :: _) _ _); refine step_store S 40 (.tmp 11) (.tmp 88) _ _ rfl rfl _ _ (by (repeat (first | exact Pick.head _ _ | apply Pick.tail)); first | done | fail) 32 (by kernel_rfl) (by first | rfl | (first | rfl | assumption | (exact Hid.out (by assumption)) | (rw [arr8_size]; first | rfl | assumption | (exact Hid.out (by assumption)) | exact fD_length _ _ _ | exact smD_length _ | exact sumD_length _ | exact List.length_replicate ..) | (simp [arr8_size]; done))) (by first | rfl | (first | rfl | assumption | (exact Hid.out (by assumption)) | (rw [arr8_size]; first | rfl | assumption | (exact Hid.out (by assumption)) | exact fD_length _ _ _ | exact smD_length _ | exact sumD_length _ | exact List.length_replicate ..) | (simp [arr8_size]; done))) (by (first | exact arr8_one _ | exact cellsH_one .. | rfl | (simp [U32_one, one_slice, one_int, one_bool]; done))) rfl ?_; clear S; intro w S) | (go_at_call 25; (with_reducible refine (sum_s _ _ _ (by first | assumption | exact S.oldB (Hid.out (by assumption)) | exact Bs.mk0 _ _ | exact S.bs (by (repeat (first | exact Pick.head _ _ | apply Pick.tail)); first | done | fail) | exact S.bsr (by (repeat (first | exact Pick.head _ _ | apply Pick.tail)); first | done | fail)) (S.kt (Hid.out (by assumption)))).mono ?_); rintro e w1 ⟨rfl, T⟩; replace S := S.call T; clear T; (try simp only [List.nil_append, List.cons_append] at S)) | ((with_reducible show wpList _ _ _ (⟨some 13, .alloc 40, _, _, _, _⟩ :: _) _ _); refine step_alloc (dst := some 13) S 40 (.agg (arr8 (List.replicate 32 0))) (arr8 (List.replicate 32 0)) (by kernel_rfl) rfl rfl ?_; clear S; intro g13 w S) | ((with_reducible show wpList _ _ _ (⟨none, .store 40 (.tmp 13) (.tmp 93), _, _, _, _⟩ :: _) _ _); refine step_store S 40 (.tmp 13) (.tmp 93) _ _ rfl rfl _ _ (by (repeat (first | exact Pick.head _ _ | apply Pick.tail)); first | done | fail) 32 (by kernel_rfl) (by first | rfl | (first | rfl | assumption | (exact Hid.out (by assumption)) | (rw [arr8_size]; first | rfl | assumption | (exact Hid.out (by assumption)) | exact fD_length _ _ _ | exact smD_length _ | exact sumD_length _ | exact List.length_replicate ..) | (simp [arr8_size]; done))) (by first | rfl | (first | rfl | assumption | (exact Hid.out (by assumption)) | (rw [arr8_size]; first | rfl | assumption | (exact Hid.out (by assumption)) | exact fD_length _ _ _ | exact smD_length _ | exact sumD_length _ | exact List.length_replicate ..) | (simp [arr8_size]; done))) (by (first | exact arr8_one _ | exact cellsH_one .. | rfl | (simp [U32_one, one_slice, one_int, one_bool]; done))) rfl ?_; clear S; intro w S) | ((with_reducible show wpList _ _ _ (⟨some 102, .load 23 (.tmp 101), _, _, _, _⟩ :: _) _ _); refine step_loadP S 23 (.tmp 101) _ _ rfl _ _ _ (by (repeat (first | exact Pick.head _ _ | apply Pick.tail)); first | done | fail) 8 _ (by (first | exact cellsH_st .. | assumption | rfl)) (by first | rfl | (first | rfl | assumption | (exact Hid.out (by assumption)) | (rw [arr8_size]; first | rfl | assumption | (exact Hid.out (by assumption)) | exact fD_length _ _ _ | exact smD_length _ | exact sumD_length _ | exact List.length_replicate ..) | (simp [arr8_size]; done))) _ Tryd.underlying23 rfl (by kernel_rfl) rfl ?_) | ((with_reducible show wpList _ _ _ (⟨some 104, .load 23 (.tmp 103), _, _, _, _⟩ :: _) _ _); refine step_loadP S 23 (.tmp 103) _ _ rfl _ _ _ (by (repeat (first | exact Pick.head _ _ | apply Pick.tail)); first | done | fail) 8 _ (by (first | exact cellsH_st .. | assumption | rfl)) (by first | rfl | (first | rfl | assumption | (exact Hid.out (by assumption)) | (rw [arr8_size]; first | rfl | assumption | (exact Hid.out (by assumption)) | exact fD_length _ _ _ | exact smD_length _ | exact sumD_length _ | exact List.length_replicate ..) | (simp [arr8_size]; done))) _ Tryd.underlying23 rfl (by kernel_rfl) rfl ?_) | ((with_reducible show wpList _ _ _ (⟨some 116, .load 40 (.tmp 11), _, _, _, _⟩ :: _) _ _); first | (refine step_load S 40 (.tmp 11) _ rfl _ _ _ (by (repeat (first | exact Pick.head _ _ | apply Pick.tail)); first | done | fail) _ Tryd.underlying40 rfl 32 (by kernel_rfl) (by first | rfl | (first | rfl | assumption | (exact Hid.out (by assumption)) | (rw [arr8_size]; first | rfl | assumption | (exact Hid.out (by assumption)) | exact fD_length _ _ _ | exact smD_length _ | exact sumD_length _ | exact List.length_replicate ..) | (simp [arr8_size]; done))) rfl ?_) | (refine step_loadO 40 (.tmp 11) _ rfl _ _ _ (S.old_heap (Hid.out (by assumption))) _ Tryd.underlying40 rfl 32 (by kernel_rfl) (by first | rfl | (first | rfl | assumption | (exact Hid.out (by assumption)) | (rw [arr8_size]; first | rfl | assumption | (exact Hid.out (by assumption)) | exact fD_length _ _ _ | exact smD_length _ | exact sumD_length _ | exact List.length_replicate ..) | (simp [arr8_size]; done))) rfl ?_)) | ((with_reducible show wpList _ _ _ (⟨some 117, .load 40 (.tmp 13), _, _, _, _⟩ :: _) _ _); first | (refine step_load S 40 (.tmp 13) _ rfl _ _ _ (by (repeat (first | exact Pick.head _ _ | apply Pick.tail)); first | done | fail) _ Tryd.underlying40 rfl 32 (by kernel_rfl) (by first | rfl | (first | rfl | assumption | (exact Hid.out (by assumption)) | (rw [arr8_size]; first | rfl | assumption | (exact Hid.out (by assumption)) | exact fD_length _ _ _ | exact smD_length _ | exact sumD_length _ | exact List.length_replicate ..) | (simp [arr8_size]; done))) rfl ?_) | (refine step_loadO 40 (.tmp 13) _ rfl _ _ _ (S.old_heap (Hid.out (by assumption))) _ Tryd.underlying40 rfl 32 (by kernel_rfl) (by first | rfl | (first | rfl | assumption | (exact Hid.out (by assumption)) | (rw [arr8_size]; first | rfl | assumption | (exact Hid.out (by assumption)) | exact fD_length _ _ _ | exact smD_length _ | exact sumD_length _ | exact List.length_replicate ..) | (simp [arr8_size]; done))) rfl ?_)) | fail)
          go_ret
          exact ⟨rfl, S.nil⟩
      · have hw := fun t w h1 h2 => write_go X bs t (.slice pa bs.length pc) w (by omega) h1 h2
        rw [← hs, ← hts] at hw
        obtain ⟨Y, hY⟩ : ∃ Y, Y = X ++ bs := ⟨_, rfl⟩
        rw [← hY] at hw hsucc
        have hYl : Y.length ≤ 8192 := by rw [hY]; simp; omega
        obtain ⟨s', hs'⟩ : ∃ s', s' = hS Y := ⟨_, rfl⟩
        obtain ⟨t', ht'⟩ : ∃ s', s' = hT Y := ⟨_, rfl⟩
        obtain ⟨n', hn'⟩ : ∃ s', s' = Y.length := ⟨_, rfl⟩
        rw [← hs', ← ht', ← hn'] at hw
        have hm1 : ¬ (8192 - (X.length : Int) < bs.length) := by omega
        obtain ⟨a5, c5, hv5, _, _⟩ := Sl.shape (S.bs (by (repeat (first | exact Pick.head _ _ | apply Pick.tail)); first | done | fail))
        subst hv5
        have hlast := And.intro hs' (And.intro ht' hn')
        have HW := Lib.hid hw; have HCK := Lib.hid hck; have HBS := Lib.hid hbs; have HSUCC := Lib.hid hsucc; have HY := Lib.hid hY; have HYL := Lib.hid hYl; have HLAST := Lib.hid hlast; clear hw hck hbs hsucc hY hYl hlast
        clear hs hts hX hp hpe hs' ht' hn' hcell
        go_wp2_with fail
        refine wp_rely S [⟨[], [], [], fun _ v => v = .agg (cellsH s tv X.length), fun _ v => []⟩, ⟨[], [], [], fun _ v => v = (.slice (some ⟨b, off, none⟩) ps.length c0), fun _ v => []⟩, ⟨[], [], [], fun _ v => v = (.int .i64 (k : Int)), fun _ v => []⟩, ⟨[1, 2], [], [], fun _ v => v = .pointer (some ⟨b, off + k, none⟩), fun _ v => []⟩, ⟨[1, 2, 3], [], [], fun _ v => v = .slice pa bs.length pc, fun _ v => []⟩, ⟨[0, 1, 2, 3, 4], [], [], fun _ v => ∃ a c, v = .tuple #[.agg (cellsH s' (.slice a t'.length c) n'), .int .i64 0], fun _ v => [row8 (aggAt (tupAt v 0) 8) t']⟩, ⟨[0, 1, 2, 3, 4, 5], [], [], fun d v => v = d 5, fun _ v => []⟩, ⟨[0, 1, 2, 3, 4, 5, 6], [], [], fun d v => v = tupAt (d 5) 0, fun _ v => []⟩, ⟨[0, 1, 2, 3, 4, 5, 6], [], [], fun d v => v = tupAt (d 5) 1, fun _ v => []⟩, ⟨[], [], [], fun _ v => ∃ g, v = .pointer (some ⟨g, 0, none⟩), fun _ v => [blk (ptrBlk v) (.cells (cellsH stZ (.slice none 0 0) 0) 30 (0, 0))]⟩, ⟨[0, 1, 2, 3, 4, 5, 6, 7, 9], [9], [], fun _ v => True, fun d v => [blk (ptrBlk (d 9)) (.cells (aggCells (tupAt (d 5) 0)) 30 (0, 0))]⟩, ⟨[0, 1, 2, 3, 4, 5, 6, 7, 8, 9, 10], [], [], fun d v => v = (tupAt (d 5) 1), fun _ v => []⟩] ?A2 ?hA2 (by kernel_rfl) (by kernel_rfl) (by kernel_rfl) [0, 1, 2, 3, 4, 5, 6, 7, 8, 10, 11] (by kernel_rfl) ?hok2 ?fin2
        case hA2 => intro u; simp only [putAll, List.length_cons, List.length_nil, Nat.zero_add, Nat.reduceAdd, dstAt, List.getElem?_toArray, List.getElem?_cons_zero, List.getElem?_cons_succ, Option.bind_some, Act.put, List.setIfInBounds_toArray, List.set_cons_zero, List.set_cons_succ]; rfl
        case hok2 =>
          intro i hi
          obtain rfl | rfl | rfl | rfl | rfl | rfl | rfl | rfl | rfl | rfl | rfl | rfl : i = 0 ∨ i = 1 ∨ i = 2 ∨ i = 3 ∨ i = 4 ∨ i = 5 ∨ i = 6 ∨ i = 7 ∨ i = 8 ∨ i = 9 ∨ i = 10 ∨ i = 11 := by simp only [List.length_cons, List.length_nil, Nat.zero_add, Nat.reduceAdd] at hi; omega
          · clear hi
            refine step_of rfl rfl rfl ?_
            intro u G w hf S
            simp only [resOf, spec, RSpec.resAt, List.getD_cons_zero, List.getD_cons_succ, List.flatMap_cons, List.flatMap_nil, List.nil_append, List.cons_append, List.append_nil, List.append_assoc, ptrBlk, cellsH_8, aggCells_agg, tupAt20, tupAt21, tupAt30, tupAt31, tupAt32] at S ⊢
            refine does_load 30 (.tmp 4) g4 rfl _ _ _ (S.get (r := blk g4 _) (by (repeat (first | exact Pick.head _ _ | apply Pick.tail)); first | done | fail)) _ Tryd.underlying30 rfl 10 (by kernel_rfl) (by first | rfl | (first | rfl | assumption | (exact Hid.out (by assumption)) | (rw [arr8_size]; first | rfl | assumption | (exact Hid.out (by assumption)) | exact fD_length _ _ _ | exact smD_length _ | exact sumD_length _ | exact List.length_replicate ..) | (simp [arr8_size]; done))) ?_; exact ⟨rfl, S⟩
          · clear hi
            refine step_of rfl rfl rfl ?_
            intro u G w hf S
            simp only [resOf, spec, RSpec.resAt, List.getD_cons_zero, List.getD_cons_succ, List.flatMap_cons, List.flatMap_nil, List.nil_append, List.cons_append, List.append_nil, List.append_assoc, ptrBlk, cellsH_8, aggCells_agg, tupAt20, tupAt21, tupAt30, tupAt31, tupAt32] at S ⊢
            simp only [does]
            go_simp
            try exact S
          · clear hi
            refine step_of rfl rfl rfl ?_
            intro u G w hf S
            simp only [resOf, spec, RSpec.resAt, List.getD_cons_zero, List.getD_cons_succ, List.flatMap_cons, List.flatMap_nil, List.nil_append, List.cons_append, List.append_nil, List.append_assoc, ptrBlk, cellsH_8, aggCells_agg, tupAt20, tupAt21, tupAt30, tupAt31, tupAt32] at S ⊢
            simp only [does]
            go_simp
            try exact S
          · clear hi
            refine step_of rfl rfl rfl ?_
            intro u G w hf S
            have f1 : u 1 = (.slice (some ⟨b, off, none⟩) ps.length c0) := hf 1 (by simp)
            have f2 : u 2 = (.int .i64 (k : Int)) := hf 2 (by simp)
            simp only [resOf, spec, RSpec.resAt, List.getD_cons_zero, List.getD_cons_succ, List.flatMap_cons, List.flatMap_nil, List.nil_append, List.cons_append, List.append_nil, List.append_assoc, ptrBlk, cellsH_8, aggCells_agg, tupAt20, tupAt21, tupAt30, tupAt31, tupAt32] at S ⊢
            simp only [f1, f2, cellsH_8, aggCells_agg, tupAt20, tupAt21, tupAt30, tupAt31, tupAt32]
            simp only [does]
            go_simp
            try exact S
          · clear hi
            refine step_of rfl rfl rfl ?_
            intro u G w hf S
            have f1 : u 1 = (.slice (some ⟨b, off, none⟩) ps.length c0) := hf 1 (by simp)
            have f2 : u 2 = (.int .i64 (k : Int)) := hf 2 (by simp)
            have f3 : u 3 = .pointer (some ⟨b, off + k, none⟩) := hf 3 (by simp)
            simp only [resOf, spec, RSpec.resAt, List.getD_cons_zero, List.getD_cons_succ, List.flatMap_cons, List.flatMap_nil, List.nil_append, List.cons_append, List.append_nil, List.append_assoc, ptrBlk, cellsH_8, aggCells_agg, tupAt20, tupAt21, tupAt30, tupAt31, tupAt32] at S ⊢
            simp only [f1, f2, f3, cellsH_8, aggCells_agg, tupAt20, tupAt21, tupAt30, tupAt31, tupAt32]
            refine does_load1 27 (.tmp 27) _ _ rfl (S.old_cell (by first | assumption | exact Hid.out (by assumption))) _ Tryd.underlying27 rfl ?_; exact ⟨rfl, S⟩
          · clear hi
            refine step_of rfl rfl rfl ?_
            intro u G w hf S
            have f0 : u 0 = .agg (cellsH s tv X.length) := hf 0 (by simp)
            have f1 : u 1 = (.slice (some ⟨b, off, none⟩) ps.length c0) := hf 1 (by simp)
            have f2 : u 2 = (.int .i64 (k : Int)) := hf 2 (by simp)
            have f3 : u 3 = .pointer (some ⟨b, off + k, none⟩) := hf 3 (by simp)
            have f4 : u 4 = .slice pa bs.length pc := hf 4 (by simp)
            simp only [resOf, spec, RSpec.resAt, List.getD_cons_zero, List.getD_cons_succ, List.flatMap_cons, List.flatMap_nil, List.nil_append, List.cons_append, List.append_nil, List.append_assoc, ptrBlk, cellsH_8, aggCells_agg, tupAt20, tupAt21, tupAt30, tupAt31, tupAt32] at S ⊢
            simp only [f0, f1, f2, f3, f4, cellsH_8, aggCells_agg, tupAt20, tupAt21, tupAt30, tupAt31, tupAt32]
            refine does_fn (args := [(.agg (cellsH s tv X.length)), (.slice pa bs.length pc)]) Tryd.func19 (by kernel_rfl) (by kernel_rfl) (HW.out _ _ (by first | assumption | exact S.oldB (Hid.out (by assumption)) | exact Bs.mk0 _ _ | exact S.bs (by (repeat (first | exact Pick.head _ _ | apply Pick.tail)); first | done | fail) | exact S.bsr (by (repeat (first | exact Pick.head _ _ | apply Pick.tail)); first | done | fail)) (S.oldB HBS.out) (S.kt (Hid.out (by assumption)))) rfl ?_
            rintro e w1 ⟨a, c, rfl, T⟩
            exact ⟨_, rfl, ⟨_, _, rfl⟩, S.call T⟩
          · clear hi
            refine step_of rfl rfl rfl ?_
            intro u G w hf S
            have f0 : u 0 = .agg (cellsH s tv X.length) := hf 0 (by simp)
            have f1 : u 1 = (.slice (some ⟨b, off, none⟩) ps.length c0) := hf 1 (by simp)
            have f2 : u 2 = (.int .i64 (k : Int)) := hf 2 (by simp)
            have f3 : u 3 = .pointer (some ⟨b, off + k, none⟩) := hf 3 (by simp)
            have f4 : u 4 = .slice pa bs.length pc := hf 4 (by simp)
            have f5 : ∃ a c, u 5 = .tuple #[.agg (cellsH s' (.slice a t'.length c) n'), .int .i64 0] := hf 5 (by simp)
            obtain ⟨a29, c29, f5⟩ := f5
            have m5 : mask [0, 1, 2, 3, 4, 5] u 5 = u 5 := rfl
            simp only [resOf, spec, RSpec.resAt, List.getD_cons_zero, List.getD_cons_succ, List.flatMap_cons, List.flatMap_nil, List.nil_append, List.cons_append, List.append_nil, List.append_assoc, m5, ptrBlk, cellsH_8, aggCells_agg, tupAt20, tupAt21, tupAt30, tupAt31, tupAt32] at S ⊢
            simp only [m5, f0, f1, f2, f3, f4, f5, cellsH_8, aggCells_agg, tupAt20, tupAt21, tupAt30, tupAt31, tupAt32]
            simp only [does]
            go_simp
            try exact S
          · clear hi
            refine step_of rfl rfl rfl ?_
            intro u G w hf S
            have f0 : u 0 = .agg (cellsH s tv X.length) := hf 0 (by simp)
            have f1 : u 1 = (.slice (some ⟨b, off, none⟩) ps.length c0) := hf 1 (by simp)
            have f2 : u 2 = (.int .i64 (k : Int)) := hf 2 (by simp)
            have f3 : u 3 = .pointer (some ⟨b, off + k, none⟩) := hf 3 (by simp)
            have f4 : u 4 = .slice pa bs.length pc := hf 4 (by simp)
            have f5 : ∃ a c, u 5 = .tuple #[.agg (cellsH s' (.slice a t'.length c) n'), .int .i64 0] := hf 5 (by simp)
            obtain ⟨a29, c29, f5⟩ := f5
            have f6 : u 6 = u 5 := hf 6 (by simp)
            have m5 : mask [0, 1, 2, 3, 4, 5, 6] u 5 = u 5 := rfl
            simp only [resOf, spec, RSpec.resAt, List.getD_cons_zero, List.getD_cons_succ, List.flatMap_cons, List.flatMap_nil, List.nil_append, List.cons_append, List.append_nil, List.append_assoc, m5, ptrBlk, cellsH_8, aggCells_agg, tupAt20, tupAt21, tupAt30, tupAt31, tupAt32] at S ⊢
            simp only [m5, f0, f1, f2, f3, f4, f5, f6, cellsH_8, aggCells_agg, tupAt20, tupAt21, tupAt30, tupAt31, tupAt32]
            simp only [does]
            go_simp
            try exact S
          · clear hi
            refine step_of rfl rfl rfl ?_
            intro u G w hf S
            have f0 : u 0 = .agg (cellsH s tv X.length) := hf 0 (by simp)
            have f1 : u 1 = (.slice (some ⟨b, off, none⟩) ps.length c0) := hf 1 (by simp)
            have f2 : u 2 = (.int .i64 (k : Int)) := hf 2 (by simp)
            have f3 : u 3 = .pointer (some ⟨b, off + k, none⟩) := hf 3 (by simp)
            have f4 : u 4 = .slice pa bs.length pc := hf 4 (by simp)
            have f5 : ∃ a c, u 5 = .tuple #[.agg (cellsH s' (.slice a t'.length c) n'), .int .i64 0] := hf 5 (by simp)
            obtain ⟨a29, c29, f5⟩ := f5
            have f6 : u 6 = u 5 := hf 6 (by simp)
            have m5 : mask [0, 1, 2, 3, 4, 5, 6] u 5 = u 5 := rfl
            simp only [resOf, spec, RSpec.resAt, List.getD_cons_zero, List.getD_cons_succ, List.flatMap_cons, List.flatMap_nil, List.nil_append, List.cons_append, List.append_nil, List.append_assoc, m5, ptrBlk, cellsH_8, aggCells_agg, tupAt20, tupAt21, tupAt30, tupAt31, tupAt32] at S ⊢
            simp only [m5, f0, f1, f2, f3, f4, f5, f6, cellsH_8, aggCells_agg, tupAt20, tupAt21, tupAt30, tupAt31, tupAt32]
            simp only [does]
            go_simp
            try exact S
          · clear hi
            refine step_of rfl rfl rfl ?_
            intro u G w hf S
            simp only [resOf, spec, RSpec.resAt, List.getD_cons_zero, List.getD_cons_succ, List.flatMap_cons, List.flatMap_nil, List.nil_append, List.cons_append, List.append_nil, List.append_assoc, ptrBlk, cellsH_8, aggCells_agg, tupAt20, tupAt21, tupAt30, tupAt31, tupAt32] at S ⊢
            refine does_alloc S 30 (.agg (cellsH stZ (.slice none 0 0) 0)) (cellsH stZ (.slice none 0 0) 0) (by kernel_rfl) rfl ?_; intro g w1 S; exact ⟨⟨g, rfl⟩, S⟩
          · clear hi
            refine step_of rfl rfl rfl ?_
            intro u G w hf S
            have f0 : u 0 = .agg (cellsH s tv X.length) := hf 0 (by simp)
            have f1 : u 1 = (.slice (some ⟨b, off, none⟩) ps.length c0) := hf 1 (by simp)
            have f2 : u 2 = (.int .i64 (k : Int)) := hf 2 (by simp)
            have f3 : u 3 = .pointer (some ⟨b, off + k, none⟩) := hf 3 (by simp)
            have f4 : u 4 = .slice pa bs.length pc := hf 4 (by simp)
            have f5 : ∃ a c, u 5 = .tuple #[.agg (cellsH s' (.slice a t'.length c) n'), .int .i64 0] := hf 5 (by simp)
            obtain ⟨a29, c29, f5⟩ := f5
            have f6 : u 6 = u 5 := hf 6 (by simp)
            have f7 : u 7 = tupAt (u 5) 0 := hf 7 (by simp)
            have f9 : ∃ g, u 9 = .pointer (some ⟨g, 0, none⟩) := hf 9 (by simp)
            obtain ⟨g7, f9⟩ := f9
            have m5 : mask [0, 1, 2, 3, 4, 5, 6, 7, 9] u 5 = u 5 := rfl
            have m9 : mask [0, 1, 2, 3, 4, 5, 6, 7, 9] u 9 = u 9 := rfl
            simp only [resOf, spec, RSpec.resAt, List.getD_cons_zero, List.getD_cons_succ, List.flatMap_cons, List.flatMap_nil, List.nil_append, List.cons_append, List.append_nil, List.append_assoc, m9, m5, ptrBlk, cellsH_8, aggCells_agg, tupAt20, tupAt21, tupAt30, tupAt31, tupAt32] at S ⊢
            simp only [m9, m5, f0, f1, f2, f3, f4, f5, f6, f7, f9, cellsH_8, aggCells_agg, tupAt20, tupAt21, tupAt30, tupAt31, tupAt32] at S ⊢
            try simp only [ptrBlk] at S
            refine does_store S 30 (.tmp 7) (.tmp 30) _ rfl rfl 10 (by kernel_rfl) (by first | rfl | (first | rfl | assumption | (exact Hid.out (by assumption)) | (rw [arr8_size]; first | rfl | assumption | (exact Hid.out (by assumption)) | exact fD_length _ _ _ | exact smD_length _ | exact sumD_length _ | exact List.length_replicate ..) | (simp [arr8_size]; done))) (by first | rfl | (first | rfl | assumption | (exact Hid.out (by assumption)) | (rw [arr8_size]; first | rfl | assumption | (exact Hid.out (by assumption)) | exact fD_length _ _ _ | exact smD_length _ | exact sumD_length _ | exact List.length_replicate ..) | (simp [arr8_size]; done))) (by (first | exact arr8_one _ | exact cellsH_one .. | rfl | (simp [U32_one, one_slice, one_int, one_bool]; done))) ?_; intro w1 S; exact ⟨trivial, S⟩
          · clear hi
            refine step_of rfl rfl rfl ?_
            intro u G w hf S
            have f0 : u 0 = .agg (cellsH s tv X.length) := hf 0 (by simp)
            have f1 : u 1 = (.slice (some ⟨b, off, none⟩) ps.length c0) := hf 1 (by simp)
            have f2 : u 2 = (.int .i64 (k : Int)) := hf 2 (by simp)
            have f3 : u 3 = .pointer (some ⟨b, off + k, none⟩) := hf 3 (by simp)
            have f4 : u 4 = .slice pa bs.length pc := hf 4 (by simp)
            have f5 : ∃ a c, u 5 = .tuple #[.agg (cellsH s' (.slice a t'.length c) n'), .int .i64 0] := hf 5 (by simp)
            obtain ⟨a29, c29, f5⟩ := f5
            have f6 : u 6 = u 5 := hf 6 (by simp)
            have f7 : u 7 = tupAt (u 5) 0 := hf 7 (by simp)
            have f8 : u 8 = tupAt (u 5) 1 := hf 8 (by simp)
            have f9 : ∃ g, u 9 = .pointer (some ⟨g, 0, none⟩) := hf 9 (by simp)
            obtain ⟨g7, f9⟩ := f9
            have m5 : mask [0, 1, 2, 3, 4, 5, 6, 7, 8, 9, 10] u 5 = u 5 := rfl
            simp only [resOf, spec, RSpec.resAt, List.getD_cons_zero, List.getD_cons_succ, List.flatMap_cons, List.flatMap_nil, List.nil_append, List.cons_append, List.append_nil, List.append_assoc, m5, ptrBlk, cellsH_8, aggCells_agg, tupAt20, tupAt21, tupAt30, tupAt31, tupAt32] at S ⊢
            simp only [m5, f0, f1, f2, f3, f4, f5, f6, f7, f8, f9, cellsH_8, aggCells_agg, tupAt20, tupAt21, tupAt30, tupAt31, tupAt32]
            simp only [does]
            go_simp
            try exact S
        case fin2 =>
          intro u w hf S
          have f0 : u 0 = .agg (cellsH s tv X.length) := hf 0 (by simp)
          have f1 : u 1 = (.slice (some ⟨b, off, none⟩) ps.length c0) := hf 1 (by simp)
          have f2 : u 2 = (.int .i64 (k : Int)) := hf 2 (by simp)
          have f3 : u 3 = .pointer (some ⟨b, off + k, none⟩) := hf 3 (by simp)
          have f4 : u 4 = .slice pa bs.length pc := hf 4 (by simp)
          have f5 : ∃ a c, u 5 = .tuple #[.agg (cellsH s' (.slice a t'.length c) n'), .int .i64 0] := hf 5 (by simp)
          obtain ⟨a29, c29, f5⟩ := f5
          have f6 : u 6 = u 5 := hf 6 (by simp)
          have f7 : u 7 = tupAt (u 5) 0 := hf 7 (by simp)
          have f8 : u 8 = tupAt (u 5) 1 := hf 8 (by simp)
          have f9 : ∃ g, u 9 = .pointer (some ⟨g, 0, none⟩) := hf 9 (by simp)
          obtain ⟨g7, f9⟩ := f9
          have f11 : u 11 = (tupAt (u 5) 1) := hf 11 (by simp)
          have m6_5 : mask [0, 1, 2, 3, 4, 5] u 5 = u 5 := rfl
          have m7_5 : mask [0, 1, 2, 3, 4, 5, 6] u 5 = u 5 := rfl
          have m8_5 : mask [0, 1, 2, 3, 4, 5, 6] u 5 = u 5 := rfl
          have m10_5 : mask [0, 1, 2, 3, 4, 5, 6, 7, 9] u 5 = u 5 := rfl
          have m10_9 : mask [0, 1, 2, 3, 4, 5, 6, 7, 9] u 9 = u 9 := rfl
          have m11_5 : mask [0, 1, 2, 3, 4, 5, 6, 7, 8, 9, 10] u 5 = u 5 := rfl
          simp only [resOf, spec, RSpec.resAt, List.getD_cons_zero, List.getD_cons_succ, List.flatMap_cons, List.flatMap_nil, List.nil_append, List.cons_append, List.append_nil, List.append_assoc, m6_5, m7_5, m8_5, m10_5, m10_9, m11_5, ptrBlk, cellsH_8, aggCells_agg, tupAt20, tupAt21, tupAt30, tupAt31, tupAt32] at S
          clear hf
          simp only [List.length_cons, List.length_nil, Nat.zero_add, Nat.reduceAdd, List.drop_succ_cons, List.drop_zero, f0, f1, f2, f3, f4, f5, f6, f7, f8, f9, f11, cellsH_8, aggCells_agg, tupAt20, tupAt21, tupAt30, tupAt31, tupAt32]
          try simp only [f0, f1, f2, f3, f4, f5, f6, f7, f8, f9, f11, cellsH_8, aggCells_agg, tupAt20, tupAt21, tupAt30, tupAt31, tupAt32, ptrBlk] at S
          clear f0 f1 f2 f3 f4 f5 f6 f7 f8 f9 f11 m6_5 m7_5 m8_5 m10_5 m10_9 m11_5
          go_wp2_with (first | ((with_reducible show wpList _ _ _ (⟨some 4, .alloc 30, _, _, _, _⟩ :: _) _ _); refine step_alloc (dst := some 4) S 30 (.agg (cellsH stZ (.slice none 0 0) 0)) (cellsH stZ (.slice none 0 0) 0) (by kernel_rfl) rfl rfl ?_; clear S; intro g4 w S) | ((with_reducible show wpList _ _ _ (⟨none, .store 30 (.tmp 4) (.tmp 16), _, _, _, _⟩ :: _) _ _); refine step_store S 30 (.tmp 4) (.tmp 16) _ _ rfl rfl _ _ (by (repeat (first | exact Pick.head _ _ | apply Pick.tail)); first | done | fail) 10 (by kernel_rfl) (by first | rfl | (first | rfl | assumption | (exact Hid.out (by assumption)) | (rw [arr8_size]; first | rfl | assumption | (exact Hid.out (by assumption)) | exact fD_length _ _ _ | exact smD_length _ | exact sumD_length _ | exact List.length_replicate ..) | (simp [arr8_size]; done))) (by first | rfl | (first | rfl | assumption | (exact Hid.out (by assumption)) | (rw [arr8_size]; first | rfl | assumption | (exact Hid.out (by assumption)) | exact fD_length _ _ _ | exact smD_length _ | exact sumD_length _ | exact List.length_replicate ..) | (simp [arr8_size]; done))) (by (first | exact arr8_one _ | exact cellsH_one .. | rfl | (simp [U32_one, one_slice, one_int, one_bool]; done))) rfl ?_; clear S; intro w S) | ((with_reducible show wpList _ _ _ (⟨some 24, .load 30 (.tmp 4), _, _, _, _⟩ :: _) _ _); first | (refine step_load S 30 (.tmp 4) _ rfl _ _ _ (by (repeat (first | exact Pick.head _ _ | apply Pick.tail)); first | done | fail) _ Tryd.underlying30 rfl 10 (by kernel_rfl) (by first | rfl | (first | rfl | assumption | (exact Hid.out (by assumption)) | (rw [arr8_size]; first | rfl | assumption | (exact Hid.out (by assumption)) | exact fD_length _ _ _ | exact smD_length _ | exact sumD_length _ | exact List.length_replicate ..) | (simp [arr8_size]; done))) rfl ?_) | (refine step_loadO 30 (.tmp 4) _ rfl _ _ _ (S.old_heap (Hid.out (by assumption))) _ Tryd.underlying30 rfl 10 (by kernel_rfl) (by first | rfl | (first | rfl | assumption | (exact Hid.out (by assumption)) | (rw [arr8_size]; first | rfl | assumption | (exact Hid.out (by assumption)) | exact fD_length _ _ _ | exact smD_length _ | exact sumD_length _ | exact List.length_replicate ..) | (simp [arr8_size]; done))) rfl ?_)) | ((with_reducible show wpList _ _ _ (⟨some 28, .load 27 (.tmp 27), _, _, _, _⟩ :: _) _ _); first | (refine step_load1 27 (.tmp 27) _ _ rfl (S.cell (by (repeat (first | exact Pick.head _ _ | apply Pick.tail)); first | done | fail) (by (first | assumption | (exact Hid.out (by assumption)) | exact cellsH_t .. | exact cellsH_n .. | (simp only [List.setIfInBounds_toArray, List.set_cons_zero, List.set_cons_succ, List.getElem?_toArray, List.getElem?_cons_zero, List.getElem?_cons_succ]; rfl) | rfl))) _ Tryd.underlying27 rfl rfl ?_) | (refine step_load1 27 (.tmp 27) _ _ rfl (S.row_cell (by (repeat (first | exact Pick.head _ _ | apply Pick.tail)); first | done | fail) _ _ (by first | assumption | exact Hid.out (by assumption) | rfl)) _ Tryd.underlying27 rfl rfl ?_) | (refine step_load1 27 (.tmp 27) _ _ rfl (S.old_cell (by first | assumption | exact Hid.out (by assumption))) _ Tryd.underlying27 rfl rfl ?_)) | ((with_reducible show wpList _ _ _ (⟨some 7, .alloc 30, _, _, _, _⟩ :: _) _ _); refine step_alloc (dst := some 7) S 30 (.agg (cellsH stZ (.slice none 0 0) 0)) (cellsH stZ (.slice none 0 0) 0) (by kernel_rfl) rfl rfl ?_; clear S; intro g7 w S) | ((with_reducible show wpList _ _ _ (⟨none, .store 30 (.tmp 7) (.tmp 30), _, _, _, _⟩ :: _) _ _); refine step_store S 30 (.tmp 7) (.tmp 30) _ _ rfl rfl _ _ (by (repeat (first | exact Pick.head _ _ | apply Pick.tail)); first | done | fail) 10 (by kernel_rfl) (by first | rfl | (first | rfl | assumption | (exact Hid.out (by assumption)) | (rw [arr8_size]; first | rfl | assumption | (exact Hid.out (by assumption)) | exact fD_length _ _ _ | exact smD_length _ | exact sumD_length _ | exact List.length_replicate ..) | (simp [arr8_size]; done))) (by first | rfl | (first | rfl | assumption | (exact Hid.out (by assumption)) | (rw [arr8_size]; first | rfl | assumption | (exact Hid.out (by assumption)) | exact fD_length _ _ _ | exact smD_length _ | exact sumD_length _ | exact List.length_replicate ..) | (simp [arr8_size]; done))) (by (first | exact arr8_one _ | exact cellsH_one .. | rfl | (simp [U32_one, one_slice, one_int, one_bool]; done))) rfl ?_; clear S; intro w S) | ((with_reducible show wpList _ _ _ (⟨some 35, .load 27 (.tmp 34), _, _, _, _⟩ :: _) _ _); first | (refine step_load1 27 (.tmp 34) _ _ rfl (S.cell (by (repeat (first | exact Pick.head _ _ | apply Pick.tail)); first | done | fail) (by (first | assumption | (exact Hid.out (by assumption)) | exact cellsH_t .. | exact cellsH_n .. | (simp only [List.setIfInBounds_toArray, List.set_cons_zero, List.set_cons_succ, List.getElem?_toArray, List.getElem?_cons_zero, List.getElem?_cons_succ]; rfl) | rfl))) _ Tryd.underlying27 rfl rfl ?_) | (refine step_load1 27 (.tmp 34) _ _ rfl (S.row_cell (by (repeat (first | exact Pick.head _ _ | apply Pick.tail)); first | done | fail) _ _ (by first | assumption | exact Hid.out (by assumption) | rfl)) _ Tryd.underlying27 rfl rfl ?_) | (refine step_load1 27 (.tmp 34) _ _ rfl (S.old_cell (by first | assumption | exact Hid.out (by assumption))) _ Tryd.underlying27 rfl rfl ?_)) | ((with_reducible show wpList _ _ _ (⟨some 52, .load 27 (.tmp 51), _, _, _, _⟩ :: _) _ _); first | (refine step_load1 27 (.tmp 51) _ _ rfl (S.cell (by (repeat (first | exact Pick.head _ _ | apply Pick.tail)); first | done | fail) (by (first | assumption | (exact Hid.out (by assumption)) | exact cellsH_t .. | exact cellsH_n .. | (simp only [List.setIfInBounds_toArray, List.set_cons_zero, List.set_cons_succ, List.getElem?_toArray, List.getElem?_cons_zero, List.getElem?_cons_succ]; rfl) | rfl))) _ Tryd.underlying27 rfl rfl ?_) | (refine step_load1 27 (.tmp 51) _ _ rfl (S.row_cell (by (repeat (first | exact Pick.head _ _ | apply Pick.tail)); first | done | fail) _ _ (by first | assumption | exact Hid.out (by assumption) | rfl)) _ Tryd.underlying27 rfl rfl ?_) | (refine step_load1 27 (.tmp 51) _ _ rfl (S.old_cell (by first | assumption | exact Hid.out (by assumption))) _ Tryd.underlying27 rfl rfl ?_)) | (at_builtin; refine step_append8 S (.tmp 48) (.tmp 52) _ _ rfl (by (repeat (first | exact Pick.head _ _ | apply Pick.tail)); first | done | fail) _ _ rfl (by first | assumption | exact S.oldB (Hid.out (by assumption)) | exact Bs.mk0 _ _ | exact S.bs (by (repeat (first | exact Pick.head _ _ | apply Pick.tail)); first | done | fail) | exact S.bsr (by (repeat (first | exact Pick.head _ _ | apply Pick.tail)); first | done | fail)) (by (first | omega | assumption | (exact Hid.out (by assumption)) | (simp only [List.length_append, List.length_cons, List.length_nil]; omega))) rfl ?_; clear S; intro v53 w S; (try simp only [List.nil_append] at S)) | ((with_reducible show wpList _ _ _ (⟨some 54, .load 30 (.tmp 7), _, _, _, _⟩ :: _) _ _); first | (refine step_load S 30 (.tmp 7) _ rfl _ _ _ (by (repeat (first | exact Pick.head _ _ | apply Pick.tail)); first | done | fail) _ Tryd.underlying30 rfl 10 (by kernel_rfl) (by first | rfl | (first | rfl | assumption | (exact Hid.out (by assumption)) | (rw [arr8_size]; first | rfl | assumption | (exact Hid.out (by assumption)) | exact fD_length _ _ _ | exact smD_length _ | exact sumD_length _ | exact List.length_replicate ..) | (simp [arr8_size]; done))) rfl ?_) | (refine step_loadO 30 (.tmp 7) _ rfl _ _ _ (S.old_heap (Hid.out (by assumption))) _ Tryd.underlying30 rfl 10 (by kernel_rfl) (by first | rfl | (first | rfl | assumption | (exact Hid.out (by assumption)) | (rw [arr8_size]; first | rfl | assumption | (exact Hid.out (by assumption)) | exact fD_length _ _ _ | exact smD_length _ | exact sumD_length _ | exact List.length_replicate ..) | (simp [arr8_size]; done))) rfl ?_)) | ((with_reducible show wpList _ _ _ (⟨none, .store 30 (.tmp 4) (.tmp 54), _, _, _, _⟩ :: _) _ _); refine step_store S 30 (.tmp 4) (.tmp 54) _ _ rfl rfl _ _ (by (repeat (first | exact Pick.head _ _ | apply Pick.tail)); first | done | fail) 10 (by kernel_rfl) (by first | rfl | (first | rfl | assumption | (exact Hid.out (by assumption)) | (rw [arr8_size]; first | rfl | assumption | (exact Hid.out (by assumption)) | exact fD_length _ _ _ | exact smD_length _ | exact sumD_length _ | exact List.length_replicate ..) | (simp [arr8_size]; done))) (by first | rfl | (first | rfl | assumption | (exact Hid.out (by assumption)) | (rw [arr8_size]; first | rfl | assumption | (exact Hid.out (by assumption)) | exact fD_length _ _ _ | exact smD_length _ | exact sumD_length _ | exact List.length_replicate ..) | (simp [arr8_size]; done))) (by (first | exact arr8_one _ | exact cellsH_one .. | rfl | (simp [U32_one, one_slice, one_int, one_bool]; done))) rfl ?_; clear S; intro w S) | ((with_reducible show wpList _ _ _ (⟨some 55, .load 30 (.tmp 4), _, _, _, _⟩ :: _) _ _); first | (refine step_load S 30 (.tmp 4) _ rfl _ _ _ (by (repeat (first | exact Pick.head _ _ | apply Pick.tail)); first | done | fail) _ Tryd.underlying30 rfl 10 (by kernel_rfl) (by first | rfl | (first | rfl | assumption | (exact Hid.out (by assumption)) | (rw [arr8_size]; first | rfl | assumption | (exact Hid.out (by assumption)) | exact fD_length _ _ _ | exact smD_length _ | exact sumD_length _ | exact List.length_replicate ..) | (simp [arr8_size]; done))) rfl ?_) | (refine step_loadO 30 (.tmp 4) _ rfl _ _ _ (S.old_heap (Hid.out (by assumption))) _ Tryd.underlying30 rfl 10 (by kernel_rfl) (by first | rfl | (first | rfl | assumption | (exact Hid.out (by assumption)) | (rw [arr8_size]; first | rfl | assumption | (exact Hid.out (by assumption)) | exact fD_length _ _ _ | exact smD_length _ | exact sumD_length _ | exact List.length_replicate ..) | (simp [arr8_size]; done))) rfl ?_)) | ((with_reducible show wpList _ _ _ (⟨some 60, .load 28 (.tmp 59), _, _, _, _⟩ :: _) _ _); first | (refine step_load1 28 (.tmp 59) _ _ rfl (S.cell (by (repeat (first | exact Pick.head _ _ | apply Pick.tail)); first | done | fail) (by (first | assumption | (exact Hid.out (by assumption)) | exact cellsH_t .. | exact cellsH_n .. | (simp only [List.setIfInBounds_toArray, List.set_cons_zero, List.set_cons_succ, List.getElem?_toArray, List.getElem?_cons_zero, List.getElem?_cons_succ]; rfl) | rfl))) _ Tryd.underlying28 rfl rfl ?_) | (refine step_load1 28 (.tmp 59) _ _ rfl (S.row_cell (by (repeat (first | exact Pick.head _ _ | apply Pick.tail)); first | done | fail) _ _ (by first | assumption | exact Hid.out (by assumption) | rfl)) _ Tryd.underlying28 rfl rfl ?_) | (refine step_load1 28 (.tmp 59) _ _ rfl (S.old_cell (by first | assumption | exact Hid.out (by assumption))) _ Tryd.underlying28 rfl rfl ?_)) | ((with_reducible show wpList _ _ _ (⟨some 68, .load 27 (.tmp 67), _, _, _, _⟩ :: _) _ _); first | (refine step_load1 27 (.tmp 67) _ _ rfl (S.cell (by (repeat (first | exact Pick.head _ _ | apply Pick.tail)); first | done | fail) (by (first | assumption | (exact Hid.out (by assumption)) | exact cellsH_t .. | exact cellsH_n .. | (simp only [List.setIfInBounds_toArray, List.set_cons_zero, List.set_cons_succ, List.getElem?_toArray, List.getElem?_cons_zero, List.getElem?_cons_succ]; rfl) | rfl))) _ Tryd.underlying27 rfl rfl ?_) | (refine step_load1 27 (.tmp 67) _ _ rfl (S.row_cell (by (repeat (first | exact Pick.head _ _ | apply Pick.tail)); first | done | fail) _ _ (by first | assumption | exact Hid.out (by assumption) | rfl)) _ Tryd.underlying27 rfl rfl ?_) | (refine step_load1 27 (.tmp 67) _ _ rfl (S.old_cell (by first | assumption | exact Hid.out (by assumption))) _ Tryd.underlying27 rfl rfl ?_)) | ((with_reducible show wpList _ _ _ (⟨some 69, .convert 27 9 (.tmp 68), _, _, _, _⟩ :: _) _ _); refine step_conv 27 9 5 (.tmp 68) _ _ rfl Tryd.underlying27 Tryd.underlying5 Tryd.underlying9 (by first | assumption | exact S.oldB (Hid.out (by assumption)) | exact Bs.mk0 _ _ | exact S.bs (by (repeat (first | exact Pick.head _ _ | apply Pick.tail)); first | done | fail) | exact S.bsr (by (repeat (first | exact Pick.head _ _ | apply Pick.tail)); first | done | fail)) rfl ?_) | ((with_reducible show wpList _ _ _ (⟨some 76, .convert 27 9 (.tmp 75), _, _, _, _⟩ :: _) _ _); refine step_conv 27 9 5 (.tmp 75) _ _ rfl Tryd.underlying27 Tryd.underlying5 Tryd.underlying9 (by first | assumption | exact S.oldB (Hid.out (by assumption)) | exact Bs.mk0 _ _ | exact S.bs (by (repeat (first | exact Pick.head _ _ | apply Pick.tail)); first | done | fail) | exact S.bsr (by (repeat (first | exact Pick.head _ _ | apply Pick.tail)); first | done | fail)) rfl ?_) | ((with_reducible show wpList _ _ _ (⟨some 9, .alloc 30, _, _, _, _⟩ :: _) _ _); refine step_alloc (dst := some 9) S 30 (.agg (cellsH stZ (.slice none 0 0) 0)) (cellsH stZ (.slice none 0 0) 0) (by kernel_rfl) rfl rfl ?_; clear S; intro g9 w S) | ((with_reducible show wpList _ _ _ (⟨none, .store 30 (.tmp 9) (.tmp 83), _, _, _, _⟩ :: _) _ _); refine step_store S 30 (.tmp 9) (.tmp 83) _ _ rfl rfl _ _ (by (repeat (first | exact Pick.head _ _ | apply Pick.tail)); first | done | fail) 10 (by kernel_rfl) (by first | rfl | (first | rfl | assumption | (exact Hid.out (by assumption)) | (rw [arr8_size]; first | rfl | assumption | (exact Hid.out (by assumption)) | exact fD_length _ _ _ | exact smD_length _ | exact sumD_length _ | exact List.length_replicate ..) | (simp [arr8_size]; done))) (by first | rfl | (first | rfl | assumption | (exact Hid.out (by assumption)) | (rw [arr8_size]; first | rfl | assumption | (exact Hid.out (by assumption)) | exact fD_length _ _ _ | exact smD_length _ | exact sumD_length _ | exact List.length_replicate ..) | (simp [arr8_size]; done))) (by (first | exact arr8_one _ | exact cellsH_one .. | rfl | (simp [U32_one, one_slice, one_int, one_bool]; done))) rfl ?_; clear S; intro w S) | ((with_reducible show wpList _ _ _ (⟨some 86, .load 30 (.tmp 4), _, _, _, _⟩ :: _) _ _); first | (refine step_load S 30 (.tmp 4) _ rfl _ _ _ (by (repeat (first | exact Pick.head _ _ | apply Pick.tail)); first | done | fail) _ Tryd.underlying30 rfl 10 (by kernel_rfl) (by first | rfl | (first | rfl | assumption | (exact Hid.out (by assumption)) | (rw [arr8_size]; first | rfl | assumption | (exact Hid.out (by assumption)) | exact fD_length _ _ _ | exact smD_length _ | exact sumD_length _ | exact List.length_replicate ..) | (simp [arr8_size]; done))) rfl ?_) | (refine step_loadO 30 (.tmp 4) _ rfl _ _ _ (S.old_heap (Hid.out (by assumption))) _ Tryd.underlying30 rfl 10 (by kernel_rfl) (by first | rfl | (first | rfl | assumption | (exact Hid.out (by assumption)) | (rw [arr8_size]; first | rfl | assumption | (exact Hid.out (by assumption)) | exact fD_length _ _ _ | exact smD_length _ | exact sumD_length _ | exact List.length_replicate ..) | (simp [arr8_size]; done))) rfl ?_)) | ((with_reducible show wpList _ _ _ (⟨some 11, .alloc 40, _, _, _, _⟩ :: _) _ _); refine step_alloc (dst := some 11) S 40 (.agg (arr8 (List.replicate 32 0))) (arr8 (List.replicate 32 0)) (by kernel_rfl) rfl rfl ?_; clear S; intro g11 w S) | ((with_reducible show wpList _ _ _ (⟨none, .store 40 (.tmp 11) (.tmp 88), _, _, _, _⟩ :: _) _ _); refine step_store S 40 (.tmp 11) (.tmp 88) _ _ rfl rfl _ _ (by (repeat (first | exact Pick.head _ _ | apply Pick.tail)); first | done | fail) 32 (by kernel_rfl) (by first | rfl | (first | rfl | assumption | (exact Hid.out (by assumption)) | (rw [arr8_size]; first | rfl | assumption | (exact Hid.out (by assumption)) | exact fD_length _ _ _ | exact smD_length _ | exact sumD_length _ | exact List.length_replicate ..) | (simp [arr8_size]; done))) (by first | rfl | (first | rfl | assumption | (exact Hid.out (by assumption)) | (rw [arr8_size]; first | rfl | assumption | (exact Hid.out (by assumption)) | exact fD_length _ _ _ | exact smD_length _ | exact sumD_length _ | exact List.length_replicate ..) | (simp [arr8_size]; done))) (by (first | exact arr8_one _ | exact cellsH_one .. | rfl | (simp [U32_one, one_slice, one_int, one_bool]; done))) rfl ?_; clear S; intro w S) | (go_at_call 25; (with_reducible refine (sum_s _ _ _ (by first | assumption | exact S.oldB (Hid.out (by assumption)) | exact Bs.mk0 _ _ | exact S.bs (by (repeat (first | exact Pick.head _ _ | apply Pick.tail)); first | done | fail) | exact S.bsr (by (repeat (first | exact Pick.head _ _ | apply Pick.tail)); first | done | fail)) (S.kt (Hid.out (by assumption)))).mono ?_); rintro e w1 ⟨rfl, T⟩; replace S := S.call T; clear T; (try simp only [List.nil_append, List.cons_append] at S)) | ((with_reducible show wpList _ _ _ (⟨some 13, .alloc 40, _, _, _, _⟩ :: _) _ _); refine step_alloc (dst := some 13) S 40 (.agg (arr8 (List.replicate 32 0))) (arr8 (List.replicate 32 0)) (by kernel_rfl) rfl rfl ?_; clear S; intro g13 w S) | ((with_reducible show wpList _ _ _ (⟨none, .store 40 (.tmp 13) (.tmp 93), _, _, _, _⟩ :: _) _ _); refine step_store S 40 (.tmp 13) (.tmp 93) _ _ rfl rfl _ _ (by (repeat (first | exact Pick.head _ _ | apply Pick.tail)); first | done | fail) 32 (by kernel_rfl) (by first | rfl | (first | rfl | assumption | (exact Hid.out (by assumption)) | (rw [arr8_size]; first | rfl | assumption | (exact Hid.out (by assumption)) | exact fD_length _ _ _ | exact smD_length _ | exact sumD_length _ | exact List.length_replicate ..) | (simp [arr8_size]; done))) (by first | rfl | (first | rfl | assumption | (exact Hid.out (by assumption)) | (rw [arr8_size]; first | rfl | assumption | (exact Hid.out (by assumption)) | exact fD_length _ _ _ | exact smD_length _ | exact sumD_length _ | exact List.length_replicate ..) | (simp [arr8_size]; done))) (by (first | exact arr8_one _ | exact cellsH_one .. | rfl | (simp [U32_one, one_slice, one_int, one_bool]; done))) rfl ?_; clear S; intro w S) | ((with_reducible show wpList _ _ _ (⟨some 102, .load 23 (.tmp 101), _, _, _, _⟩ :: _) _ _); refine step_loadP S 23 (.tmp 101) _ _ rfl _ _ _ (by (repeat (first | exact Pick.head _ _ | apply Pick.tail)); first | done | fail) 8 _ (by (first | exact cellsH_st .. | assumption | rfl)) (by first | rfl | (first | rfl | assumption | (exact Hid.out (by assumption)) | (rw [arr8_size]; first | rfl | assumption | (exact Hid.out (by assumption)) | exact fD_length _ _ _ | exact smD_length _ | exact sumD_length _ | exact List.length_replicate ..) | (simp [arr8_size]; done))) _ Tryd.underlying23 rfl (by kernel_rfl) rfl ?_) | ((with_reducible show wpList _ _ _ (⟨some 104, .load 23 (.tmp 103), _, _, _, _⟩ :: _) _ _); refine step_loadP S 23 (.tmp 103) _ _ rfl _ _ _ (by (repeat (first | exact Pick.head _ _ | apply Pick.tail)); first | done | fail) 8 _ (by (first | exact cellsH_st .. | assumption | rfl)) (by first | rfl | (first | rfl | assumption | (exact Hid.out (by assumption)) | (rw [arr8_size]; first | rfl | assumption | (exact Hid.out (by assumption)) | exact fD_length _ _ _ | exact smD_length _ | exact sumD_length _ | exact List.length_replicate ..) | (simp [arr8_size]; done))) _ Tryd.underlying23 rfl (by kernel_rfl) rfl ?_) | ((with_reducible show wpList _ _ _ (⟨some 116, .load 40 (.tmp 11), _, _, _, _⟩ :: _) _ _); first | (refine step_load S 40 (.tmp 11) _ rfl _ _ _ (by (repeat (first | exact Pick.head _ _ | apply Pick.tail)); first | done | fail) _ Tryd.underlying40 rfl 32 (by kernel_rfl) (by first | rfl | (first | rfl | assumption | (exact Hid.out (by assumption)) | (rw [arr8_size]; first | rfl | assumption | (exact Hid.out (by assumption)) | exact fD_length _ _ _ | exact smD_length _ | exact sumD_length _ | exact List.length_replicate ..) | (simp [arr8_size]; done))) rfl ?_) | (refine step_loadO 40 (.tmp 11) _ rfl _ _ _ (S.old_heap (Hid.out (by assumption))) _ Tryd.underlying40 rfl 32 (by kernel_rfl) (by first | rfl | (first | rfl | assumption | (exact Hid.out (by assumption)) | (rw [arr8_size]; first | rfl | assumption | (exact Hid.out (by assumption)) | exact fD_length _ _ _ | exact smD_length _ | exact sumD_length _ | exact List.length_replicate ..) | (simp [arr8_size]; done))) rfl ?_)) | ((with_reducible show wpList _ _ _ (⟨some 117, .load 40 (.tmp 13), _, _, _, _⟩ :: _) _ _); first | (refine step_load S 40 (.tmp 13) _ rfl _ _ _ (by (repeat (first | exact Pick.head _ _ | apply Pick.tail)); first | done | fail) _ Tryd.underlying40 rfl 32 (by kernel_rfl) (by first | rfl | (first | rfl | assumption | (exact Hid.out (by assumption)) | (rw [arr8_size]; first | rfl | assumption | (exact Hid.out (by assumption)) | exact fD_length _ _ _ | exact smD_length _ | exact sumD_length _ | exact List.length_replicate ..) | (simp [arr8_size]; done))) rfl ?_) | (refine step_loadO 40 (.tmp 13) _ rfl _ _ _ (S.old_heap (Hid.out (by assumption))) _ Tryd.underlying40 rfl 32 (by kernel_rfl) (by first | rfl | (first | rfl | assumption | (exact Hid.out (by assumption)) | (rw [arr8_size]; first | rfl | assumption | (exact Hid.out (by assumption)) | exact fD_length _ _ _ | exact smD_length _ | exact sumD_length _ | exact List.length_replicate ..) | (simp [arr8_size]; done))) rfl ?_)) | fail)
          go_roundw
          case rel => exact ⟨k + 1, _, by omega, by go_num, by rw [HSUCC.out]; exact HYL.out, by rw [← HY.out] at S; rw [HSUCC.out, ← HLAST.out.1, ← HLAST.out.2.1, ← HLAST.out.2.2]; exact S.sub (by repeat (first | exact Sub.nil _ | refine Sub.cons (by (repeat (first | exact Pick.head _ _ | apply Pick.tail)); first | done | fail) ?_))⟩
          case measure => simp [intOf]; omega
    · obtain rfl : k = ps.length := by omega
      obtain ⟨X, hX⟩ : ∃ X, X = catP ps ps.length := ⟨_, rfl⟩
      rw [← hX] at S hX8
      clear hX
      have hcut := hT_cut X
      have hck := fun a c w => check_hash X a c w hX8
      have hwa := fun v w h1 h2 => write_all X v w hX8 h1 h2
      have hfi := fun t w h1 h2 => finish_hash X t w hX8 h1 h2
      have hsu := fun v w h1 h2 => sum_in8 X v w hX8 h1 h2
      obtain ⟨q, hq⟩ : ∃ q, q = X.length / 64 := ⟨_, rfl⟩
      have hq1 : 64 * q ≤ X.length := by omega
      have hq2 : X.length < 64 * q + 64 := by omega
      rw [← hq] at hcut
      obtain ⟨s, hs⟩ : ∃ s, s = hS X := ⟨_, rfl⟩
      obtain ⟨ts, hts⟩ : ∃ s, s = hT X := ⟨_, rfl⟩
      obtain ⟨D, hD⟩ : ∃ D, D = sumD X := ⟨_, rfl⟩
      have hdl : D.length = 32 := by rw [hD]; exact sumD_length _
      have hn32 := fun w' => eql32 D D hdl hdl w'
      simp only [decide_true] at hn32
      have eg : Tryd.prog.eqGuardType Tryd.prog.depth 40 = false := by kernel_rfl
      have eg8 : Tryd.prog.eqGuardType Tryd.prog.depth 23 = false := by kernel_rfl
      rw [← hs, ← hts] at S hwa hfi hck
      rw [← hts] at hcut
      rw [← hD] at hfi hsu
      have he := eql8w s
      obtain ⟨a5, c5, hv5, hc51, hc52⟩ := Sl.shape (S.bs (xs := X) (by (repeat (first | exact Pick.head _ _ | apply Pick.tail)); first | done | fail))
      subst hv5
      obtain ⟨at1, ct1, hvt, hct1, hct2⟩ := Sl.shape (S.bs (xs := ts) (by (repeat (first | exact Pick.head _ _ | apply Pick.tail)); first | done | fail))
      subst hvt
      unfold maxLen at hct2 hc52
      have HCUT := Lib.hid hcut; have HCK := Lib.hid hck; have HWA := Lib.hid hwa; have HFI := Lib.hid hfi; have HSU := Lib.hid hsu; have HDL := Lib.hid hdl; clear hcut hck hwa hfi hsu hdl
      clear hs hts hD hq
      go_wp2_with fail
      refine wp_rely S [⟨[], [], [], fun _ v => v = .agg (cellsH s (.slice at1 ts.length ct1) X.length), fun _ v => []⟩, ⟨[0], [], [], fun _ v => v = .int .i64 0, fun _ v => []⟩, ⟨[0, 1], [], [], fun _ v => v = .bool false, fun _ v => []⟩, ⟨[0, 1, 2], [], [], fun _ v => v = (.bool false), fun _ v => []⟩, ⟨[0, 1, 2, 3], [], [], fun _ v => v = .pointer (some ⟨g4, 9, none⟩), fun _ v => []⟩, ⟨[0, 1, 2, 3, 4], [], [], fun _ v => v = .int .u64 (X.length : Int), fun _ v => []⟩, ⟨[0, 1, 2, 3], [], [], fun _ v => v = (.slice a5 X.length c5), fun _ v => []⟩, ⟨[0, 1, 2, 3, 6], [], [], fun _ v => v = .int .i64 (X.length : Int), fun _ v => []⟩, ⟨[0, 1, 2, 3, 6, 7], [], [], fun _ v => v = .int .u64 (X.length : Int), fun _ v => []⟩, ⟨[0, 1, 2, 3, 4, 5, 6, 7, 8], [], [], fun _ v => v = .bool false, fun _ v => []⟩, ⟨[0, 1, 2, 3, 4, 5, 6, 7, 8, 9], [], [], fun _ v => v = .bool false, fun _ v => []⟩, ⟨[0, 1, 2, 3, 4, 5, 6, 7, 8, 9, 10], [], [], fun _ v => v = (.bool false), fun _ v => []⟩, ⟨[0, 1, 2, 3, 4, 5, 6, 7, 8, 9, 10, 11], [], [], fun _ v => v = .pointer (some ⟨g4, 8, none⟩), fun _ v => []⟩, ⟨[0, 1, 2, 3, 4, 5, 6, 7, 8, 9, 10, 11, 12], [], [], fun _ v => v = .slice at1 ts.length ct1, fun _ v => []⟩, ⟨[0, 1, 2, 3, 4, 5, 6, 7, 8, 9, 10, 11, 12, 13], [], [], fun _ v => v = .string (strB ts), fun _ v => []⟩, ⟨[0, 1, 2, 3, 4, 5, 6, 7, 8, 9, 10, 11], [], [], fun _ v => v = (.slice a5 X.length c5), fun _ v => []⟩, ⟨[0, 1, 2, 3, 4, 5, 6, 7, 8, 9, 10, 11], [], [], fun _ v => v = (.slice a5 X.length c5), fun _ v => []⟩, ⟨[0, 1, 2, 3, 4, 5, 6, 7, 8, 9, 10, 11, 16], [], [], fun _ v => v = .int .i64 (X.length : Int), fun _ v => []⟩, ⟨[0, 1, 2, 3, 4, 5, 6, 7, 8, 9, 10, 11, 16, 17], [], [], fun _ v => v = .int .i64 (q : Int), fun _ v => []⟩, ⟨[0, 1, 2, 3, 4, 5, 6, 7, 8, 9, 10, 11, 16, 17, 18], [], [], fun _ v => v = .int .i64 ((64 * q : Nat) : Int), fun _ v => []⟩, ⟨[0, 1, 2, 3, 4, 5, 6, 7, 8, 9, 10, 11, 15, 16, 17, 18, 19], [], [], fun _ v => v = .slice (cutA a5 c5 (64 * q) 1) (X.length - 64 * q) (c5 - 64 * q), fun _ v => []⟩, ⟨[0, 1, 2, 3, 4, 5, 6, 7, 8, 9, 10, 11, 15, 16, 17, 18, 19, 20], [], [], fun _ v => v = .string (strB ts), fun _ v => []⟩, ⟨[0, 1, 2, 3, 4, 5, 6, 7, 8, 9, 10, 11, 12, 13, 14, 15, 16, 17, 18, 19, 20, 21], [], [], fun _ v => v = .bool false, fun _ v => []⟩, ⟨[0, 1, 2, 3, 4, 5, 6, 7, 8, 9, 10, 11, 12, 13, 14, 15, 16, 17, 18, 19, 20, 21, 22], [], [], fun _ v => v = .bool false, fun _ v => []⟩] ?A3 ?hA3 (by kernel_rfl) (by kernel_rfl) (by kernel_rfl) [0, 1, 2, 3, 4, 5, 6, 7, 8, 9, 10, 11, 12, 13, 14, 15, 16, 17, 18, 19, 20, 21, 22, 23] (by kernel_rfl) ?hok3 ?fin3
      case hA3 => intro u; simp only [putAll, List.length_cons, List.length_nil, Nat.zero_add, Nat.reduceAdd, dstAt, List.getElem?_toArray, List.getElem?_cons_zero, List.getElem?_cons_succ, Option.bind_some, Act.put, List.setIfInBounds_toArray, List.set_cons_zero, List.set_cons_succ]; rfl
      case hok3 =>
        intro i hi
        obtain rfl | rfl | rfl | rfl | rfl | rfl | rfl | rfl | rfl | rfl | rfl | rfl | rfl | rfl | rfl | rfl | rfl | rfl | rfl | rfl | rfl | rfl | rfl | rfl : i = 0 ∨ i = 1 ∨ i = 2 ∨ i = 3 ∨ i = 4 ∨ i = 5 ∨ i = 6 ∨ i = 7 ∨ i = 8 ∨ i = 9 ∨ i = 10 ∨ i = 11 ∨ i = 12 ∨ i = 13 ∨ i = 14 ∨ i = 15 ∨ i = 16 ∨ i = 17 ∨ i = 18 ∨ i = 19 ∨ i = 20 ∨ i = 21 ∨ i = 22 ∨ i = 23 := by simp only [List.length_cons, List.length_nil, Nat.zero_add, Nat.reduceAdd] at hi; omega
        · clear hi
          refine step_of rfl rfl rfl ?_
          intro u G w hf S
          simp only [resOf, spec, RSpec.resAt, List.getD_cons_zero, List.getD_cons_succ, List.flatMap_cons, List.flatMap_nil, List.nil_append, List.cons_append, List.append_nil, List.append_assoc, ptrBlk] at S ⊢
          refine does_load 30 (.tmp 4) g4 rfl _ _ _ (S.get (r := blk g4 _) (by (repeat (first | exact Pick.head _ _ | apply Pick.tail)); first | done | fail)) _ Tryd.underlying30 rfl 10 (by kernel_rfl) (by first | rfl | (first | rfl | assumption | (exact Hid.out (by assumption)) | (rw [arr8_size]; first | rfl | assumption | (exact Hid.out (by assumption)) | exact fD_length _ _ _ | exact smD_length _ | exact sumD_length _ | exact List.length_replicate ..) | (simp [arr8_size]; done))) ?_; exact ⟨rfl, S⟩
        · clear hi
          refine step_of rfl rfl rfl ?_
          intro u G w hf S
          have f0 : u 0 = .agg (cellsH s (.slice at1 ts.length ct1) X.length) := hf 0 (by simp)
          simp only [resOf, spec, RSpec.resAt, List.getD_cons_zero, List.getD_cons_succ, List.flatMap_cons, List.flatMap_nil, List.nil_append, List.cons_append, List.append_nil, List.append_assoc, ptrBlk] at S ⊢
          simp only [f0]
          refine does_fn (args := [(.agg (cellsH s (.slice at1 ts.length ct1) X.length))]) Tryd.func21 (by kernel_rfl) (by kernel_rfl) (HCK.out _ _ w) rfl ?_
          rintro e w1 ⟨rfl, T⟩
          exact ⟨_, rfl, rfl, S.call T⟩
        · clear hi
          refine step_of rfl rfl rfl ?_
          intro u G w hf S
          have f0 : u 0 = .agg (cellsH s (.slice at1 ts.length ct1) X.length) := hf 0 (by simp)
          have f1 : u 1 = .int .i64 0 := hf 1 (by simp)
          simp only [resOf, spec, RSpec.resAt, List.getD_cons_zero, List.getD_cons_succ, List.flatMap_cons, List.flatMap_nil, List.nil_append, List.cons_append, List.append_nil, List.append_assoc, ptrBlk] at S ⊢
          simp only [f0, f1]
          simp only [does]
          go_simp
          try exact S
        · clear hi
          refine step_of rfl rfl rfl ?_
          intro u G w hf S
          have f0 : u 0 = .agg (cellsH s (.slice at1 ts.length ct1) X.length) := hf 0 (by simp)
          have f1 : u 1 = .int .i64 0 := hf 1 (by simp)
          have f2 : u 2 = .bool false := hf 2 (by simp)
          simp only [resOf, spec, RSpec.resAt, List.getD_cons_zero, List.getD_cons_succ, List.flatMap_cons, List.flatMap_nil, List.nil_append, List.cons_append, List.append_nil, List.append_assoc, ptrBlk] at S ⊢
          simp only [f0, f1, f2]
          simp only [does]
          go_simp
          try exact S
        · clear hi
          refine step_of_g rfl rfl ?_
          intro u G w hf S
          have f0 : u 0 = .agg (cellsH s (.slice at1 ts.length ct1) X.length) := hf 0 (by simp)
          have f1 : u 1 = .int .i64 0 := hf 1 (by simp)
          have f2 : u 2 = .bool false := hf 2 (by simp)
          have f3 : u 3 = (.bool false) := hf 3 (by simp)
          simp only [resOf, spec, RSpec.resAt, List.getD_cons_zero, List.getD_cons_succ, List.flatMap_cons, List.flatMap_nil, List.nil_append, List.cons_append, List.append_nil, List.append_assoc, ptrBlk] at S ⊢
          simp only [f0, f1, f2, f3]
          refine ⟨rfl, ?_⟩
          simp only [does]
          go_simp
          try exact S
        · clear hi
          refine step_of_g rfl rfl ?_
          intro u G w hf S
          have f0 : u 0 = .agg (cellsH s (.slice at1 ts.length ct1) X.length) := hf 0 (by simp)
          have f1 : u 1 = .int .i64 0 := hf 1 (by simp)
          have f2 : u 2 = .bool false := hf 2 (by simp)
          have f3 : u 3 = (.bool false) := hf 3 (by simp)
          have f4 : u 4 = .pointer (some ⟨g4, 9, none⟩) := hf 4 (by simp)
          simp only [resOf, spec, RSpec.resAt, List.getD_cons_zero, List.getD_cons_succ, List.flatMap_cons, List.flatMap_nil, List.nil_append, List.cons_append, List.append_nil, List.append_assoc, ptrBlk] at S ⊢
          simp only [f0, f1, f2, f3, f4]
          refine ⟨rfl, ?_⟩
          refine does_load1 28 (.tmp 59) _ _ rfl (S.cell (g := g4) (by (repeat (first | exact Pick.head _ _ | apply Pick.tail)); first | done | fail) (by (first | assumption | (exact Hid.out (by assumption)) | exact cellsH_t .. | exact cellsH_n .. | (simp only [List.setIfInBounds_toArray, List.set_cons_zero, List.set_cons_succ, List.getElem?_toArray, List.getElem?_cons_zero, List.getElem?_cons_succ]; rfl) | rfl))) _ Tryd.underlying28 rfl ?_; exact ⟨rfl, S⟩
        · clear hi
          refine step_of_g rfl rfl ?_
          intro u G w hf S
          have f0 : u 0 = .agg (cellsH s (.slice at1 ts.length ct1) X.length) := hf 0 (by simp)
          have f1 : u 1 = .int .i64 0 := hf 1 (by simp)
          have f2 : u 2 = .bool false := hf 2 (by simp)
          have f3 : u 3 = (.bool false) := hf 3 (by simp)
          simp only [resOf, spec, RSpec.resAt, List.getD_cons_zero, List.getD_cons_succ, List.flatMap_cons, List.flatMap_nil, List.nil_append, List.cons_append, List.append_nil, List.append_assoc, ptrBlk] at S ⊢
          simp only [f0, f1, f2, f3]
          refine ⟨rfl, ?_⟩
          simp only [does]
          go_simp
          try exact S
        · clear hi
          refine step_of_g rfl rfl ?_
          intro u G w hf S
          have f0 : u 0 = .agg (cellsH s (.slice at1 ts.length ct1) X.length) := hf 0 (by simp)
          have f1 : u 1 = .int .i64 0 := hf 1 (by simp)
          have f2 : u 2 = .bool false := hf 2 (by simp)
          have f3 : u 3 = (.bool false) := hf 3 (by simp)
          have f6 : u 6 = (.slice a5 X.length c5) := hf 6 (by simp)
          simp only [resOf, spec, RSpec.resAt, List.getD_cons_zero, List.getD_cons_succ, List.flatMap_cons, List.flatMap_nil, List.nil_append, List.cons_append, List.append_nil, List.append_assoc, ptrBlk] at S ⊢
          simp only [f0, f1, f2, f3, f6]
          refine ⟨rfl, ?_⟩
          simp only [does]
          go_simp
          try exact S
        · clear hi
          refine step_of_g rfl rfl ?_
          intro u G w hf S
          have f0 : u 0 = .agg (cellsH s (.slice at1 ts.length ct1) X.length) := hf 0 (by simp)
          have f1 : u 1 = .int .i64 0 := hf 1 (by simp)
          have f2 : u 2 = .bool false := hf 2 (by simp)
          have f3 : u 3 = (.bool false) := hf 3 (by simp)
          have f6 : u 6 = (.slice a5 X.length c5) := hf 6 (by simp)
          have f7 : u 7 = .int .i64 (X.length : Int) := hf 7 (by simp)
          simp only [resOf, spec, RSpec.resAt, List.getD_cons_zero, List.getD_cons_succ, List.flatMap_cons, List.flatMap_nil, List.nil_append, List.cons_append, List.append_nil, List.append_assoc, ptrBlk] at S ⊢
          simp only [f0, f1, f2, f3, f6, f7]
          refine ⟨rfl, ?_⟩
          simp only [does]; go_simp; first | (refine ⟨?_, S⟩; rw [IntKind.wrap_u64]; omega) | (rw [IntKind.wrap_u64]; omega)
        · clear hi
          refine step_of_g rfl rfl ?_
          intro u G w hf S
          have f0 : u 0 = .agg (cellsH s (.slice at1 ts.length ct1) X.length) := hf 0 (by simp)
          have f1 : u 1 = .int .i64 0 := hf 1 (by simp)
          have f2 : u 2 = .bool false := hf 2 (by simp)
          have f3 : u 3 = (.bool false) := hf 3 (by simp)
          have f4 : u 4 = .pointer (some ⟨g4, 9, none⟩) := hf 4 (by simp)
          have f5 : u 5 = .int .u64 (X.length : Int) := hf 5 (by simp)
          have f6 : u 6 = (.slice a5 X.length c5) := hf 6 (by simp)
          have f7 : u 7 = .int .i64 (X.length : Int) := hf 7 (by simp)
          have f8 : u 8 = .int .u64 (X.length : Int) := hf 8 (by simp)
          simp only [resOf, spec, RSpec.resAt, List.getD_cons_zero, List.getD_cons_succ, List.flatMap_cons, List.flatMap_nil, List.nil_append, List.cons_append, List.append_nil, List.append_assoc, ptrBlk] at S ⊢
          simp only [f0, f1, f2, f3, f4, f5, f6, f7, f8]
          refine ⟨rfl, ?_⟩
          simp only [does]
          go_simp
          try exact S
        · clear hi
          refine step_of rfl rfl rfl ?_
          intro u G w hf S
          have f0 : u 0 = .agg (cellsH s (.slice at1 ts.length ct1) X.length) := hf 0 (by simp)
          have f1 : u 1 = .int .i64 0 := hf 1 (by simp)
          have f2 : u 2 = .bool false := hf 2 (by simp)
          have f3 : u 3 = (.bool false) := hf 3 (by simp)
          have f4 : u 4 = .pointer (some ⟨g4, 9, none⟩) := hf 4 (by simp)
          have f5 : u 5 = .int .u64 (X.length : Int) := hf 5 (by simp)
          have f6 : u 6 = (.slice a5 X.length c5) := hf 6 (by simp)
          have f7 : u 7 = .int .i64 (X.length : Int) := hf 7 (by simp)
          have f8 : u 8 = .int .u64 (X.length : Int) := hf 8 (by simp)
          have f9 : u 9 = .bool false := hf 9 (by simp)
          simp only [resOf, spec, RSpec.resAt, List.getD_cons_zero, List.getD_cons_succ, List.flatMap_cons, List.flatMap_nil, List.nil_append, List.cons_append, List.append_nil, List.append_assoc, ptrBlk] at S ⊢
          simp only [f0, f1, f2, f3, f4, f5, f6, f7, f8, f9]
          simp only [does]
          go_simp
          try exact S
        · clear hi
          refine step_of rfl rfl rfl ?_
          intro u G w hf S
          have f0 : u 0 = .agg (cellsH s (.slice at1 ts.length ct1) X.length) := hf 0 (by simp)
          have f1 : u 1 = .int .i64 0 := hf 1 (by simp)
          have f2 : u 2 = .bool false := hf 2 (by simp)
          have f3 : u 3 = (.bool false) := hf 3 (by simp)
          have f4 : u 4 = .pointer (some ⟨g4, 9, none⟩) := hf 4 (by simp)
          have f5 : u 5 = .int .u64 (X.length : Int) := hf 5 (by simp)
          have f6 : u 6 = (.slice a5 X.length c5) := hf 6 (by simp)
          have f7 : u 7 = .int .i64 (X.length : Int) := hf 7 (by simp)
          have f8 : u 8 = .int .u64 (X.length : Int) := hf 8 (by simp)
          have f9 : u 9 = .bool false := hf 9 (by simp)
          have f10 : u 10 = .bool false := hf 10 (by simp)
          simp only [resOf, spec, RSpec.resAt, List.getD_cons_zero, List.getD_cons_succ, List.flatMap_cons, List.flatMap_nil, List.nil_append, List.cons_append, List.append_nil, List.append_assoc, ptrBlk] at S ⊢
          simp only [f0, f1, f2, f3, f4, f5, f6, f7, f8, f9, f10]
          simp only [does]
          go_simp
          try exact S
        · clear hi
          refine step_of_g rfl rfl ?_
          intro u G w hf S
          have f0 : u 0 = .agg (cellsH s (.slice at1 ts.length ct1) X.length) := hf 0 (by simp)
          have f1 : u 1 = .int .i64 0 := hf 1 (by simp)
          have f2 : u 2 = .bool false := hf 2 (by simp)
          have f3 : u 3 = (.bool false) := hf 3 (by simp)
          have f4 : u 4 = .pointer (some ⟨g4, 9, none⟩) := hf 4 (by simp)
          have f5 : u 5 = .int .u64 (X.length : Int) := hf 5 (by simp)
          have f6 : u 6 = (.slice a5 X.length c5) := hf 6 (by simp)
          have f7 : u 7 = .int .i64 (X.length : Int) := hf 7 (by simp)
          have f8 : u 8 = .int .u64 (X.length : Int) := hf 8 (by simp)
          have f9 : u 9 = .bool false := hf 9 (by simp)
          have f10 : u 10 = .bool false := hf 10 (by simp)
          have f11 : u 11 = (.bool false) := hf 11 (by simp)
          simp only [resOf, spec, RSpec.resAt, List.getD_cons_zero, List.getD_cons_succ, List.flatMap_cons, List.flatMap_nil, List.nil_append, List.cons_append, List.append_nil, List.append_assoc, ptrBlk] at S ⊢
          simp only [f0, f1, f2, f3, f4, f5, f6, f7, f8, f9, f10, f11]
          refine ⟨rfl, ?_⟩
          simp only [does]
          go_simp
          try exact S
        · clear hi
          refine step_of_g rfl rfl ?_
          intro u G w hf S
          have f0 : u 0 = .agg (cellsH s (.slice at1 ts.length ct1) X.length) := hf 0 (by simp)
          have f1 : u 1 = .int .i64 0 := hf 1 (by simp)
          have f2 : u 2 = .bool false := hf 2 (by simp)
          have f3 : u 3 = (.bool false) := hf 3 (by simp)
          have f4 : u 4 = .pointer (some ⟨g4, 9, none⟩) := hf 4 (by simp)
          have f5 : u 5 = .int .u64 (X.length : Int) := hf 5 (by simp)
          have f6 : u 6 = (.slice a5 X.length c5) := hf 6 (by simp)
          have f7 : u 7 = .int .i64 (X.length : Int) := hf 7 (by simp)
          have f8 : u 8 = .int .u64 (X.length : Int) := hf 8 (by simp)
          have f9 : u 9 = .bool false := hf 9 (by simp)
          have f10 : u 10 = .bool false := hf 10 (by simp)
          have f11 : u 11 = (.bool false) := hf 11 (by simp)
          have f12 : u 12 = .pointer (some ⟨g4, 8, none⟩) := hf 12 (by simp)
          simp only [resOf, spec, RSpec.resAt, List.getD_cons_zero, List.getD_cons_succ, List.flatMap_cons, List.flatMap_nil, List.nil_append, List.cons_append, List.append_nil, List.append_assoc, ptrBlk] at S ⊢
          simp only [f0, f1, f2, f3, f4, f5, f6, f7, f8, f9, f10, f11, f12]
          refine ⟨rfl, ?_⟩
          refine does_load1 27 (.tmp 67) _ _ rfl (S.cell (g := g4) (by (repeat (first | exact Pick.head _ _ | apply Pick.tail)); first | done | fail) (by (first | assumption | (exact Hid.out (by assumption)) | exact cellsH_t .. | exact cellsH_n .. | (simp only [List.setIfInBounds_toArray, List.set_cons_zero, List.set_cons_succ, List.getElem?_toArray, List.getElem?_cons_zero, List.getElem?_cons_succ]; rfl) | rfl))) _ Tryd.underlying27 rfl ?_; exact ⟨rfl, S⟩
        · clear hi
          refine step_of_g rfl rfl ?_
          intro u G w hf S
          have f0 : u 0 = .agg (cellsH s (.slice at1 ts.length ct1) X.length) := hf 0 (by simp)
          have f1 : u 1 = .int .i64 0 := hf 1 (by simp)
          have f2 : u 2 = .bool false := hf 2 (by simp)
          have f3 : u 3 = (.bool false) := hf 3 (by simp)
          have f4 : u 4 = .pointer (some ⟨g4, 9, none⟩) := hf 4 (by simp)
          have f5 : u 5 = .int .u64 (X.length : Int) := hf 5 (by simp)
          have f6 : u 6 = (.slice a5 X.length c5) := hf 6 (by simp)
          have f7 : u 7 = .int .i64 (X.length : Int) := hf 7 (by simp)
          have f8 : u 8 = .int .u64 (X.length : Int) := hf 8 (by simp)
          have f9 : u 9 = .bool false := hf 9 (by simp)
          have f10 : u 10 = .bool false := hf 10 (by simp)
          have f11 : u 11 = (.bool false) := hf 11 (by simp)
          have f12 : u 12 = .pointer (some ⟨g4, 8, none⟩) := hf 12 (by simp)
          have f13 : u 13 = .slice at1 ts.length ct1 := hf 13 (by simp)
          simp only [resOf, spec, RSpec.resAt, List.getD_cons_zero, List.getD_cons_succ, List.flatMap_cons, List.flatMap_nil, List.nil_append, List.cons_append, List.append_nil, List.append_assoc, ptrBlk] at S ⊢
          simp only [f0, f1, f2, f3, f4, f5, f6, f7, f8, f9, f10, f11, f12, f13]
          refine ⟨rfl, ?_⟩
          refine does_conv 27 9 5 (.tmp 68) _ _ rfl Tryd.underlying27 Tryd.underlying5 Tryd.underlying9 (by first | assumption | exact S.oldB (Hid.out (by assumption)) | exact Bs.mk0 _ _ | exact S.bs (by (repeat (first | exact Pick.head _ _ | apply Pick.tail)); first | done | fail) | exact S.bsr (by (repeat (first | exact Pick.head _ _ | apply Pick.tail)); first | done | fail)) ?_; exact ⟨rfl, S⟩
        · clear hi
          refine step_of_g rfl rfl ?_
          intro u G w hf S
          have f0 : u 0 = .agg (cellsH s (.slice at1 ts.length ct1) X.length) := hf 0 (by simp)
          have f1 : u 1 = .int .i64 0 := hf 1 (by simp)
          have f2 : u 2 = .bool false := hf 2 (by simp)
          have f3 : u 3 = (.bool false) := hf 3 (by simp)
          have f4 : u 4 = .pointer (some ⟨g4, 9, none⟩) := hf 4 (by simp)
          have f5 : u 5 = .int .u64 (X.length : Int) := hf 5 (by simp)
          have f6 : u 6 = (.slice a5 X.length c5) := hf 6 (by simp)
          have f7 : u 7 = .int .i64 (X.length : Int) := hf 7 (by simp)
          have f8 : u 8 = .int .u64 (X.length : Int) := hf 8 (by simp)
          have f9 : u 9 = .bool false := hf 9 (by simp)
          have f10 : u 10 = .bool false := hf 10 (by simp)
          have f11 : u 11 = (.bool false) := hf 11 (by simp)
          simp only [resOf, spec, RSpec.resAt, List.getD_cons_zero, List.getD_cons_succ, List.flatMap_cons, List.flatMap_nil, List.nil_append, List.cons_append, List.append_nil, List.append_assoc, ptrBlk] at S ⊢
          simp only [f0, f1, f2, f3, f4, f5, f6, f7, f8, f9, f10, f11]
          refine ⟨rfl, ?_⟩
          simp only [does]
          go_simp
          try exact S
        · clear hi
          refine step_of_g rfl rfl ?_
          intro u G w hf S
          have f0 : u 0 = .agg (cellsH s (.slice at1 ts.length ct1) X.length) := hf 0 (by simp)
          have f1 : u 1 = .int .i64 0 := hf 1 (by simp)
          have f2 : u 2 = .bool false := hf 2 (by simp)
          have f3 : u 3 = (.bool false) := hf 3 (by simp)
          have f4 : u 4 = .pointer (some ⟨g4, 9, none⟩) := hf 4 (by simp)
          have f5 : u 5 = .int .u64 (X.length : Int) := hf 5 (by simp)
          have f6 : u 6 = (.slice a5 X.length c5) := hf 6 (by simp)
          have f7 : u 7 = .int .i64 (X.length : Int) := hf 7 (by simp)
          have f8 : u 8 = .int .u64 (X.length : Int) := hf 8 (by simp)
          have f9 : u 9 = .bool false := hf 9 (by simp)
          have f10 : u 10 = .bool false := hf 10 (by simp)
          have f11 : u 11 = (.bool false) := hf 11 (by simp)
          simp only [resOf, spec, RSpec.resAt, List.getD_cons_zero, List.getD_cons_succ, List.flatMap_cons, List.flatMap_nil, List.nil_append, List.cons_append, List.append_nil, List.append_assoc, ptrBlk] at S ⊢
          simp only [f0, f1, f2, f3, f4, f5, f6, f7, f8, f9, f10, f11]
          refine ⟨rfl, ?_⟩
          simp only [does]
          go_simp
          try exact S
        · clear hi
          refine step_of_g rfl rfl ?_
          intro u G w hf S
          have f0 : u 0 = .agg (cellsH s (.slice at1 ts.length ct1) X.length) := hf 0 (by simp)
          have f1 : u 1 = .int .i64 0 := hf 1 (by simp)
          have f2 : u 2 = .bool false := hf 2 (by simp)
          have f3 : u 3 = (.bool false) := hf 3 (by simp)
          have f4 : u 4 = .pointer (some ⟨g4, 9, none⟩) := hf 4 (by simp)
          have f5 : u 5 = .int .u64 (X.length : Int) := hf 5 (by simp)
          have f6 : u 6 = (.slice a5 X.length c5) := hf 6 (by simp)
          have f7 : u 7 = .int .i64 (X.length : Int) := hf 7 (by simp)
          have f8 : u 8 = .int .u64 (X.length : Int) := hf 8 (by simp)
          have f9 : u 9 = .bool false := hf 9 (by simp)
          have f10 : u 10 = .bool false := hf 10 (by simp)
          have f11 : u 11 = (.bool false) := hf 11 (by simp)
          have f16 : u 16 = (.slice a5 X.length c5) := hf 16 (by simp)
          simp only [resOf, spec, RSpec.resAt, List.getD_cons_zero, List.getD_cons_succ, List.flatMap_cons, List.flatMap_nil, List.nil_append, List.cons_append, List.append_nil, List.append_assoc, ptrBlk] at S ⊢
          simp only [f0, f1, f2, f3, f4, f5, f6, f7, f8, f9, f10, f11, f16]
          refine ⟨rfl, ?_⟩
          simp only [does]
          go_simp
          try exact S
        · clear hi
          refine step_of_g rfl rfl ?_
          intro u G w hf S
          have f0 : u 0 = .agg (cellsH s (.slice at1 ts.length ct1) X.length) := hf 0 (by simp)
          have f1 : u 1 = .int .i64 0 := hf 1 (by simp)
          have f2 : u 2 = .bool false := hf 2 (by simp)
          have f3 : u 3 = (.bool false) := hf 3 (by simp)
          have f4 : u 4 = .pointer (some ⟨g4, 9, none⟩) := hf 4 (by simp)
          have f5 : u 5 = .int .u64 (X.length : Int) := hf 5 (by simp)
          have f6 : u 6 = (.slice a5 X.length c5) := hf 6 (by simp)
          have f7 : u 7 = .int .i64 (X.length : Int) := hf 7 (by simp)
          have f8 : u 8 = .int .u64 (X.length : Int) := hf 8 (by simp)
          have f9 : u 9 = .bool false := hf 9 (by simp)
          have f10 : u 10 = .bool false := hf 10 (by simp)
          have f11 : u 11 = (.bool false) := hf 11 (by simp)
          have f16 : u 16 = (.slice a5 X.length c5) := hf 16 (by simp)
          have f17 : u 17 = .int .i64 (X.length : Int) := hf 17 (by simp)
          simp only [resOf, spec, RSpec.resAt, List.getD_cons_zero, List.getD_cons_succ, List.flatMap_cons, List.flatMap_nil, List.nil_append, List.cons_append, List.append_nil, List.append_assoc, ptrBlk] at S ⊢
          simp only [f0, f1, f2, f3, f4, f5, f6, f7, f8, f9, f10, f11, f16, f17]
          refine ⟨rfl, ?_⟩
          simp only [does]; go_simp; first | (refine ⟨?_, S⟩; rw [IntWalk.i64_in _ (by omega)]; omega) | (rw [IntWalk.i64_in _ (by omega)]; omega)
        · clear hi
          refine step_of_g rfl rfl ?_
          intro u G w hf S
          have f0 : u 0 = .agg (cellsH s (.slice at1 ts.length ct1) X.length) := hf 0 (by simp)
          have f1 : u 1 = .int .i64 0 := hf 1 (by simp)
          have f2 : u 2 = .bool false := hf 2 (by simp)
          have f3 : u 3 = (.bool false) := hf 3 (by simp)
          have f4 : u 4 = .pointer (some ⟨g4, 9, none⟩) := hf 4 (by simp)
          have f5 : u 5 = .int .u64 (X.length : Int) := hf 5 (by simp)
          have f6 : u 6 = (.slice a5 X.length c5) := hf 6 (by simp)
          have f7 : u 7 = .int .i64 (X.length : Int) := hf 7 (by simp)
          have f8 : u 8 = .int .u64 (X.length : Int) := hf 8 (by simp)
          have f9 : u 9 = .bool false := hf 9 (by simp)
          have f10 : u 10 = .bool false := hf 10 (by simp)
          have f11 : u 11 = (.bool false) := hf 11 (by simp)
          have f16 : u 16 = (.slice a5 X.length c5) := hf 16 (by simp)
          have f17 : u 17 = .int .i64 (X.length : Int) := hf 17 (by simp)
          have f18 : u 18 = .int .i64 (q : Int) := hf 18 (by simp)
          simp only [resOf, spec, RSpec.resAt, List.getD_cons_zero, List.getD_cons_succ, List.flatMap_cons, List.flatMap_nil, List.nil_append, List.cons_append, List.append_nil, List.append_assoc, ptrBlk] at S ⊢
          simp only [f0, f1, f2, f3, f4, f5, f6, f7, f8, f9, f10, f11, f16, f17, f18]
          refine ⟨rfl, ?_⟩
          simp only [does]; go_simp; first | (refine ⟨?_, S⟩; rw [IntWalk.i64_in _ (by omega)]; omega) | (rw [IntWalk.i64_in _ (by omega)]; omega)
        · clear hi
          refine step_of_g rfl rfl ?_
          intro u G w hf S
          have f0 : u 0 = .agg (cellsH s (.slice at1 ts.length ct1) X.length) := hf 0 (by simp)
          have f1 : u 1 = .int .i64 0 := hf 1 (by simp)
          have f2 : u 2 = .bool false := hf 2 (by simp)
          have f3 : u 3 = (.bool false) := hf 3 (by simp)
          have f4 : u 4 = .pointer (some ⟨g4, 9, none⟩) := hf 4 (by simp)
          have f5 : u 5 = .int .u64 (X.length : Int) := hf 5 (by simp)
          have f6 : u 6 = (.slice a5 X.length c5) := hf 6 (by simp)
          have f7 : u 7 = .int .i64 (X.length : Int) := hf 7 (by simp)
          have f8 : u 8 = .int .u64 (X.length : Int) := hf 8 (by simp)
          have f9 : u 9 = .bool false := hf 9 (by simp)
          have f10 : u 10 = .bool false := hf 10 (by simp)
          have f11 : u 11 = (.bool false) := hf 11 (by simp)
          have f15 : u 15 = (.slice a5 X.length c5) := hf 15 (by simp)
          have f16 : u 16 = (.slice a5 X.length c5) := hf 16 (by simp)
          have f17 : u 17 = .int .i64 (X.length : Int) := hf 17 (by simp)
          have f18 : u 18 = .int .i64 (q : Int) := hf 18 (by simp)
          have f19 : u 19 = .int .i64 ((64 * q : Nat) : Int) := hf 19 (by simp)
          simp only [resOf, spec, RSpec.resAt, List.getD_cons_zero, List.getD_cons_succ, List.flatMap_cons, List.flatMap_nil, List.nil_append, List.cons_append, List.append_nil, List.append_assoc, ptrBlk] at S ⊢
          simp only [f0, f1, f2, f3, f4, f5, f6, f7, f8, f9, f10, f11, f15, f16, f17, f18, f19]
          refine ⟨rfl, ?_⟩
          refine does_cutL 27 5 1 (.tmp 70) (.tmp 74) _ _ _ _ _ (64 * q) rfl rfl rfl (by omega) Tryd.underlying27 (by kernel_rfl) ?_; exact ⟨rfl, S⟩
        · clear hi
          refine step_of_g rfl rfl ?_
          intro u G w hf S
          have f0 : u 0 = .agg (cellsH s (.slice at1 ts.length ct1) X.length) := hf 0 (by simp)
          have f1 : u 1 = .int .i64 0 := hf 1 (by simp)
          have f2 : u 2 = .bool false := hf 2 (by simp)
          have f3 : u 3 = (.bool false) := hf 3 (by simp)
          have f4 : u 4 = .pointer (some ⟨g4, 9, none⟩) := hf 4 (by simp)
          have f5 : u 5 = .int .u64 (X.length : Int) := hf 5 (by simp)
          have f6 : u 6 = (.slice a5 X.length c5) := hf 6 (by simp)
          have f7 : u 7 = .int .i64 (X.length : Int) := hf 7 (by simp)
          have f8 : u 8 = .int .u64 (X.length : Int) := hf 8 (by simp)
          have f9 : u 9 = .bool false := hf 9 (by simp)
          have f10 : u 10 = .bool false := hf 10 (by simp)
          have f11 : u 11 = (.bool false) := hf 11 (by simp)
          have f15 : u 15 = (.slice a5 X.length c5) := hf 15 (by simp)
          have f16 : u 16 = (.slice a5 X.length c5) := hf 16 (by simp)
          have f17 : u 17 = .int .i64 (X.length : Int) := hf 17 (by simp)
          have f18 : u 18 = .int .i64 (q : Int) := hf 18 (by simp)
          have f19 : u 19 = .int .i64 ((64 * q : Nat) : Int) := hf 19 (by simp)
          have f20 : u 20 = .slice (cutA a5 c5 (64 * q) 1) (X.length - 64 * q) (c5 - 64 * q) := hf 20 (by simp)
          simp only [resOf, spec, RSpec.resAt, List.getD_cons_zero, List.getD_cons_succ, List.flatMap_cons, List.flatMap_nil, List.nil_append, List.cons_append, List.append_nil, List.append_assoc, ptrBlk] at S ⊢
          simp only [f0, f1, f2, f3, f4, f5, f6, f7, f8, f9, f10, f11, f15, f16, f17, f18, f19, f20]
          refine ⟨rfl, ?_⟩
          refine does_conv 27 9 5 (.tmp 75) _ _ rfl Tryd.underlying27 Tryd.underlying5 Tryd.underlying9 (show Bs w (.slice (cutA a5 c5 (64 * q) 1) (X.length - 64 * q) (c5 - 64 * q)) ts from by rw [← HCUT.out]; exact Bs.cut (S.bs (by (repeat (first | exact Pick.head _ _ | apply Pick.tail)); first | done | fail)) (64 * q) (X.length - 64 * q) (by omega) rfl) ?_; exact ⟨rfl, S⟩
        · clear hi
          refine step_of_g rfl rfl ?_
          intro u G w hf S
          have f0 : u 0 = .agg (cellsH s (.slice at1 ts.length ct1) X.length) := hf 0 (by simp)
          have f1 : u 1 = .int .i64 0 := hf 1 (by simp)
          have f2 : u 2 = .bool false := hf 2 (by simp)
          have f3 : u 3 = (.bool false) := hf 3 (by simp)
          have f4 : u 4 = .pointer (some ⟨g4, 9, none⟩) := hf 4 (by simp)
          have f5 : u 5 = .int .u64 (X.length : Int) := hf 5 (by simp)
          have f6 : u 6 = (.slice a5 X.length c5) := hf 6 (by simp)
          have f7 : u 7 = .int .i64 (X.length : Int) := hf 7 (by simp)
          have f8 : u 8 = .int .u64 (X.length : Int) := hf 8 (by simp)
          have f9 : u 9 = .bool false := hf 9 (by simp)
          have f10 : u 10 = .bool false := hf 10 (by simp)
          have f11 : u 11 = (.bool false) := hf 11 (by simp)
          have f12 : u 12 = .pointer (some ⟨g4, 8, none⟩) := hf 12 (by simp)
          have f13 : u 13 = .slice at1 ts.length ct1 := hf 13 (by simp)
          have f14 : u 14 = .string (strB ts) := hf 14 (by simp)
          have f15 : u 15 = (.slice a5 X.length c5) := hf 15 (by simp)
          have f16 : u 16 = (.slice a5 X.length c5) := hf 16 (by simp)
          have f17 : u 17 = .int .i64 (X.length : Int) := hf 17 (by simp)
          have f18 : u 18 = .int .i64 (q : Int) := hf 18 (by simp)
          have f19 : u 19 = .int .i64 ((64 * q : Nat) : Int) := hf 19 (by simp)
          have f20 : u 20 = .slice (cutA a5 c5 (64 * q) 1) (X.length - 64 * q) (c5 - 64 * q) := hf 20 (by simp)
          have f21 : u 21 = .string (strB ts) := hf 21 (by simp)
          simp only [resOf, spec, RSpec.resAt, List.getD_cons_zero, List.getD_cons_succ, List.flatMap_cons, List.flatMap_nil, List.nil_append, List.cons_append, List.append_nil, List.append_assoc, ptrBlk] at S ⊢
          simp only [f0, f1, f2, f3, f4, f5, f6, f7, f8, f9, f10, f11, f12, f13, f14, f15, f16, f17, f18, f19, f20, f21]
          refine ⟨rfl, ?_⟩
          simp only [does]
          go_simp
          try exact S
        · clear hi
          refine step_of rfl rfl rfl ?_
          intro u G w hf S
          have f0 : u 0 = .agg (cellsH s (.slice at1 ts.length ct1) X.length) := hf 0 (by simp)
          have f1 : u 1 = .int .i64 0 := hf 1 (by simp)
          have f2 : u 2 = .bool false := hf 2 (by simp)
          have f3 : u 3 = (.bool false) := hf 3 (by simp)
          have f4 : u 4 = .pointer (some ⟨g4, 9, none⟩) := hf 4 (by simp)
          have f5 : u 5 = .int .u64 (X.length : Int) := hf 5 (by simp)
          have f6 : u 6 = (.slice a5 X.length c5) := hf 6 (by simp)
          have f7 : u 7 = .int .i64 (X.length : Int) := hf 7 (by simp)
          have f8 : u 8 = .int .u64 (X.length : Int) := hf 8 (by simp)
          have f9 : u 9 = .bool false := hf 9 (by simp)
          have f10 : u 10 = .bool false := hf 10 (by simp)
          have f11 : u 11 = (.bool false) := hf 11 (by simp)
          have f12 : u 12 = .pointer (some ⟨g4, 8, none⟩) := hf 12 (by simp)
          have f13 : u 13 = .slice at1 ts.length ct1 := hf 13 (by simp)
          have f14 : u 14 = .string (strB ts) := hf 14 (by simp)
          have f15 : u 15 = (.slice a5 X.length c5) := hf 15 (by simp)
          have f16 : u 16 = (.slice a5 X.length c5) := hf 16 (by simp)
          have f17 : u 17 = .int .i64 (X.length : Int) := hf 17 (by simp)
          have f18 : u 18 = .int .i64 (q : Int) := hf 18 (by simp)
          have f19 : u 19 = .int .i64 ((64 * q : Nat) : Int) := hf 19 (by simp)
          have f20 : u 20 = .slice (cutA a5 c5 (64 * q) 1) (X.length - 64 * q) (c5 - 64 * q) := hf 20 (by simp)
          have f21 : u 21 = .string (strB ts) := hf 21 (by simp)
          have f22 : u 22 = .bool false := hf 22 (by simp)
          simp only [resOf, spec, RSpec.resAt, List.getD_cons_zero, List.getD_cons_succ, List.flatMap_cons, List.flatMap_nil, List.nil_append, List.cons_append, List.append_nil, List.append_assoc, ptrBlk] at S ⊢
          simp only [f0, f1, f2, f3, f4, f5, f6, f7, f8, f9, f10, f11, f12, f13, f14, f15, f16, f17, f18, f19, f20, f21, f22]
          simp only [does]
          go_simp
          try exact S
      case fin3 =>
        intro u w hf S
        have f0 : u 0 = .agg (cellsH s (.slice at1 ts.length ct1) X.length) := hf 0 (by simp)
        have f1 : u 1 = .int .i64 0 := hf 1 (by simp)
        have f2 : u 2 = .bool false := hf 2 (by simp)
        have f3 : u 3 = (.bool false) := hf 3 (by simp)
        have f4 : u 4 = .pointer (some ⟨g4, 9, none⟩) := hf 4 (by simp)
        have f5 : u 5 = .int .u64 (X.length : Int) := hf 5 (by simp)
        have f6 : u 6 = (.slice a5 X.length c5) := hf 6 (by simp)
        have f7 : u 7 = .int .i64 (X.length : Int) := hf 7 (by simp)
        have f8 : u 8 = .int .u64 (X.length : Int) := hf 8 (by simp)
        have f9 : u 9 = .bool false := hf 9 (by simp)
        have f10 : u 10 = .bool false := hf 10 (by simp)
        have f11 : u 11 = (.bool false) := hf 11 (by simp)
        have f12 : u 12 = .pointer (some ⟨g4, 8, none⟩) := hf 12 (by simp)
        have f13 : u 13 = .slice at1 ts.length ct1 := hf 13 (by simp)
        have f14 : u 14 = .string (strB ts) := hf 14 (by simp)
        have f15 : u 15 = (.slice a5 X.length c5) := hf 15 (by simp)
        have f16 : u 16 = (.slice a5 X.length c5) := hf 16 (by simp)
        have f17 : u 17 = .int .i64 (X.length : Int) := hf 17 (by simp)
        have f18 : u 18 = .int .i64 (q : Int) := hf 18 (by simp)
        have f19 : u 19 = .int .i64 ((64 * q : Nat) : Int) := hf 19 (by simp)
        have f20 : u 20 = .slice (cutA a5 c5 (64 * q) 1) (X.length - 64 * q) (c5 - 64 * q) := hf 20 (by simp)
        have f21 : u 21 = .string (strB ts) := hf 21 (by simp)
        have f22 : u 22 = .bool false := hf 22 (by simp)
        have f23 : u 23 = .bool false := hf 23 (by simp)
        simp only [resOf, spec, RSpec.resAt, List.getD_cons_zero, List.getD_cons_succ, List.flatMap_cons, List.flatMap_nil, List.nil_append, List.cons_append, List.append_nil, List.append_assoc, ptrBlk] at S
        clear hf
        simp only [List.length_cons, List.length_nil, Nat.zero_add, Nat.reduceAdd, List.drop_succ_cons, List.drop_zero, f0, f1, f2, f3, f4, f5, f6, f7, f8, f9, f10, f11, f12, f13, f14, f15, f16, f17, f18, f19, f20, f21, f22, f23]
        clear f0 f1 f2 f3 f4 f5 f6 f7 f8 f9 f10 f11 f12 f13 f14 f15 f16 f17 f18 f19 f20 f21 f22 f23
        go_wp2_with (first | (go_at_call 17; (with_reducible refine (start_s _).mono ?_); rintro e w1 ⟨rfl, T⟩; replace S := S.call T; clear T; (try simp only [List.nil_append, List.cons_append] at S)) | ((with_reducible show wpList _ _ _ (⟨some 4, .alloc 30, _, _, _, _⟩ :: _) _ _); refine step_alloc (dst := some 4) S 30 (.agg (cellsH stZ (.slice none 0 0) 0)) (cellsH stZ (.slice none 0 0) 0) (by kernel_rfl) rfl rfl ?_; clear S; intro g4 w S) | ((with_reducible show wpList _ _ _ (⟨none, .store 30 (.tmp 4) (.tmp 16), _, _, _, _⟩ :: _) _ _); refine step_store S 30 (.tmp 4) (.tmp 16) _ _ rfl rfl _ _ (by (repeat (first | exact Pick.head _ _ | apply Pick.tail)); first | done | fail) 10 (by kernel_rfl) (by first | rfl | (first | rfl | assumption | (exact Hid.out (by assumption)) | (rw [arr8_size]; first | rfl | assumption | (exact Hid.out (by assumption)) | exact fD_length _ _ _ | exact smD_length _ | exact sumD_length _ | exact List.length_replicate ..) | (simp [arr8_size]; done))) (by first | rfl | (first | rfl | assumption | (exact Hid.out (by assumption)) | (rw [arr8_size]; first | rfl | assumption | (exact Hid.out (by assumption)) | exact fD_length _ _ _ | exact smD_length _ | exact sumD_length _ | exact List.length_replicate ..) | (simp [arr8_size]; done))) (by (first | exact arr8_one _ | exact cellsH_one .. | rfl | (simp [U32_one, one_slice, one_int, one_bool]; done))) rfl ?_; clear S; intro w S) | ((with_reducible show wpList _ _ _ (⟨some 24, .load 30 (.tmp 4), _, _, _, _⟩ :: _) _ _); first | (refine step_load S 30 (.tmp 4) _ rfl _ _ _ (by (repeat (first | exact Pick.head _ _ | apply Pick.tail)); first | done | fail) _ Tryd.underlying30 rfl 10 (by kernel_rfl) (by first | rfl | (first | rfl | assumption | (exact Hid.out (by assumption)) | (rw [arr8_size]; first | rfl | assumption | (exact Hid.out (by assumption)) | exact fD_length _ _ _ | exact smD_length _ | exact sumD_length _ | exact List.length_replicate ..) | (simp [arr8_size]; done))) rfl ?_) | (refine step_loadO 30 (.tmp 4) _ rfl _ _ _ (S.old_heap (Hid.out (by assumption))) _ Tryd.underlying30 rfl 10 (by kernel_rfl) (by first | rfl | (first | rfl | assumption | (exact Hid.out (by assumption)) | (rw [arr8_size]; first | rfl | assumption | (exact Hid.out (by assumption)) | exact fD_length _ _ _ | exact smD_length _ | exact sumD_length _ | exact List.length_replicate ..) | (simp [arr8_size]; done))) rfl ?_)) | ((with_reducible show wpList _ _ _ (⟨some 28, .load 27 (.tmp 27), _, _, _, _⟩ :: _) _ _); first | (refine step_load1 27 (.tmp 27) _ _ rfl (S.cell (by (repeat (first | exact Pick.head _ _ | apply Pick.tail)); first | done | fail) (by (first | assumption | (exact Hid.out (by assumption)) | exact cellsH_t .. | exact cellsH_n .. | (simp only [List.setIfInBounds_toArray, List.set_cons_zero, List.set_cons_succ, List.getElem?_toArray, List.getElem?_cons_zero, List.getElem?_cons_succ]; rfl) | rfl))) _ Tryd.underlying27 rfl rfl ?_) | (refine step_load1 27 (.tmp 27) _ _ rfl (S.row_cell (by (repeat (first | exact Pick.head _ _ | apply Pick.tail)); first | done | fail) _ _ (by first | assumption | exact Hid.out (by assumption) | rfl)) _ Tryd.underlying27 rfl rfl ?_) | (refine step_load1 27 (.tmp 27) _ _ rfl (S.old_cell (by first | assumption | exact Hid.out (by assumption))) _ Tryd.underlying27 rfl rfl ?_)) | (go_at_call 19; (with_reducible refine (HWA.out _ _ (by first | assumption | exact S.oldB (Hid.out (by assumption)) | exact Bs.mk0 _ _ | exact S.bs (by (repeat (first | exact Pick.head _ _ | apply Pick.tail)); first | done | fail) | exact S.bsr (by (repeat (first | exact Pick.head _ _ | apply Pick.tail)); first | done | fail)) (S.kt (Hid.out (by assumption)))).mono ?_); rintro e w1 ⟨a82, c82, rfl, T⟩; replace S := S.call T; clear T; (try simp only [List.nil_append, List.cons_append] at S)) | ((with_reducible show wpList _ _ _ (⟨some 7, .alloc 30, _, _, _, _⟩ :: _) _ _); refine step_alloc (dst := some 7) S 30 (.agg (cellsH stZ (.slice none 0 0) 0)) (cellsH stZ (.slice none 0 0) 0) (by kernel_rfl) rfl rfl ?_; clear S; intro g7 w S) | ((with_reducible show wpList _ _ _ (⟨none, .store 30 (.tmp 7) (.tmp 30), _, _, _, _⟩ :: _) _ _); refine step_store S 30 (.tmp 7) (.tmp 30) _ _ rfl rfl _ _ (by (repeat (first | exact Pick.head _ _ | apply Pick.tail)); first | done | fail) 10 (by kernel_rfl) (by first | rfl | (first | rfl | assumption | (exact Hid.out (by assumption)) | (rw [arr8_size]; first | rfl | assumption | (exact Hid.out (by assumption)) | exact fD_length _ _ _ | exact smD_length _ | exact sumD_length _ | exact List.length_replicate ..) | (simp [arr8_size]; done))) (by first | rfl | (first | rfl | assumption | (exact Hid.out (by assumption)) | (rw [arr8_size]; first | rfl | assumption | (exact Hid.out (by assumption)) | exact fD_length _ _ _ | exact smD_length _ | exact sumD_length _ | exact List.length_replicate ..) | (simp [arr8_size]; done))) (by (first | exact arr8_one _ | exact cellsH_one .. | rfl | (simp [U32_one, one_slice, one_int, one_bool]; done))) rfl ?_; clear S; intro w S) | ((with_reducible show wpList _ _ _ (⟨some 35, .load 27 (.tmp 34), _, _, _, _⟩ :: _) _ _); first | (refine step_load1 27 (.tmp 34) _ _ rfl (S.cell (by (repeat (first | exact Pick.head _ _ | apply Pick.tail)); first | done | fail) (by (first | assumption | (exact Hid.out (by assumption)) | exact cellsH_t .. | exact cellsH_n .. | (simp only [List.setIfInBounds_toArray, List.set_cons_zero, List.set_cons_succ, List.getElem?_toArray, List.getElem?_cons_zero, List.getElem?_cons_succ]; rfl) | rfl))) _ Tryd.underlying27 rfl rfl ?_) | (refine step_load1 27 (.tmp 34) _ _ rfl (S.row_cell (by (repeat (first | exact Pick.head _ _ | apply Pick.tail)); first | done | fail) _ _ (by first | assumption | exact Hid.out (by assumption) | rfl)) _ Tryd.underlying27 rfl rfl ?_) | (refine step_load1 27 (.tmp 34) _ _ rfl (S.old_cell (by first | assumption | exact Hid.out (by assumption))) _ Tryd.underlying27 rfl rfl ?_)) | ((with_reducible show wpList _ _ _ (⟨some 52, .load 27 (.tmp 51), _, _, _, _⟩ :: _) _ _); first | (refine step_load1 27 (.tmp 51) _ _ rfl (S.cell (by (repeat (first | exact Pick.head _ _ | apply Pick.tail)); first | done | fail) (by (first | assumption | (exact Hid.out (by assumption)) | exact cellsH_t .. | exact cellsH_n .. | (simp only [List.setIfInBounds_toArray, List.set_cons_zero, List.set_cons_succ, List.getElem?_toArray, List.getElem?_cons_zero, List.getElem?_cons_succ]; rfl) | rfl))) _ Tryd.underlying27 rfl rfl ?_) | (refine step_load1 27 (.tmp 51) _ _ rfl (S.row_cell (by (repeat (first | exact Pick.head _ _ | apply Pick.tail)); first | done | fail) _ _ (by first | assumption | exact Hid.out (by assumption) | rfl)) _ Tryd.underlying27 rfl rfl ?_) | (refine step_load1 27 (.tmp 51) _ _ rfl (S.old_cell (by first | assumption | exact Hid.out (by assumption))) _ Tryd.underlying27 rfl rfl ?_)) | (at_builtin; refine step_append8 S (.tmp 48) (.tmp 52) _ _ rfl (by (repeat (first | exact Pick.head _ _ | apply Pick.tail)); first | done | fail) _ _ rfl (by first | assumption | exact S.oldB (Hid.out (by assumption)) | exact Bs.mk0 _ _ | exact S.bs (by (repeat (first | exact Pick.head _ _ | apply Pick.tail)); first | done | fail) | exact S.bsr (by (repeat (first | exact Pick.head _ _ | apply Pick.tail)); first | done | fail)) (by (first | omega | assumption | (exact Hid.out (by assumption)) | (simp only [List.length_append, List.length_cons, List.length_nil]; omega))) rfl ?_; clear S; intro v53 w S; (try simp only [List.nil_append] at S)) | ((with_reducible show wpList _ _ _ (⟨some 54, .load 30 (.tmp 7), _, _, _, _⟩ :: _) _ _); first | (refine step_load S 30 (.tmp 7) _ rfl _ _ _ (by (repeat (first | exact Pick.head _ _ | apply Pick.tail)); first | done | fail) _ Tryd.underlying30 rfl 10 (by kernel_rfl) (by first | rfl | (first | rfl | assumption | (exact Hid.out (by assumption)) | (rw [arr8_size]; first | rfl | assumption | (exact Hid.out (by assumption)) | exact fD_length _ _ _ | exact smD_length _ | exact sumD_length _ | exact List.length_replicate ..) | (simp [arr8_size]; done))) rfl ?_) | (refine step_loadO 30 (.tmp 7) _ rfl _ _ _ (S.old_heap (Hid.out (by assumption))) _ Tryd.underlying30 rfl 10 (by kernel_rfl) (by first | rfl | (first | rfl | assumption | (exact Hid.out (by assumption)) | (rw [arr8_size]; first | rfl | assumption | (exact Hid.out (by assumption)) | exact fD_length _ _ _ | exact smD_length _ | exact sumD_length _ | exact List.length_replicate ..) | (simp [arr8_size]; done))) rfl ?_)) | ((with_reducible show wpList _ _ _ (⟨none, .store 30 (.tmp 4) (.tmp 54), _, _, _, _⟩ :: _) _ _); refine step_store S 30 (.tmp 4) (.tmp 54) _ _ rfl rfl _ _ (by (repeat (first | exact Pick.head _ _ | apply Pick.tail)); first | done | fail) 10 (by kernel_rfl) (by first | rfl | (first | rfl | assumption | (exact Hid.out (by assumption)) | (rw [arr8_size]; first | rfl | assumption | (exact Hid.out (by assumption)) | exact fD_length _ _ _ | exact smD_length _ | exact sumD_length _ | exact List.length_replicate ..) | (simp [arr8_size]; done))) (by first | rfl | (first | rfl | assumption | (exact Hid.out (by assumption)) | (rw [arr8_size]; first | rfl | assumption | (exact Hid.out (by assumption)) | exact fD_length _ _ _ | exact smD_length _ | exact sumD_length _ | exact List.length_replicate ..) | (simp [arr8_size]; done))) (by (first | exact arr8_one _ | exact cellsH_one .. | rfl | (simp [U32_one, one_slice, one_int, one_bool]; done))) rfl ?_; clear S; intro w S) | ((with_reducible show wpList _ _ _ (⟨some 55, .load 30 (.tmp 4), _, _, _, _⟩ :: _) _ _); first | (refine step_load S 30 (.tmp 4) _ rfl _ _ _ (by (repeat (first | exact Pick.head _ _ | apply Pick.tail)); first | done | fail) _ Tryd.underlying30 rfl 10 (by kernel_rfl) (by first | rfl | (first | rfl | assumption | (exact Hid.out (by assumption)) | (rw [arr8_size]; first | rfl | assumption | (exact Hid.out (by assumption)) | exact fD_length _ _ _ | exact smD_length _ | exact sumD_length _ | exact List.length_replicate ..) | (simp [arr8_size]; done))) rfl ?_) | (refine step_loadO 30 (.tmp 4) _ rfl _ _ _ (S.old_heap (Hid.out (by assumption))) _ Tryd.underlying30 rfl 10 (by kernel_rfl) (by first | rfl | (first | rfl | assumption | (exact Hid.out (by assumption)) | (rw [arr8_size]; first | rfl | assumption | (exact Hid.out (by assumption)) | exact fD_length _ _ _ | exact smD_length _ | exact sumD_length _ | exact List.length_replicate ..) | (simp [arr8_size]; done))) rfl ?_)) | ((with_reducible show wpList _ _ _ (⟨some 60, .load 28 (.tmp 59), _, _, _, _⟩ :: _) _ _); first | (refine step_load1 28 (.tmp 59) _ _ rfl (S.cell (by (repeat (first | exact Pick.head _ _ | apply Pick.tail)); first | done | fail) (by (first | assumption | (exact Hid.out (by assumption)) | exact cellsH_t .. | exact cellsH_n .. | (simp only [List.setIfInBounds_toArray, List.set_cons_zero, List.set_cons_succ, List.getElem?_toArray, List.getElem?_cons_zero, List.getElem?_cons_succ]; rfl) | rfl))) _ Tryd.underlying28 rfl rfl ?_) | (refine step_load1 28 (.tmp 59) _ _ rfl (S.row_cell (by (repeat (first | exact Pick.head _ _ | apply Pick.tail)); first | done | fail) _ _ (by first | assumption | exact Hid.out (by assumption) | rfl)) _ Tryd.underlying28 rfl rfl ?_) | (refine step_load1 28 (.tmp 59) _ _ rfl (S.old_cell (by first | assumption | exact Hid.out (by assumption))) _ Tryd.underlying28 rfl rfl ?_)) | ((with_reducible show wpList _ _ _ (⟨some 68, .load 27 (.tmp 67), _, _, _, _⟩ :: _) _ _); first | (refine step_load1 27 (.tmp 67) _ _ rfl (S.cell (by (repeat (first | exact Pick.head _ _ | apply Pick.tail)); first | done | fail) (by (first | assumption | (exact Hid.out (by assumption)) | exact cellsH_t .. | exact cellsH_n .. | (simp only [List.setIfInBounds_toArray, List.set_cons_zero, List.set_cons_succ, List.getElem?_toArray, List.getElem?_cons_zero, List.getElem?_cons_succ]; rfl) | rfl))) _ Tryd.underlying27 rfl rfl ?_) | (refine step_load1 27 (.tmp 67) _ _ rfl (S.row_cell (by (repeat (first | exact Pick.head _ _ | apply Pick.tail)); first | done | fail) _ _ (by first | assumption | exact Hid.out (by assumption) | rfl)) _ Tryd.underlying27 rfl rfl ?_) | (refine step_load1 27 (.tmp 67) _ _ rfl (S.old_cell (by first | assumption | exact Hid.out (by assumption))) _ Tryd.underlying27 rfl rfl ?_)) | ((with_reducible show wpList _ _ _ (⟨some 69, .convert 27 9 (.tmp 68), _, _, _, _⟩ :: _) _ _); refine step_conv 27 9 5 (.tmp 68) _ _ rfl Tryd.underlying27 Tryd.underlying5 Tryd.underlying9 (by first | assumption | exact S.oldB (Hid.out (by assumption)) | exact Bs.mk0 _ _ | exact S.bs (by (repeat (first | exact Pick.head _ _ | apply Pick.tail)); first | done | fail) | exact S.bsr (by (repeat (first | exact Pick.head _ _ | apply Pick.tail)); first | done | fail)) rfl ?_) | ((with_reducible show wpList _ _ _ (⟨some 76, .convert 27 9 (.tmp 75), _, _, _, _⟩ :: _) _ _); refine step_conv 27 9 5 (.tmp 75) _ _ rfl Tryd.underlying27 Tryd.underlying5 Tryd.underlying9 (by first | assumption | exact S.oldB (Hid.out (by assumption)) | exact Bs.mk0 _ _ | exact S.bs (by (repeat (first | exact Pick.head _ _ | apply Pick.tail)); first | done | fail) | exact S.bsr (by (repeat (first | exact Pick.head _ _ | apply Pick.tail)); first | done | fail)) rfl ?_) | ((with_reducible show wpList _ _ _ (⟨some 9, .alloc 30, _, _, _, _⟩ :: _) _ _); refine step_alloc (dst := some 9) S 30 (.agg (cellsH stZ (.slice none 0 0) 0)) (cellsH stZ (.slice none 0 0) 0) (by kernel_rfl) rfl rfl ?_; clear S; intro g9 w S) | ((with_reducible show wpList _ _ _ (⟨none, .store 30 (.tmp 9) (.tmp 83), _, _, _, _⟩ :: _) _ _); refine step_store S 30 (.tmp 9) (.tmp 83) _ _ rfl rfl _ _ (by (repeat (first | exact Pick.head _ _ | apply Pick.tail)); first | done | fail) 10 (by kernel_rfl) (by first | rfl | (first | rfl | assumption | (exact Hid.out (by assumption)) | (rw [arr8_size]; first | rfl | assumption | (exact Hid.out (by assumption)) | exact fD_length _ _ _ | exact smD_length _ | exact sumD_length _ | exact List.length_replicate ..) | (simp [arr8_size]; done))) (by first | rfl | (first | rfl | assumption | (exact Hid.out (by assumption)) | (rw [arr8_size]; first | rfl | assumption | (exact Hid.out (by assumption)) | exact fD_length _ _ _ | exact smD_length _ | exact sumD_length _ | exact List.length_replicate ..) | (simp [arr8_size]; done))) (by (first | exact arr8_one _ | exact cellsH_one .. | rfl | (simp [U32_one, one_slice, one_int, one_bool]; done))) rfl ?_; clear S; intro w S) | ((with_reducible show wpList _ _ _ (⟨some 86, .load 30 (.tmp 4), _, _, _, _⟩ :: _) _ _); first | (refine step_load S 30 (.tmp 4) _ rfl _ _ _ (by (repeat (first | exact Pick.head _ _ | apply Pick.tail)); first | done | fail) _ Tryd.underlying30 rfl 10 (by kernel_rfl) (by first | rfl | (first | rfl | assumption | (exact Hid.out (by assumption)) | (rw [arr8_size]; first | rfl | assumption | (exact Hid.out (by assumption)) | exact fD_length _ _ _ | exact smD_length _ | exact sumD_length _ | exact List.length_replicate ..) | (simp [arr8_size]; done))) rfl ?_) | (refine step_loadO 30 (.tmp 4) _ rfl _ _ _ (S.old_heap (Hid.out (by assumption))) _ Tryd.underlying30 rfl 10 (by kernel_rfl) (by first | rfl | (first | rfl | assumption | (exact Hid.out (by assumption)) | (rw [arr8_size]; first | rfl | assumption | (exact Hid.out (by assumption)) | exact fD_length _ _ _ | exact smD_length _ | exact sumD_length _ | exact List.length_replicate ..) | (simp [arr8_size]; done))) rfl ?_)) | (go_at_call 23; (with_reducible refine (HFI.out _ _ (by first | assumption | exact S.oldB (Hid.out (by assumption)) | exact Bs.mk0 _ _ | exact S.bs (by (repeat (first | exact Pick.head _ _ | apply Pick.tail)); first | done | fail) | exact S.bsr (by (repeat (first | exact Pick.head _ _ | apply Pick.tail)); first | done | fail)) (S.kt (Hid.out (by assumption)))).mono ?_); rintro e w1 ⟨rfl, T⟩; replace S := S.call T; clear T; (try simp only [List.nil_append, List.cons_append] at S)) | ((with_reducible show wpList _ _ _ (⟨some 11, .alloc 40, _, _, _, _⟩ :: _) _ _); refine step_alloc (dst := some 11) S 40 (.agg (arr8 (List.replicate 32 0))) (arr8 (List.replicate 32 0)) (by kernel_rfl) rfl rfl ?_; clear S; intro g11 w S) | ((with_reducible show wpList _ _ _ (⟨none, .store 40 (.tmp 11) (.tmp 88), _, _, _, _⟩ :: _) _ _); refine step_store S 40 (.tmp 11) (.tmp 88) _ _ rfl rfl _ _ (by (repeat (first | exact Pick.head _ _ | apply Pick.tail)); first | done | fail) 32 (by kernel_rfl) (by first | rfl | (first | rfl | assumption | (exact Hid.out (by assumption)) | (rw [arr8_size]; first | rfl | assumption | (exact Hid.out (by assumption)) | exact fD_length _ _ _ | exact smD_length _ | exact sumD_length _ | exact List.length_replicate ..) | (simp [arr8_size]; done))) (by first | rfl | (first | rfl | assumption | (exact Hid.out (by assumption)) | (rw [arr8_size]; first | rfl | assumption | (exact Hid.out (by assumption)) | exact fD_length _ _ _ | exact smD_length _ | exact sumD_length _ | exact List.length_replicate ..) | (simp [arr8_size]; done))) (by (first | exact arr8_one _ | exact cellsH_one .. | rfl | (simp [U32_one, one_slice, one_int, one_bool]; done))) rfl ?_; clear S; intro w S) | (go_at_call 25; (with_reducible refine (HSU.out _ _ (by first | assumption | exact S.oldB (Hid.out (by assumption)) | exact Bs.mk0 _ _ | exact S.bs (by (repeat (first | exact Pick.head _ _ | apply Pick.tail)); first | done | fail) | exact S.bsr (by (repeat (first | exact Pick.head _ _ | apply Pick.tail)); first | done | fail)) (S.kt (Hid.out (by assumption)))).mono ?_); rintro e w1 ⟨rfl, T⟩; replace S := S.call T; clear T; (try simp only [List.nil_append, List.cons_append] at S)) | ((with_reducible show wpList _ _ _ (⟨some 13, .alloc 40, _, _, _, _⟩ :: _) _ _); refine step_alloc (dst := some 13) S 40 (.agg (arr8 (List.replicate 32 0))) (arr8 (List.replicate 32 0)) (by kernel_rfl) rfl rfl ?_; clear S; intro g13 w S) | ((with_reducible show wpList _ _ _ (⟨none, .store 40 (.tmp 13) (.tmp 93), _, _, _, _⟩ :: _) _ _); refine step_store S 40 (.tmp 13) (.tmp 93) _ _ rfl rfl _ _ (by (repeat (first | exact Pick.head _ _ | apply Pick.tail)); first | done | fail) 32 (by kernel_rfl) (by first | rfl | (first | rfl | assumption | (exact Hid.out (by assumption)) | (rw [arr8_size]; first | rfl | assumption | (exact Hid.out (by assumption)) | exact fD_length _ _ _ | exact smD_length _ | exact sumD_length _ | exact List.length_replicate ..) | (simp [arr8_size]; done))) (by first | rfl | (first | rfl | assumption | (exact Hid.out (by assumption)) | (rw [arr8_size]; first | rfl | assumption | (exact Hid.out (by assumption)) | exact fD_length _ _ _ | exact smD_length _ | exact sumD_length _ | exact List.length_replicate ..) | (simp [arr8_size]; done))) (by (first | exact arr8_one _ | exact cellsH_one .. | rfl | (simp [U32_one, one_slice, one_int, one_bool]; done))) rfl ?_; clear S; intro w S) | ((with_reducible show wpList _ _ _ (⟨some 102, .load 23 (.tmp 101), _, _, _, _⟩ :: _) _ _); refine step_loadP S 23 (.tmp 101) _ _ rfl _ _ _ (by (repeat (first | exact Pick.head _ _ | apply Pick.tail)); first | done | fail) 8 _ (by (first | exact cellsH_st .. | assumption | rfl)) (by first | rfl | (first | rfl | assumption | (exact Hid.out (by assumption)) | (rw [arr8_size]; first | rfl | assumption | (exact Hid.out (by assumption)) | exact fD_length _ _ _ | exact smD_length _ | exact sumD_length _ | exact List.length_replicate ..) | (simp [arr8_size]; done))) _ Tryd.underlying23 rfl (by kernel_rfl) rfl ?_) | ((with_reducible show wpList _ _ _ (⟨some 104, .load 23 (.tmp 103), _, _, _, _⟩ :: _) _ _); refine step_loadP S 23 (.tmp 103) _ _ rfl _ _ _ (by (repeat (first | exact Pick.head _ _ | apply Pick.tail)); first | done | fail) 8 _ (by (first | exact cellsH_st .. | assumption | rfl)) (by first | rfl | (first | rfl | assumption | (exact Hid.out (by assumption)) | (rw [arr8_size]; first | rfl | assumption | (exact Hid.out (by assumption)) | exact fD_length _ _ _ | exact smD_length _ | exact sumD_length _ | exact List.length_replicate ..) | (simp [arr8_size]; done))) _ Tryd.underlying23 rfl (by kernel_rfl) rfl ?_) | ((with_reducible show wpList _ _ _ (⟨some 116, .load 40 (.tmp 11), _, _, _, _⟩ :: _) _ _); first | (refine step_load S 40 (.tmp 11) _ rfl _ _ _ (by (repeat (first | exact Pick.head _ _ | apply Pick.tail)); first | done | fail) _ Tryd.underlying40 rfl 32 (by kernel_rfl) (by first | rfl | (first | rfl | assumption | (exact Hid.out (by assumption)) | (rw [arr8_size]; first | rfl | assumption | (exact Hid.out (by assumption)) | exact fD_length _ _ _ | exact smD_length _ | exact sumD_length _ | exact List.length_replicate ..) | (simp [arr8_size]; done))) rfl ?_) | (refine step_loadO 40 (.tmp 11) _ rfl _ _ _ (S.old_heap (Hid.out (by assumption))) _ Tryd.underlying40 rfl 32 (by kernel_rfl) (by first | rfl | (first | rfl | assumption | (exact Hid.out (by assumption)) | (rw [arr8_size]; first | rfl | assumption | (exact Hid.out (by assumption)) | exact fD_length _ _ _ | exact smD_length _ | exact sumD_length _ | exact List.length_replicate ..) | (simp [arr8_size]; done))) rfl ?_)) | ((with_reducible show wpList _ _ _ (⟨some 117, .load 40 (.tmp 13), _, _, _, _⟩ :: _) _ _); first | (refine step_load S 40 (.tmp 13) _ rfl _ _ _ (by (repeat (first | exact Pick.head _ _ | apply Pick.tail)); first | done | fail) _ Tryd.underlying40 rfl 32 (by kernel_rfl) (by first | rfl | (first | rfl | assumption | (exact Hid.out (by assumption)) | (rw [arr8_size]; first | rfl | assumption | (exact Hid.out (by assumption)) | exact fD_length _ _ _ | exact smD_length _ | exact sumD_length _ | exact List.length_replicate ..) | (simp [arr8_size]; done))) rfl ?_) | (refine step_loadO 40 (.tmp 13) _ rfl _ _ _ (S.old_heap (Hid.out (by assumption))) _ Tryd.underlying40 rfl 32 (by kernel_rfl) (by first | rfl | (first | rfl | assumption | (exact Hid.out (by assumption)) | (rw [arr8_size]; first | rfl | assumption | (exact Hid.out (by assumption)) | exact fD_length _ _ _ | exact smD_length _ | exact sumD_length _ | exact List.length_replicate ..) | (simp [arr8_size]; done))) rfl ?_)) | fail)
        go_ret
        exact ⟨rfl, S.nil⟩
end Go.Proofs.YthdhnpejakljkaaDoor
