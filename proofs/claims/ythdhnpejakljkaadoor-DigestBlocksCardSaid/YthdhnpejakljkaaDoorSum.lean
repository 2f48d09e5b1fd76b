/- The digest of a hash, by the specification; the digest of some bytes, by the program and by the specification; new memory alone. No condition but the table of constants. -/
import Derived.Test.YthdhnpejakljkaaDoorRefFinish
set_option linter.unusedSimpArgs false
set_option linter.unusedVariables false
namespace Go.Proofs.YthdhnpejakljkaaDoor
open Go.RowKit

set_option maxRecDepth 20000 in
set_option maxHeartbeats 1000000 in
theorem refFinishH_any (s : St) (t : Value) (ts : List UInt8) (n : Nat) (w : World) (ht : Bs w t ts) :
    Calls Tryd.prog 24 #[.agg #[U32 s.a, U32 s.b, U32 s.c, U32 s.d, U32 s.e, U32 s.f, U32 s.g, U32 s.h, t, .int .u64 (n : Int)]] w fun e w' =>
      e = .returned (.tuple #[.agg ((fD s ts n).map by8).toArray, .int .i64 (chkE ts.length n)]) ∧ Below w.heap.size w w' := by
  obtain ⟨a1, c1, rfl, k1, k2⟩ := Sl.shape ht
  unfold maxLen at k2
  have HT := Lib.hid ht; clear ht
  cases hB : chkB ts.length n
  · have hC : chkE ts.length n = 8 := by simp [chkE, hB]
    have hD : fD s ts n = List.replicate 32 0 := by simp [fD, hB]
    rw [hC, hD]
    have HB := Lib.hid hB; clear hB
    clear hC hD
    go_enter Tryd.func24, Tryd.ntmps24
    go_wp2_with (first | (go_at_call 50; (with_reducible refine (validHash_any s a1 ts.length c1 n _ (by omega)).mono ?_); rintro e w1 ⟨rfl, hb1⟩; have HB1 := Lib.hid hb1; clear hb1; rw [HB.out]) | ((with_reducible show wpList _ _ _ (⟨none, .store 40 (.tmp 2) (.tmp 7), _, _, _, _⟩ :: _) _ _); refine wpList_store_rowN rfl 40 (.tmp 2) (.tmp 7) rfl (w.heap.size + 1) _ rfl rfl 40 _ (heap_later HB1.out (by rw [size_two]; omega) (heap_two1 _ _ _)) 32 (by kernel_rfl) rfl rfl (by simp [one_int]) ?_) | fail)
    refine ret_row_tmp rfl (w.heap.size + 1) 40 _ (setRow_heap _ _ _ _ _ _ (heap_later HB1.out (by rw [size_two]; omega) (heap_two1 _ _ _))) _ Tryd.underlying40 32 (by kernel_rfl) rfl rfl rfl rfl ?_
    exact ⟨rfl, below_row ((below2 _ _ _).trans (HB1.out.mono (by simp; omega))) (by omega) _⟩
  · have hnm : n ≤ 8192 ∧ ts.length = n % 64 := by
      unfold chkB at hB
      simpa only [Bool.and_eq_true, decide_eq_true_eq] using hB
    have hn8 : n ≤ 8192 := hnm.1
    have hts : ts.length ≤ 63 := by omega
    have hC : chkE ts.length n = 0 := by simp [chkE, hB]
    have hD : fD s ts n = finD s ts n := by simp [fD, hB]
    rw [hC, hD]
    have hDl : (finD s ts n).length = 32 := outS_length _
    have hfin := fun w1 h => refFinish_any s (.slice a1 ts.length c1) ts n w1 h (by omega) (by omega)
    obtain ⟨D, hDD⟩ : ∃ D, D = ((finD s ts n).map by8).toArray := ⟨_, rfl⟩
    have hDs : D.size = 32 := by rw [hDD]; simp [hDl]
    have hD1 : D.all (·.oneCell') = true := by rw [hDD]; exact all_by8 _
    rw [← hDD] at hfin ⊢
    have HB := Lib.hid hB; have HDS := Lib.hid hDs; have HD1 := Lib.hid hD1; have HFIN := Lib.hid hfin; clear hB hDs hD1 hfin
    clear hC hD hDD hDl hnm
    go_enter Tryd.func24, Tryd.ntmps24
    go_wp2_with (first | (go_at_call 50; (with_reducible refine (validHash_any s a1 ts.length c1 n _ (by omega)).mono ?_); rintro e w1 ⟨rfl, hb1⟩; have HB1 := Lib.hid hb1; clear hb1; rw [HB.out]; obtain ⟨hc, hf⟩ := bcell HB1.out) | (go_at_call 53; (with_reducible refine (HFIN.out _ (HT.out.below ((below2 _ _ _).trans (HB1.out.mono (by simp; omega))))).mono ?_); rintro e w2 ⟨rfl, hb2⟩; have HB2 := Lib.hid hb2; clear hb2) | ((with_reducible show wpList _ _ _ (⟨none, .store 40 (.tmp 2) (.tmp 14), _, _, _, _⟩ :: _) _ _); refine wpList_store_rowN rfl 40 (.tmp 2) (.tmp 14) rfl (w.heap.size + 1) _ rfl rfl 40 _ (heap_later HB2.out (by have := HB1.out.size; simp at this; omega) (heap_later HB1.out (by rw [size_two]; omega) (heap_two1 _ _ _))) 32 (by kernel_rfl) HDS.out rfl HD1.out ?_) | fail)
    refine ret_row_tmp rfl (w.heap.size + 1) 40 _ (setRow_heap _ _ _ _ _ _ (heap_later HB2.out (by have := HB1.out.size; simp at this; omega) (heap_later HB1.out (by rw [size_two]; omega) (heap_two1 _ _ _)))) _ Tryd.underlying40 32 (by kernel_rfl) HDS.out rfl rfl rfl ?_
    exact ⟨rfl, below_row (((below2 _ _ _).trans (HB1.out.mono (by simp; omega))).trans (HB2.out.mono (by have := HB1.out.size; simp at this; omega))) (by omega) _⟩

/-- The digest of some bytes. -/
def sumD (xs : List UInt8) : List UInt8 := finD startS xs xs.length

set_option maxRecDepth 20000 in
set_option maxHeartbeats 1000000 in
theorem refSum_any (v : Value) (xs : List UInt8) (w : World) (hv : Bs w v xs) (hl : xs.length ≤ 1000000) :
    Calls Tryd.prog 54 #[v] w fun e w' => e = .returned (.agg ((sumD xs).map by8).toArray) ∧ Below w.heap.size w w' := by
  obtain ⟨a1, c1, rfl, k1, k2⟩ := Sl.shape hv
  unfold maxLen at k2
  have hDl : (sumD xs).length = 32 := outS_length _
  have hfin := fun w1 h => refFinish_any startS (.slice a1 xs.length c1) xs xs.length w1 h hl hl
  obtain ⟨D, hDD⟩ : ∃ D, D = ((sumD xs).map by8).toArray := ⟨_, rfl⟩
  have hDs : D.size = 32 := by rw [hDD]; simp [hDl]
  have hD1 : D.all (·.oneCell') = true := by rw [hDD]; exact all_by8 _
  rw [← sumD, ← hDD] at hfin
  rw [← hDD]
  have HV := Lib.hid hv; clear hv
  have HDS := Lib.hid hDs; have HD1 := Lib.hid hD1; have HFIN := Lib.hid hfin; clear hDs hD1 hfin
  clear hDD hDl
  go_enter Tryd.func54, Tryd.ntmps54
  go_wp2_with (first | (go_at_call 46; (with_reducible refine (first_any _).mono ?_); rintro e w1 ⟨rfl, hb1⟩; have HB1 := Lib.hid hb1; clear hb1; unfold aggS) | (go_at_call 53; (with_reducible refine (HFIN.out _ (HV.out.below ((below1 _ _).trans (HB1.out.mono (by simp))))).mono ?_); rintro e w2 ⟨rfl, hb2⟩; have HB2 := Lib.hid hb2; clear hb2) | ((with_reducible show wpList _ _ _ (⟨none, .store 40 (.tmp 2) (.tmp 8), _, _, _, _⟩ :: _) _ _); refine wpList_store_rowN rfl 40 (.tmp 2) (.tmp 8) rfl (w.heap.size) _ rfl rfl 40 _ (heap_later HB2.out (by have := HB1.out.size; simp at this; omega) (heap_later HB1.out (by simp) (heap_new _ _ _))) 32 (by kernel_rfl) HDS.out rfl HD1.out ?_) | fail)
  refine ret_row rfl w.heap.size 40 _ (setRow_heap _ _ _ _ _ _ (heap_later HB2.out (by have := HB1.out.size; simp at this; omega) (heap_later HB1.out (by simp) (heap_new _ _ _)))) _ Tryd.underlying40 32 (by kernel_rfl) HDS.out rfl rfl rfl ?_
  exact ⟨rfl, below_row (((below1 _ _).trans (HB1.out.mono (by simp))).trans (HB2.out.mono (by have := HB1.out.size; simp at this; omega))) (Nat.le_refl _) _⟩

/-- The digest of some bytes, or zeros; the error. -/
def smD (xs : List UInt8) : List UInt8 := if xs.length ≤ 8192 then sumD xs else List.replicate 32 0
def smE (k : Nat) : Int := if k ≤ 8192 then 0 else 4
theorem smD_length (xs : List UInt8) : (smD xs).length = 32 := by unfold smD; split <;> simp [sumD, finD, outS_length]

set_option maxRecDepth 20000 in
set_option maxHeartbeats 1000000 in
theorem summed_any (v : Value) (xs : List UInt8) (w : World) (hv : Bs w v xs) :
    Calls Tryd.prog 26 #[v] w fun e w' => e = .returned (.tuple #[.agg ((smD xs).map by8).toArray, .int .i64 (smE xs.length)]) ∧ Below w.heap.size w w' := by
  obtain ⟨a1, c1, rfl, k1, k2⟩ := Sl.shape hv
  unfold maxLen at k2
  have HV := Lib.hid hv; clear hv
  by_cases hl : xs.length ≤ 8192
  · have hE : smE xs.length = 0 := if_pos hl
    have hDe : smD xs = sumD xs := if_pos hl
    have hDl := smD_length xs
    have hsum := fun w1 h => refSum_any (.slice a1 xs.length c1) xs w1 h (by omega)
    rw [← hDe] at hsum
    rw [hE]
    obtain ⟨D, hDD⟩ : ∃ D, D = ((smD xs).map by8).toArray := ⟨_, rfl⟩
    have hDs : D.size = 32 := by rw [hDD]; simp [hDl]
    have hD1 : D.all (·.oneCell') = true := by rw [hDD]; exact all_by8 _
    rw [← hDD] at hsum ⊢
    have hl' : ¬ (8192 : Int) < (xs.length : Int) := by omega
    have HDS := Lib.hid hDs; have HD1 := Lib.hid hD1; have HSUM := Lib.hid hsum; clear hDs hD1 hsum
    clear hE hDe hDl hDD
    go_enter Tryd.func26, Tryd.ntmps26
    go_wp2_with (first | (go_at_call 54; (with_reducible refine (HSUM.out _ (HV.out.below (below1 _ _))).mono ?_); rintro e w1 ⟨rfl, hb1⟩; have HB1 := Lib.hid hb1; clear hb1) | ((with_reducible show wpList _ _ _ (⟨none, .store 40 (.tmp 2) (.tmp 9), _, _, _, _⟩ :: _) _ _); refine wpList_store_rowN rfl 40 (.tmp 2) (.tmp 9) rfl (w.heap.size) _ rfl rfl 40 _ (heap_later HB1.out (by simp) (heap_new _ _ _)) 32 (by kernel_rfl) HDS.out rfl HD1.out ?_) | fail)
    refine ret_row_tmp rfl w.heap.size 40 _ (setRow_heap _ _ _ _ _ _ (heap_later HB1.out (by simp) (heap_new _ _ _))) _ Tryd.underlying40 32 (by kernel_rfl) HDS.out rfl rfl rfl ?_
    exact ⟨rfl, below_row ((below1 _ _).trans (HB1.out.mono (by simp))) (Nat.le_refl _) _⟩
  · have hE : smE xs.length = 4 := if_neg hl
    have hDe : smD xs = List.replicate 32 0 := if_neg hl
    rw [hE, hDe]
    have hl' : (8192 : Int) < (xs.length : Int) := by omega
    clear hE hDe
    go_enter Tryd.func26, Tryd.ntmps26
    go_wp2_with (first | ((with_reducible show wpList _ _ _ (⟨none, .store 40 (.tmp 2) (.tmp 7), _, _, _, _⟩ :: _) _ _); refine wpList_store_rowN rfl 40 (.tmp 2) (.tmp 7) rfl (w.heap.size) _ rfl rfl 40 _ (heap_new _ _ _) 32 (by kernel_rfl) rfl rfl (by simp [one_int]) ?_) | fail)
    refine ret_row_tmp rfl w.heap.size 40 _ (setRow_heap _ _ _ _ _ _ (heap_new _ _ _)) _ Tryd.underlying40 32 (by kernel_rfl) rfl rfl rfl rfl ?_
    exact ⟨rfl, below_row (below1 _ _) (Nat.le_refl _) _⟩
end Go.Proofs.YthdhnpejakljkaaDoor
