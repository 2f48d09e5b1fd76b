/- The digest of some bytes: what digest.Sum returns; new memory alone. No condition but the table of constants. -/
import Derived.Test.YtioonimpobcglaaDoorShaLaw
set_option linter.unusedSimpArgs false
set_option linter.unusedVariables false
namespace Go.Proofs.YtioonimpobcglaaDoor
open Go.RowKit

set_option maxRecDepth 20000 in
set_option maxHeartbeats 1000000 in
theorem sum_any (v : Value) (xs : List UInt8) (w : World) (hv : Bs w v xs) (hK : KT w) :
    Calls Tryd.prog 64 #[v] w fun e w' => e = .returned (.tuple #[.agg ((smD xs).map by8).toArray, .int .i64 (smE xs.length)]) ∧ Below w.heap.size w w' := by
  obtain ⟨a1, c1, rfl, k1, k2⟩ := Sl.shape hv
  unfold maxLen at k2
  have hw : ∀ (w1 : World), Bs w1 (.slice a1 xs.length c1) xs → KT w1 → Calls Tryd.prog 75 #[.agg #[U32 startS.a, U32 startS.b, U32 startS.c, U32 startS.d, U32 startS.e, U32 startS.f, U32 startS.g, U32 startS.h, .slice none 0 0, .int .u64 0], .slice a1 xs.length c1] w1 (FreshHE w1 (wS startS [] 0 xs) (wT [] 0 xs) (wN 0 0 xs.length) (wE 0 0 xs.length)) := fun w1 h1 h2 =>
    write_any startS (.slice none 0 0) (.slice a1 xs.length c1) [] xs 0 w1 (Bs.mk0 _ _) h1 h2
  have HV := Lib.hid hv; have HK := Lib.hid hK; clear hv hK
  have hD1 : ((smD xs).map by8).toArray.all (·.oneCell') = true := all_by8 _
  have hDs : ((smD xs).map by8).toArray.size = 32 := by simp [smD_length]
  obtain ⟨S, hS1⟩ : ∃ S, S = startS := ⟨_, rfl⟩
  by_cases hl : xs.length ≤ 8192
  · obtain ⟨e1, e2, e3, e4⟩ := write_hash [] xs (by simpa using hl)
    have hE : smE xs.length = 0 := if_pos hl
    have hfin := fun (t : Value) (w1 : World) h1 h2 => finish_any (hS xs) t (hT xs) xs.length w1 h1 h2
    rw [fD_hash xs hl, show chkE (hT xs).length xs.length = 0 by unfold chkE; rw [if_pos (chk_hT xs hl)]] at hfin
    have hDe : smD xs = sumD xs := if_pos hl
    rw [← hDe] at hfin
    simp only [hT, hS, List.length_nil, List.nil_append, List.drop_nil, Nat.zero_div, absS] at e1 e2 e3 e4
    rw [e1, e2, e3, e4] at hw
    rw [hE]
    obtain ⟨D, hDD⟩ : ∃ D, D = ((smD xs).map by8).toArray := ⟨_, rfl⟩
    rw [← hDD] at hfin hD1 hDs ⊢
    have hw2 : ∀ (w1 : World), Bs w1 (.slice a1 xs.length c1) xs → KT w1 → Calls Tryd.prog 75 #[.agg #[U32 startS.a, U32 startS.b, U32 startS.c, U32 startS.d, U32 startS.e, U32 startS.f, U32 startS.g, U32 startS.h, .slice none 0 0, .int .u64 0], .slice a1 xs.length c1] w1 (FreshHE w1 (hS xs) (hT xs) xs.length 0) := hw
    obtain ⟨r, hr⟩ : ∃ r, r = hS xs := ⟨_, rfl⟩
    obtain ⟨tl, htl⟩ : ∃ tl, tl = hT xs := ⟨_, rfl⟩
    rw [← hr, ← htl] at hfin hw2
    have HFIN := Lib.hid hfin; have HW2 := Lib.hid hw2; have HD1 := Lib.hid hD1; have HDS := Lib.hid hDs; clear hfin hw2 hD1 hDs
    clear hw e1 e2 e3 e4 hE hDe hDD hr htl hS1
    go_enter Tryd.func64, Tryd.ntmps64
    go_wp2_with (first | (go_at_call 76; (with_reducible refine (start_any _).mono ?_); rintro e w1 ⟨rfl, hb1⟩; have HB1 := Lib.hid hb1; clear hb1; unfold hashV cellsH) | (go_at_call 75; (with_reducible refine (HW2.out _ (HV.out.below ((below1 _ _).trans (HB1.out.mono (by simp)))) (HK.out.later ((below1 _ _).trans (HB1.out.mono (by simp))) (Nat.le_refl _))).mono ?_); rintro e w2 ⟨a3, c3, rfl, ho2, hb2⟩; have HO2 := Lib.hid ho2; have HB2 := Lib.hid hb2; clear ho2 hb2; unfold hashV cellsH) | ((with_reducible show wpList _ _ _ (⟨none, .store 117 (.tmp 4) (.tmp 10), _, _, _, _⟩ :: _) _ _); refine wpList_store_rowN rfl 117 (.tmp 4) (.tmp 10) rfl (w2.heap.size) _ rfl rfl 117 _ (heap_new _ _ _) 10 (by kernel_rfl) rfl rfl (by simp [U32_one, one_slice, one_int, one_bool]) ?_) | ((with_reducible show wpList _ _ _ (⟨some 16, _, _, _, _, _⟩ :: _) _ _); refine wpList_load_rowN rfl 117 (.tmp 4) rfl (w2.heap.size) rfl 117 (#[U32 r.a, U32 r.b, U32 r.c, U32 r.d, U32 r.e, U32 r.f, U32 r.g, U32 r.h, .slice a3 tl.length c3, .int .u64 (xs.length : Int)]) (0, 0) _ (setRow_heap _ _ _ _ _ _ (heap_new _ _ _)) Tryd.underlying117 rfl 10 (by kernel_rfl) (by rfl) ?_) | (go_at_call 77; (with_reducible refine (HFIN.out _ _ ((Bs.of_own HO2.out rfl).below (below_past (Below.refl _ _) (Nat.le_refl _) _ _)) (HK.out.later (((below1 _ _).trans (HB1.out.mono (by simp))).trans ((HB2.out.trans (below_past (Below.refl _ _) (Nat.le_refl _) _ _|>.mono HB2.out.size)).mono (by have := HB1.out.size; simp at this; omega))) (Nat.le_refl _))).mono ?_); rintro e w3 ⟨rfl, hb3⟩; have HB3 := Lib.hid hb3; clear hb3) | ((with_reducible show wpList _ _ _ (⟨none, .store 25 (.tmp 2) (.tmp 18), _, _, _, _⟩ :: _) _ _); refine wpList_store_rowN rfl 25 (.tmp 2) (.tmp 18) rfl (w.heap.size) _ rfl rfl 25 _ (heap_later HB3.out (by have := HB1.out.size; have := HB2.out.size; simp at *; omega) (heap_past (heap_later HB2.out (by have := HB1.out.size; simp at this; omega) (heap_later HB1.out (by simp) (heap_new _ _ _))) (by have := HB1.out.size; have := HB2.out.size; simp at *; omega) _ _)) 32 (by kernel_rfl) HDS.out rfl HD1.out ?_) | fail)
    have hz1 := HB1.out.size
    have hz2 := HB2.out.size
    have hz3 := HB3.out.size
    simp at hz1 hz3
    refine ret_row_tmp rfl w.heap.size 25 _ (setRow_heap _ _ _ _ _ _ (heap_later HB3.out (by simp; omega) (heap_past (heap_later HB2.out (by omega) (heap_later HB1.out (by simp) (heap_new _ _ _))) (by omega) _ _))) _ Tryd.underlying25 32 (by kernel_rfl) HDS.out rfl rfl rfl ?_
    exact ⟨rfl, below_row (((below1 _ _).trans (HB1.out.mono (by simp))).trans ((HB2.out.trans ((below_past (Below.refl _ _) (Nat.le_refl _) _ _).mono hz2 |>.trans (HB3.out.mono (by simp; omega)))).mono (by omega))) (Nat.le_refl _) _⟩
  · have hE : smE xs.length = 4 := if_neg hl
    have hDe : smD xs = List.replicate 32 0 := if_neg hl
    have e1 := write_many [] xs (by simp) (by simp; omega)
    simp only [hT, List.length_nil, List.drop_nil] at e1
    have hw2 : ∀ (w1 : World), Bs w1 (.slice a1 xs.length c1) xs → KT w1 → Calls Tryd.prog 75 #[.agg #[U32 startS.a, U32 startS.b, U32 startS.c, U32 startS.d, U32 startS.e, U32 startS.f, U32 startS.g, U32 startS.h, .slice none 0 0, .int .u64 0], .slice a1 xs.length c1] w1 (FreshHE w1 stZ [] 0 4) := fun w1 h1 h2 => by
      have h := hw w1 h1 h2
      unfold wS wT wN at h
      simp only [List.length_nil, e1] at h
      rw [if_neg (by decide), if_neg (by decide), if_neg (by decide)] at h
      exact h
    rw [hE, hDe]
    have HW2 := Lib.hid hw2; clear hw2
    clear hw e1 hE hDe hS1 hD1 hDs
    go_enter Tryd.func64, Tryd.ntmps64
    go_wp2_with (first | (go_at_call 76; (with_reducible refine (start_any _).mono ?_); rintro e w1 ⟨rfl, hb1⟩; have HB1 := Lib.hid hb1; clear hb1; unfold hashV cellsH) | (go_at_call 75; (with_reducible refine (HW2.out _ (HV.out.below ((below1 _ _).trans (HB1.out.mono (by simp)))) (HK.out.later ((below1 _ _).trans (HB1.out.mono (by simp))) (Nat.le_refl _))).mono ?_); rintro e w2 ⟨a3, c3, rfl, ho2, hb2⟩; have HO2 := Lib.hid ho2; have HB2 := Lib.hid hb2; clear ho2 hb2; unfold hashV cellsH) | ((with_reducible show wpList _ _ _ (⟨none, .store 117 (.tmp 4) (.tmp 10), _, _, _, _⟩ :: _) _ _); refine wpList_store_rowN rfl 117 (.tmp 4) (.tmp 10) rfl (w2.heap.size) _ rfl rfl 117 _ (heap_new _ _ _) 10 (by kernel_rfl) rfl rfl (by simp [U32_one, one_slice, one_int, one_bool]) ?_) | ((with_reducible show wpList _ _ _ (⟨none, .store 25 (.tmp 2) (.tmp 14), _, _, _, _⟩ :: _) _ _); refine wpList_store_rowN rfl 25 (.tmp 2) (.tmp 14) rfl (w.heap.size) _ rfl rfl 25 _ (heap_past (heap_later HB2.out (by have := HB1.out.size; simp at this; omega) (heap_later HB1.out (by simp) (heap_new _ _ _))) (by have := HB1.out.size; have := HB2.out.size; simp at *; omega) _ _) 32 (by kernel_rfl) rfl rfl (by simp [one_int]) ?_) | fail)
    have hz1 := HB1.out.size
    have hz2 := HB2.out.size
    simp at hz1
    refine ret_row_tmp rfl w.heap.size 25 _ (setRow_heap _ _ _ _ _ _ (heap_past (heap_later HB2.out (by omega) (heap_later HB1.out (by simp) (heap_new _ _ _))) (by omega) _ _)) _ Tryd.underlying25 32 (by kernel_rfl) rfl rfl rfl rfl ?_
    exact ⟨rfl, below_row (((below1 _ _).trans (HB1.out.mono (by simp))).trans ((HB2.out.trans ((below_past (Below.refl _ _) (Nat.le_refl _) _ _).mono hz2)).mono (by omega))) (Nat.le_refl _) _⟩
end Go.Proofs.YtioonimpobcglaaDoor
