/- The reference's Verify. No condition. -/
import Derived.Test.YtfhkmmagpnojmaaDoorBd
import Derived.Test.YtfhkmmagpnojmaaDoorVfy
set_option linter.unusedSimpArgs false
set_option linter.unusedVariables false
namespace Go.Proofs.YtfhkmmagpnojmaaDoor
open Go.RowKit

theorem vfR8 (prev : List UInt8) (l : List Rcd) (bs : List (List UInt8)) (h1 : ¬ 32 < l.length) (h2 : bs.length = l.length) (x : Rcd) (hx : x ∈ l) (hv : rcdV x = false) : vfR prev l bs = (0, 8) := by
  unfold vfR
  rw [if_neg h1, if_neg (by omega), if_pos ?_]
  cases h : chV l with
  | false => rfl
  | true => have := ((chV_iff l).1 h).2 x hx; rw [hv] at this; cases this
theorem vfR4 (prev : List UInt8) (l : List Rcd) (bs : List (List UInt8)) (h1 : ¬ 32 < l.length) (h2 : bs.length = l.length) (hv : ∀ x ∈ l, rcdV x = true) (b : List UInt8) (hb : b ∈ bs) (h : 64 < b.length) : vfR prev l bs = (0, 4) := by
  unfold vfR
  rw [if_neg h1, if_neg (by omega), if_neg (by rw [(chV_iff l).2 ⟨by omega, hv⟩]; decide), if_pos (List.any_eq_true.2 ⟨b, hb, decide_eq_true h⟩)]
theorem vfRN (prev : List UInt8) (l : List Rcd) (bs : List (List UInt8)) (h1 : ¬ 32 < l.length) (h2 : bs.length = l.length) (hv : ∀ x ∈ l, rcdV x = true) (hb : ∀ b ∈ bs, ¬ 64 < b.length) : vfR prev l bs = (vfN prev l bs, 0) := by
  unfold vfR
  rw [if_neg h1, if_neg (by omega), if_neg (by rw [(chV_iff l).2 ⟨by omega, hv⟩]; decide), if_neg ?_]
  intro h
  obtain ⟨b, hm, h⟩ := List.any_eq_true.1 h
  exact hb b hm (of_decide_eq_true h)

set_option maxRecDepth 100000 in
set_option maxHeartbeats 8000000 in
theorem refVerify_s (prev : List UInt8) (rv fv : Value) (l : List Rcd) (ps : List (Value × List UInt8)) (w0 : World) (hp : prev.length = 32) (hr : Sl w0 35 rv l.length (l.flatMap rcdL)) (hf : Fr w0 fv ps) :
    Calls Tryd.prog 19 #[.agg (arr8 prev), rv, fv] w0 fun e w' => e = .returned (.tuple #[.int .i64 ((vfR prev l (ps.map (·.2))).1 : Int), .int .i64 (vfR prev l (ps.map (·.2))).2]) ∧ Has w0 w' [] := by
  have S := Has.start w0
  obtain ⟨a0, c0, rfl, k1, k2⟩ := Sl.shape hr
  obtain ⟨a1, c1, rfl, k3, k4⟩ := Sl.shape hf.1
  unfold maxLen at k2 k4
  by_cases h1 : 32 < l.length
  · rw [show vfR prev l (ps.map (·.2)) = (0, 4) from if_pos h1]
    have i1 : 32 < (l.length : Int) := by omega
    have HR := Lib.hid hr; have HF := Lib.hid hf; clear hr hf
    go_enter Tryd.func19, Tryd.ntmps19
    go_wp2_with (first | ((with_reducible show wpList _ _ _ (⟨some 3, .box 22 (.tmp 0), _, _, _, _⟩ :: _) _ _); refine step_boxA (dst := some 3) S 22 (.tmp 0) _ rfl rfl ?_; clear S; intro g3 w S) | ((with_reducible show wpList _ _ _ (⟨_, .load 50 _, _, _, _, _⟩ :: _) _ _); first | (refine step_loadR 50 _ _ _ rfl _ (S.old_range hy) _ Tryd.underlying50 rfl 35 (by kernel_rfl) (by first | rfl | (first | rfl | assumption | (exact Hid.out (by assumption)) | (exact rcdL_size _) | (exact sgtL_size _) | (exact smD_length _) | (exact sumD_length _) | (rw [arr8_size]; first | rfl | assumption | (exact Hid.out (by assumption)) | exact rcdL_size _ | exact sgtL_size _ | exact smD_length _ | exact sumD_length _ | exact List.length_replicate ..) | (simp [arr8_size]; done))) _ rfl rfl ?_) | (refine step_loadP S 50 _ _ _ rfl _ _ _ pk 35 _ (by (first | exact cellsH_st .. | exact rqL_tok .. | exact rcdL_link .. | exact rpL_tok .. | assumption | rfl)) (by first | rfl | (first | rfl | assumption | (exact Hid.out (by assumption)) | (exact rcdL_size _) | (exact sgtL_size _) | (exact smD_length _) | (exact sumD_length _) | (rw [arr8_size]; first | rfl | assumption | (exact Hid.out (by assumption)) | exact rcdL_size _ | exact sgtL_size _ | exact smD_length _ | exact sumD_length _ | exact List.length_replicate ..) | (simp [arr8_size]; done))) _ Tryd.underlying50 rfl (by kernel_rfl) rfl ?_)) | ((with_reducible show wpList _ _ _ (⟨_, .load 25 _, _, _, _, _⟩ :: _) _ _); first | (refine step_load1 25 _ _ _ rfl (S.cell pk co) _ Tryd.underlying25 rfl rfl ?_) | (refine step_load1 25 _ _ _ rfl (S.row_cell pk _ _ hyr) _ Tryd.underlying25 rfl rfl ?_) | (refine step_load1 25 _ _ _ rfl (S.row_cellS pk _ _ hy) _ Tryd.underlying25 rfl rfl ?_) | (refine step_load1 25 _ _ _ rfl (S.old_cell hy) _ Tryd.underlying25 rfl rfl ?_)) | ((with_reducible show wpList _ _ _ (⟨_, .load 22 _, _, _, _, _⟩ :: _) _ _); first | (refine step_loadR 22 _ _ _ rfl _ (S.old_range hy) _ Tryd.underlying22 rfl 32 (by kernel_rfl) (by first | rfl | (first | rfl | assumption | (exact Hid.out (by assumption)) | (exact rcdL_size _) | (exact sgtL_size _) | (exact smD_length _) | (exact sumD_length _) | (rw [arr8_size]; first | rfl | assumption | (exact Hid.out (by assumption)) | exact rcdL_size _ | exact sgtL_size _ | exact smD_length _ | exact sumD_length _ | exact List.length_replicate ..) | (simp [arr8_size]; done))) _ rfl rfl ?_) | (refine step_loadP S 22 _ _ _ rfl _ _ _ pk 32 _ (by (first | exact cellsH_st .. | exact rqL_tok .. | exact rcdL_link .. | exact rpL_tok .. | assumption | rfl)) (by first | rfl | (first | rfl | assumption | (exact Hid.out (by assumption)) | (exact rcdL_size _) | (exact sgtL_size _) | (exact smD_length _) | (exact sumD_length _) | (rw [arr8_size]; first | rfl | assumption | (exact Hid.out (by assumption)) | exact rcdL_size _ | exact sgtL_size _ | exact smD_length _ | exact sumD_length _ | exact List.length_replicate ..) | (simp [arr8_size]; done))) _ Tryd.underlying22 rfl (by kernel_rfl) rfl ?_)) | ((with_reducible show wpList _ _ _ (⟨_, .load 22 _, _, _, _, _⟩ :: _) _ _); first | (refine step_load S 22 _ _ rfl _ _ _ pk _ Tryd.underlying22 rfl 32 (by kernel_rfl) (by first | rfl | (first | rfl | assumption | (exact Hid.out (by assumption)) | (exact rcdL_size _) | (exact sgtL_size _) | (exact smD_length _) | (exact sumD_length _) | (rw [arr8_size]; first | rfl | assumption | (exact Hid.out (by assumption)) | exact rcdL_size _ | exact sgtL_size _ | exact smD_length _ | exact sumD_length _ | exact List.length_replicate ..) | (simp [arr8_size]; done))) rfl ?_) | (refine step_loadO 22 _ _ rfl _ _ _ (S.old_heap (Hid.out (by assumption))) _ Tryd.underlying22 rfl 32 (by kernel_rfl) (by first | rfl | (first | rfl | assumption | (exact Hid.out (by assumption)) | (exact rcdL_size _) | (exact sgtL_size _) | (exact smD_length _) | (exact sumD_length _) | (rw [arr8_size]; first | rfl | assumption | (exact Hid.out (by assumption)) | exact rcdL_size _ | exact sgtL_size _ | exact smD_length _ | exact sumD_length _ | exact List.length_replicate ..) | (simp [arr8_size]; done))) rfl ?_) | (refine step_loadR 22 _ _ _ rfl _ (S.old_range hy) _ Tryd.underlying22 rfl 32 (by kernel_rfl) (by first | rfl | (first | rfl | assumption | (exact Hid.out (by assumption)) | (exact rcdL_size _) | (exact sgtL_size _) | (exact smD_length _) | (exact sumD_length _) | (rw [arr8_size]; first | rfl | assumption | (exact Hid.out (by assumption)) | exact rcdL_size _ | exact sgtL_size _ | exact smD_length _ | exact sumD_length _ | exact List.length_replicate ..) | (simp [arr8_size]; done))) _ rfl rfl ?_)) | ((with_reducible show wpList _ _ _ (⟨_, .load 23 _, _, _, _, _⟩ :: _) _ _); first | (refine step_load1 23 _ _ _ rfl (S.cell pk co) _ Tryd.underlying23 rfl rfl ?_) | (refine step_load1 23 _ _ _ rfl (S.row_cell pk _ _ hyr) _ Tryd.underlying23 rfl rfl ?_) | (refine step_load1 23 _ _ _ rfl (S.row_cellS pk _ _ hy) _ Tryd.underlying23 rfl rfl ?_) | (refine step_load1 23 _ _ _ rfl (S.old_cell hy) _ Tryd.underlying23 rfl rfl ?_)) | ((with_reducible show wpList _ _ _ (⟨_, .load 5 _, _, _, _, _⟩ :: _) _ _); first | (refine step_load1 5 _ _ _ rfl (S.cell pk co) _ Tryd.underlying5 rfl rfl ?_) | (refine step_load1 5 _ _ _ rfl (S.row_cell pk _ _ hyr) _ Tryd.underlying5 rfl rfl ?_) | (refine step_load1 5 _ _ _ rfl (S.row_cellS pk _ _ hy) _ Tryd.underlying5 rfl rfl ?_) | (refine step_load1 5 _ _ _ rfl (S.old_cell hy) _ Tryd.underlying5 rfl rfl ?_)) | ((with_reducible show wpList _ _ _ (⟨_, .load 24 _, _, _, _, _⟩ :: _) _ _); first | (refine step_load1 24 _ _ _ rfl (S.cell pk co) _ Tryd.underlying24 rfl rfl ?_) | (refine step_load1 24 _ _ _ rfl (S.row_cell pk _ _ hyr) _ Tryd.underlying24 rfl rfl ?_) | (refine step_load1 24 _ _ _ rfl (S.row_cellS pk _ _ hy) _ Tryd.underlying24 rfl rfl ?_) | (refine step_load1 24 _ _ _ rfl (S.old_cell hy) _ Tryd.underlying24 rfl rfl ?_)) | ((with_reducible show wpList _ _ _ (⟨none, .store 22 (.tmp 3) (.tmp 81), _, _, _, _⟩ :: _) _ _); refine step_store S 22 (.tmp 3) (.tmp 81) _ _ rfl rfl _ _ pk 32 (by kernel_rfl) (by first | rfl | (first | rfl | assumption | (exact Hid.out (by assumption)) | (exact rcdL_size _) | (exact sgtL_size _) | (exact smD_length _) | (exact sumD_length _) | (rw [arr8_size]; first | rfl | assumption | (exact Hid.out (by assumption)) | exact rcdL_size _ | exact sgtL_size _ | exact smD_length _ | exact sumD_length _ | exact List.length_replicate ..) | (simp [arr8_size]; done))) (by first | rfl | (first | rfl | assumption | (exact Hid.out (by assumption)) | (exact rcdL_size _) | (exact sgtL_size _) | (exact smD_length _) | (exact sumD_length _) | (rw [arr8_size]; first | rfl | assumption | (exact Hid.out (by assumption)) | exact rcdL_size _ | exact sgtL_size _ | exact smD_length _ | exact sumD_length _ | exact List.length_replicate ..) | (simp [arr8_size]; done))) on1 rfl ?_; clear S; intro w S) | fail)
    go_ret2
    exact ⟨rfl, S.nil⟩
  have i1 : ¬ 32 < (l.length : Int) := by omega
  by_cases h2 : ps.length = l.length
  rotate_left
  · rw [show vfR prev l (ps.map (·.2)) = (0, 2) by unfold vfR; rw [if_neg h1, List.length_map, if_pos h2]]
    have i2 : ((ps.length : Int) == (l.length : Int)) = false := beq_false_of_ne (fun h => h2 (by omega))
    have HR := Lib.hid hr; have HF := Lib.hid hf; clear hr hf
    go_enter Tryd.func19, Tryd.ntmps19
    go_wp2_with (first | ((with_reducible show wpList _ _ _ (⟨some 3, .box 22 (.tmp 0), _, _, _, _⟩ :: _) _ _); refine step_boxA (dst := some 3) S 22 (.tmp 0) _ rfl rfl ?_; clear S; intro g3 w S) | ((with_reducible show wpList _ _ _ (⟨_, .load 50 _, _, _, _, _⟩ :: _) _ _); first | (refine step_loadR 50 _ _ _ rfl _ (S.old_range hy) _ Tryd.underlying50 rfl 35 (by kernel_rfl) (by first | rfl | (first | rfl | assumption | (exact Hid.out (by assumption)) | (exact rcdL_size _) | (exact sgtL_size _) | (exact smD_length _) | (exact sumD_length _) | (rw [arr8_size]; first | rfl | assumption | (exact Hid.out (by assumption)) | exact rcdL_size _ | exact sgtL_size _ | exact smD_length _ | exact sumD_length _ | exact List.length_replicate ..) | (simp [arr8_size]; done))) _ rfl rfl ?_) | (refine step_loadP S 50 _ _ _ rfl _ _ _ pk 35 _ (by (first | exact cellsH_st .. | exact rqL_tok .. | exact rcdL_link .. | exact rpL_tok .. | assumption | rfl)) (by first | rfl | (first | rfl | assumption | (exact Hid.out (by assumption)) | (exact rcdL_size _) | (exact sgtL_size _) | (exact smD_length _) | (exact sumD_length _) | (rw [arr8_size]; first | rfl | assumption | (exact Hid.out (by assumption)) | exact rcdL_size _ | exact sgtL_size _ | exact smD_length _ | exact sumD_length _ | exact List.length_replicate ..) | (simp [arr8_size]; done))) _ Tryd.underlying50 rfl (by kernel_rfl) rfl ?_)) | ((with_reducible show wpList _ _ _ (⟨_, .load 25 _, _, _, _, _⟩ :: _) _ _); first | (refine step_load1 25 _ _ _ rfl (S.cell pk co) _ Tryd.underlying25 rfl rfl ?_) | (refine step_load1 25 _ _ _ rfl (S.row_cell pk _ _ hyr) _ Tryd.underlying25 rfl rfl ?_) | (refine step_load1 25 _ _ _ rfl (S.row_cellS pk _ _ hy) _ Tryd.underlying25 rfl rfl ?_) | (refine step_load1 25 _ _ _ rfl (S.old_cell hy) _ Tryd.underlying25 rfl rfl ?_)) | ((with_reducible show wpList _ _ _ (⟨_, .load 22 _, _, _, _, _⟩ :: _) _ _); first | (refine step_loadR 22 _ _ _ rfl _ (S.old_range hy) _ Tryd.underlying22 rfl 32 (by kernel_rfl) (by first | rfl | (first | rfl | assumption | (exact Hid.out (by assumption)) | (exact rcdL_size _) | (exact sgtL_size _) | (exact smD_length _) | (exact sumD_length _) | (rw [arr8_size]; first | rfl | assumption | (exact Hid.out (by assumption)) | exact rcdL_size _ | exact sgtL_size _ | exact smD_length _ | exact sumD_length _ | exact List.length_replicate ..) | (simp [arr8_size]; done))) _ rfl rfl ?_) | (refine step_loadP S 22 _ _ _ rfl _ _ _ pk 32 _ (by (first | exact cellsH_st .. | exact rqL_tok .. | exact rcdL_link .. | exact rpL_tok .. | assumption | rfl)) (by first | rfl | (first | rfl | assumption | (exact Hid.out (by assumption)) | (exact rcdL_size _) | (exact sgtL_size _) | (exact smD_length _) | (exact sumD_length _) | (rw [arr8_size]; first | rfl | assumption | (exact Hid.out (by assumption)) | exact rcdL_size _ | exact sgtL_size _ | exact smD_length _ | exact sumD_length _ | exact List.length_replicate ..) | (simp [arr8_size]; done))) _ Tryd.underlying22 rfl (by kernel_rfl) rfl ?_)) | ((with_reducible show wpList _ _ _ (⟨_, .load 22 _, _, _, _, _⟩ :: _) _ _); first | (refine step_load S 22 _ _ rfl _ _ _ pk _ Tryd.underlying22 rfl 32 (by kernel_rfl) (by first | rfl | (first | rfl | assumption | (exact Hid.out (by assumption)) | (exact rcdL_size _) | (exact sgtL_size _) | (exact smD_length _) | (exact sumD_length _) | (rw [arr8_size]; first | rfl | assumption | (exact Hid.out (by assumption)) | exact rcdL_size _ | exact sgtL_size _ | exact smD_length _ | exact sumD_length _ | exact List.length_replicate ..) | (simp [arr8_size]; done))) rfl ?_) | (refine step_loadO 22 _ _ rfl _ _ _ (S.old_heap (Hid.out (by assumption))) _ Tryd.underlying22 rfl 32 (by kernel_rfl) (by first | rfl | (first | rfl | assumption | (exact Hid.out (by assumption)) | (exact rcdL_size _) | (exact sgtL_size _) | (exact smD_length _) | (exact sumD_length _) | (rw [arr8_size]; first | rfl | assumption | (exact Hid.out (by assumption)) | exact rcdL_size _ | exact sgtL_size _ | exact smD_length _ | exact sumD_length _ | exact List.length_replicate ..) | (simp [arr8_size]; done))) rfl ?_) | (refine step_loadR 22 _ _ _ rfl _ (S.old_range hy) _ Tryd.underlying22 rfl 32 (by kernel_rfl) (by first | rfl | (first | rfl | assumption | (exact Hid.out (by assumption)) | (exact rcdL_size _) | (exact sgtL_size _) | (exact smD_length _) | (exact sumD_length _) | (rw [arr8_size]; first | rfl | assumption | (exact Hid.out (by assumption)) | exact rcdL_size _ | exact sgtL_size _ | exact smD_length _ | exact sumD_length _ | exact List.length_replicate ..) | (simp [arr8_size]; done))) _ rfl rfl ?_)) | ((with_reducible show wpList _ _ _ (⟨_, .load 23 _, _, _, _, _⟩ :: _) _ _); first | (refine step_load1 23 _ _ _ rfl (S.cell pk co) _ Tryd.underlying23 rfl rfl ?_) | (refine step_load1 23 _ _ _ rfl (S.row_cell pk _ _ hyr) _ Tryd.underlying23 rfl rfl ?_) | (refine step_load1 23 _ _ _ rfl (S.row_cellS pk _ _ hy) _ Tryd.underlying23 rfl rfl ?_) | (refine step_load1 23 _ _ _ rfl (S.old_cell hy) _ Tryd.underlying23 rfl rfl ?_)) | ((with_reducible show wpList _ _ _ (⟨_, .load 5 _, _, _, _, _⟩ :: _) _ _); first | (refine step_load1 5 _ _ _ rfl (S.cell pk co) _ Tryd.underlying5 rfl rfl ?_) | (refine step_load1 5 _ _ _ rfl (S.row_cell pk _ _ hyr) _ Tryd.underlying5 rfl rfl ?_) | (refine step_load1 5 _ _ _ rfl (S.row_cellS pk _ _ hy) _ Tryd.underlying5 rfl rfl ?_) | (refine step_load1 5 _ _ _ rfl (S.old_cell hy) _ Tryd.underlying5 rfl rfl ?_)) | ((with_reducible show wpList _ _ _ (⟨_, .load 24 _, _, _, _, _⟩ :: _) _ _); first | (refine step_load1 24 _ _ _ rfl (S.cell pk co) _ Tryd.underlying24 rfl rfl ?_) | (refine step_load1 24 _ _ _ rfl (S.row_cell pk _ _ hyr) _ Tryd.underlying24 rfl rfl ?_) | (refine step_load1 24 _ _ _ rfl (S.row_cellS pk _ _ hy) _ Tryd.underlying24 rfl rfl ?_) | (refine step_load1 24 _ _ _ rfl (S.old_cell hy) _ Tryd.underlying24 rfl rfl ?_)) | ((with_reducible show wpList _ _ _ (⟨none, .store 22 (.tmp 3) (.tmp 81), _, _, _, _⟩ :: _) _ _); refine step_store S 22 (.tmp 3) (.tmp 81) _ _ rfl rfl _ _ pk 32 (by kernel_rfl) (by first | rfl | (first | rfl | assumption | (exact Hid.out (by assumption)) | (exact rcdL_size _) | (exact sgtL_size _) | (exact smD_length _) | (exact sumD_length _) | (rw [arr8_size]; first | rfl | assumption | (exact Hid.out (by assumption)) | exact rcdL_size _ | exact sgtL_size _ | exact smD_length _ | exact sumD_length _ | exact List.length_replicate ..) | (simp [arr8_size]; done))) (by first | rfl | (first | rfl | assumption | (exact Hid.out (by assumption)) | (exact rcdL_size _) | (exact sgtL_size _) | (exact smD_length _) | (exact sumD_length _) | (rw [arr8_size]; first | rfl | assumption | (exact Hid.out (by assumption)) | exact rcdL_size _ | exact sgtL_size _ | exact smD_length _ | exact sumD_length _ | exact List.length_replicate ..) | (simp [arr8_size]; done))) on1 rfl ?_; clear S; intro w S) | fail)
    go_ret2
    exact ⟨rfl, S.nil⟩
  have i2 : ((ps.length : Int) == (l.length : Int)) = true := by rw [h2]; simp
  have i3 : (l.length : Int) ≤ 32 := by omega
  have h2b : (ps.map (·.2)).length = l.length := by rw [List.length_map]; exact h2
  have e8 := vfR8 prev l (ps.map (·.2)) h1 h2b
  have e4 := vfR4 prev l (ps.map (·.2)) h1 h2b
  have eN := vfRN prev l (ps.map (·.2)) h1 h2b
  obtain ⟨R, hR⟩ : ∃ R, R = vfR prev l (ps.map (·.2)) := ⟨_, rfl⟩
  rw [← hR] at e8 e4 eN ⊢
  have pvr := fun x w => refValidRecord_s x w
  have eg : Tryd.prog.eqGuardType Tryd.prog.depth 22 = false := by kernel_rfl
  clear hR
  have H2B := Lib.hid h2b; have H2 := Lib.hid h2; have HR := Lib.hid hr; have HF := Lib.hid hf; have HP := Lib.hid hp; have E8 := Lib.hid e8; have E4 := Lib.hid e4; have EN := Lib.hid eN; have PVR := Lib.hid pvr; clear h2b h2 hr hf hp e8 e4 eN pvr
  go_enter Tryd.func19, Tryd.ntmps19
  go_wp2_with (first | ((with_reducible show wpList _ _ _ (⟨some 3, .box 22 (.tmp 0), _, _, _, _⟩ :: _) _ _); refine step_boxA (dst := some 3) S 22 (.tmp 0) _ rfl rfl ?_; clear S; intro g3 w S) | ((with_reducible show wpList _ _ _ (⟨_, .load 50 _, _, _, _, _⟩ :: _) _ _); first | (refine step_loadR 50 _ _ _ rfl _ (S.old_range hy) _ Tryd.underlying50 rfl 35 (by kernel_rfl) (by first | rfl | (first | rfl | assumption | (exact Hid.out (by assumption)) | (exact rcdL_size _) | (exact sgtL_size _) | (exact smD_length _) | (exact sumD_length _) | (rw [arr8_size]; first | rfl | assumption | (exact Hid.out (by assumption)) | exact rcdL_size _ | exact sgtL_size _ | exact smD_length _ | exact sumD_length _ | exact List.length_replicate ..) | (simp [arr8_size]; done))) _ rfl rfl ?_) | (refine step_loadP S 50 _ _ _ rfl _ _ _ pk 35 _ (by (first | exact cellsH_st .. | exact rqL_tok .. | exact rcdL_link .. | exact rpL_tok .. | assumption | rfl)) (by first | rfl | (first | rfl | assumption | (exact Hid.out (by assumption)) | (exact rcdL_size _) | (exact sgtL_size _) | (exact smD_length _) | (exact sumD_length _) | (rw [arr8_size]; first | rfl | assumption | (exact Hid.out (by assumption)) | exact rcdL_size _ | exact sgtL_size _ | exact smD_length _ | exact sumD_length _ | exact List.length_replicate ..) | (simp [arr8_size]; done))) _ Tryd.underlying50 rfl (by kernel_rfl) rfl ?_)) | ((with_reducible show wpList _ _ _ (⟨_, .load 25 _, _, _, _, _⟩ :: _) _ _); first | (refine step_load1 25 _ _ _ rfl (S.cell pk co) _ Tryd.underlying25 rfl rfl ?_) | (refine step_load1 25 _ _ _ rfl (S.row_cell pk _ _ hyr) _ Tryd.underlying25 rfl rfl ?_) | (refine step_load1 25 _ _ _ rfl (S.row_cellS pk _ _ hy) _ Tryd.underlying25 rfl rfl ?_) | (refine step_load1 25 _ _ _ rfl (S.old_cell hy) _ Tryd.underlying25 rfl rfl ?_)) | ((with_reducible show wpList _ _ _ (⟨_, .load 22 _, _, _, _, _⟩ :: _) _ _); first | (refine step_loadR 22 _ _ _ rfl _ (S.old_range hy) _ Tryd.underlying22 rfl 32 (by kernel_rfl) (by first | rfl | (first | rfl | assumption | (exact Hid.out (by assumption)) | (exact rcdL_size _) | (exact sgtL_size _) | (exact smD_length _) | (exact sumD_length _) | (rw [arr8_size]; first | rfl | assumption | (exact Hid.out (by assumption)) | exact rcdL_size _ | exact sgtL_size _ | exact smD_length _ | exact sumD_length _ | exact List.length_replicate ..) | (simp [arr8_size]; done))) _ rfl rfl ?_) | (refine step_loadP S 22 _ _ _ rfl _ _ _ pk 32 _ (by (first | exact cellsH_st .. | exact rqL_tok .. | exact rcdL_link .. | exact rpL_tok .. | assumption | rfl)) (by first | rfl | (first | rfl | assumption | (exact Hid.out (by assumption)) | (exact rcdL_size _) | (exact sgtL_size _) | (exact smD_length _) | (exact sumD_length _) | (rw [arr8_size]; first | rfl | assumption | (exact Hid.out (by assumption)) | exact rcdL_size _ | exact sgtL_size _ | exact smD_length _ | exact sumD_length _ | exact List.length_replicate ..) | (simp [arr8_size]; done))) _ Tryd.underlying22 rfl (by kernel_rfl) rfl ?_)) | ((with_reducible show wpList _ _ _ (⟨_, .load 22 _, _, _, _, _⟩ :: _) _ _); first | (refine step_load S 22 _ _ rfl _ _ _ pk _ Tryd.underlying22 rfl 32 (by kernel_rfl) (by first | rfl | (first | rfl | assumption | (exact Hid.out (by assumption)) | (exact rcdL_size _) | (exact sgtL_size _) | (exact smD_length _) | (exact sumD_length _) | (rw [arr8_size]; first | rfl | assumption | (exact Hid.out (by assumption)) | exact rcdL_size _ | exact sgtL_size _ | exact smD_length _ | exact sumD_length _ | exact List.length_replicate ..) | (simp [arr8_size]; done))) rfl ?_) | (refine step_loadO 22 _ _ rfl _ _ _ (S.old_heap (Hid.out (by assumption))) _ Tryd.underlying22 rfl 32 (by kernel_rfl) (by first | rfl | (first | rfl | assumption | (exact Hid.out (by assumption)) | (exact rcdL_size _) | (exact sgtL_size _) | (exact smD_length _) | (exact sumD_length _) | (rw [arr8_size]; first | rfl | assumption | (exact Hid.out (by assumption)) | exact rcdL_size _ | exact sgtL_size _ | exact smD_length _ | exact sumD_length _ | exact List.length_replicate ..) | (simp [arr8_size]; done))) rfl ?_) | (refine step_loadR 22 _ _ _ rfl _ (S.old_range hy) _ Tryd.underlying22 rfl 32 (by kernel_rfl) (by first | rfl | (first | rfl | assumption | (exact Hid.out (by assumption)) | (exact rcdL_size _) | (exact sgtL_size _) | (exact smD_length _) | (exact sumD_length _) | (rw [arr8_size]; first | rfl | assumption | (exact Hid.out (by assumption)) | exact rcdL_size _ | exact sgtL_size _ | exact smD_length _ | exact sumD_length _ | exact List.length_replicate ..) | (simp [arr8_size]; done))) _ rfl rfl ?_)) | ((with_reducible show wpList _ _ _ (⟨_, .load 23 _, _, _, _, _⟩ :: _) _ _); first | (refine step_load1 23 _ _ _ rfl (S.cell pk co) _ Tryd.underlying23 rfl rfl ?_) | (refine step_load1 23 _ _ _ rfl (S.row_cell pk _ _ hyr) _ Tryd.underlying23 rfl rfl ?_) | (refine step_load1 23 _ _ _ rfl (S.row_cellS pk _ _ hy) _ Tryd.underlying23 rfl rfl ?_) | (refine step_load1 23 _ _ _ rfl (S.old_cell hy) _ Tryd.underlying23 rfl rfl ?_)) | ((with_reducible show wpList _ _ _ (⟨_, .load 5 _, _, _, _, _⟩ :: _) _ _); first | (refine step_load1 5 _ _ _ rfl (S.cell pk co) _ Tryd.underlying5 rfl rfl ?_) | (refine step_load1 5 _ _ _ rfl (S.row_cell pk _ _ hyr) _ Tryd.underlying5 rfl rfl ?_) | (refine step_load1 5 _ _ _ rfl (S.row_cellS pk _ _ hy) _ Tryd.underlying5 rfl rfl ?_) | (refine step_load1 5 _ _ _ rfl (S.old_cell hy) _ Tryd.underlying5 rfl rfl ?_)) | ((with_reducible show wpList _ _ _ (⟨_, .load 24 _, _, _, _, _⟩ :: _) _ _); first | (refine step_load1 24 _ _ _ rfl (S.cell pk co) _ Tryd.underlying24 rfl rfl ?_) | (refine step_load1 24 _ _ _ rfl (S.row_cell pk _ _ hyr) _ Tryd.underlying24 rfl rfl ?_) | (refine step_load1 24 _ _ _ rfl (S.row_cellS pk _ _ hy) _ Tryd.underlying24 rfl rfl ?_) | (refine step_load1 24 _ _ _ rfl (S.old_cell hy) _ Tryd.underlying24 rfl rfl ?_)) | ((with_reducible show wpList _ _ _ (⟨none, .store 22 (.tmp 3) (.tmp 81), _, _, _, _⟩ :: _) _ _); refine step_store S 22 (.tmp 3) (.tmp 81) _ _ rfl rfl _ _ pk 32 (by kernel_rfl) (by first | rfl | (first | rfl | assumption | (exact Hid.out (by assumption)) | (exact rcdL_size _) | (exact sgtL_size _) | (exact smD_length _) | (exact sumD_length _) | (rw [arr8_size]; first | rfl | assumption | (exact Hid.out (by assumption)) | exact rcdL_size _ | exact sgtL_size _ | exact smD_length _ | exact sumD_length _ | exact List.length_replicate ..) | (simp [arr8_size]; done))) (by first | rfl | (first | rfl | assumption | (exact Hid.out (by assumption)) | (exact rcdL_size _) | (exact sgtL_size _) | (exact smD_length _) | (exact sumD_length _) | (rw [arr8_size]; first | rfl | assumption | (exact Hid.out (by assumption)) | exact rcdL_size _ | exact sgtL_size _ | exact smD_length _ | exact sumD_length _ | exact List.length_replicate ..) | (simp [arr8_size]; done))) on1 rfl ?_; clear S; intro w S) | fail)
  go_loopw [8] (fun u wr => ∃ (k : Nat), k ≤ l.length ∧ u = .int .i64 (k : Int) ∧ (∀ (j : Nat) (hj : j < l.length), j < k → rcdV l[j] = true) ∧ Has w0 wr [blk g3 (.cells (arr8 prev) 22 (0, 0))]) (fun u _ => l.length - (intOf u).toNat)
  case atStart => exact ⟨0, Nat.zero_le _, rfl, fun j _ hj => by omega, S⟩
  case round =>
    clear S
    obtain ⟨k, hk, rfl, hgood, S⟩ := hrel
    by_cases hlt : k < l.length
    · have hx : l[k]? = some l[k] := List.getElem?_eq_getElem hlt
      obtain ⟨b, off, rfl, hcell⟩ := HR.out.atA (by omega)
      have hrg := HR.out.elem rcdL_length (by decide) k _ hx
      have hm : l[k] ∈ l := List.getElem_mem hlt
      have hsucc : rcdV l[k] = true → ∀ (j : Nat) (hj : j < l.length), j < k + 1 → rcdV l[j] = true := fun h j hj hjk => by
        by_cases hjk2 : j = k
        · subst hjk2; exact h
        · exact hgood j hj (by omega)
      obtain ⟨x, hxe⟩ : ∃ x, x = l[k] := ⟨_, rfl⟩
      rw [← hxe] at hrg hm hsucc
      have pv := PVR.out x
      have hki : (k : Int) < (l.length : Int) := by omega
      have hki2 : (k : Int) < 9223372036854775807 := by omega
      clear hgood
      cases hq : rcdV x with
      | false =>
        have hres := E8.out x hm hq
        rw [hq] at pv
        clear hx hcell hsucc hxe hq hm
        have HRG := Lib.hid hrg; have PV := Lib.hid pv; have HRES := Lib.hid hres; clear hrg pv hres
        go_wp2_with (first | ((with_reducible show wpList _ _ _ (⟨some 3, .box 22 (.tmp 0), _, _, _, _⟩ :: _) _ _); refine step_boxA (dst := some 3) S 22 (.tmp 0) _ rfl rfl ?_; clear S; intro g3 w S) | ((with_reducible show wpList _ _ _ (⟨_, .load 50 _, _, _, _, _⟩ :: _) _ _); first | (refine step_loadR 50 _ _ _ rfl _ (S.old_range hy) _ Tryd.underlying50 rfl 35 (by kernel_rfl) (by first | rfl | (first | rfl | assumption | (exact Hid.out (by assumption)) | (exact rcdL_size _) | (exact sgtL_size _) | (exact smD_length _) | (exact sumD_length _) | (rw [arr8_size]; first | rfl | assumption | (exact Hid.out (by assumption)) | exact rcdL_size _ | exact sgtL_size _ | exact smD_length _ | exact sumD_length _ | exact List.length_replicate ..) | (simp [arr8_size]; done))) _ rfl rfl ?_) | (refine step_loadP S 50 _ _ _ rfl _ _ _ pk 35 _ (by (first | exact cellsH_st .. | exact rqL_tok .. | exact rcdL_link .. | exact rpL_tok .. | assumption | rfl)) (by first | rfl | (first | rfl | assumption | (exact Hid.out (by assumption)) | (exact rcdL_size _) | (exact sgtL_size _) | (exact smD_length _) | (exact sumD_length _) | (rw [arr8_size]; first | rfl | assumption | (exact Hid.out (by assumption)) | exact rcdL_size _ | exact sgtL_size _ | exact smD_length _ | exact sumD_length _ | exact List.length_replicate ..) | (simp [arr8_size]; done))) _ Tryd.underlying50 rfl (by kernel_rfl) rfl ?_)) | (go_at_call 44; (with_reducible refine (PV.out _).mono ?_); rintro e w1 ⟨rfl, T⟩; replace S := S.call T; clear T; (try simp only [List.nil_append, List.cons_append] at S)) | ((with_reducible show wpList _ _ _ (⟨_, .load 25 _, _, _, _, _⟩ :: _) _ _); first | (refine step_load1 25 _ _ _ rfl (S.cell pk co) _ Tryd.underlying25 rfl rfl ?_) | (refine step_load1 25 _ _ _ rfl (S.row_cell pk _ _ hyr) _ Tryd.underlying25 rfl rfl ?_) | (refine step_load1 25 _ _ _ rfl (S.row_cellS pk _ _ hy) _ Tryd.underlying25 rfl rfl ?_) | (refine step_load1 25 _ _ _ rfl (S.old_cell hy) _ Tryd.underlying25 rfl rfl ?_)) | ((with_reducible show wpList _ _ _ (⟨_, .load 22 _, _, _, _, _⟩ :: _) _ _); first | (refine step_loadR 22 _ _ _ rfl _ (S.old_range hy) _ Tryd.underlying22 rfl 32 (by kernel_rfl) (by first | rfl | (first | rfl | assumption | (exact Hid.out (by assumption)) | (exact rcdL_size _) | (exact sgtL_size _) | (exact smD_length _) | (exact sumD_length _) | (rw [arr8_size]; first | rfl | assumption | (exact Hid.out (by assumption)) | exact rcdL_size _ | exact sgtL_size _ | exact smD_length _ | exact sumD_length _ | exact List.length_replicate ..) | (simp [arr8_size]; done))) _ rfl rfl ?_) | (refine step_loadP S 22 _ _ _ rfl _ _ _ pk 32 _ (by (first | exact cellsH_st .. | exact rqL_tok .. | exact rcdL_link .. | exact rpL_tok .. | assumption | rfl)) (by first | rfl | (first | rfl | assumption | (exact Hid.out (by assumption)) | (exact rcdL_size _) | (exact sgtL_size _) | (exact smD_length _) | (exact sumD_length _) | (rw [arr8_size]; first | rfl | assumption | (exact Hid.out (by assumption)) | exact rcdL_size _ | exact sgtL_size _ | exact smD_length _ | exact sumD_length _ | exact List.length_replicate ..) | (simp [arr8_size]; done))) _ Tryd.underlying22 rfl (by kernel_rfl) rfl ?_)) | ((with_reducible show wpList _ _ _ (⟨_, .load 22 _, _, _, _, _⟩ :: _) _ _); first | (refine step_load S 22 _ _ rfl _ _ _ pk _ Tryd.underlying22 rfl 32 (by kernel_rfl) (by first | rfl | (first | rfl | assumption | (exact Hid.out (by assumption)) | (exact rcdL_size _) | (exact sgtL_size _) | (exact smD_length _) | (exact sumD_length _) | (rw [arr8_size]; first | rfl | assumption | (exact Hid.out (by assumption)) | exact rcdL_size _ | exact sgtL_size _ | exact smD_length _ | exact sumD_length _ | exact List.length_replicate ..) | (simp [arr8_size]; done))) rfl ?_) | (refine step_loadO 22 _ _ rfl _ _ _ (S.old_heap (Hid.out (by assumption))) _ Tryd.underlying22 rfl 32 (by kernel_rfl) (by first | rfl | (first | rfl | assumption | (exact Hid.out (by assumption)) | (exact rcdL_size _) | (exact sgtL_size _) | (exact smD_length _) | (exact sumD_length _) | (rw [arr8_size]; first | rfl | assumption | (exact Hid.out (by assumption)) | exact rcdL_size _ | exact sgtL_size _ | exact smD_length _ | exact sumD_length _ | exact List.length_replicate ..) | (simp [arr8_size]; done))) rfl ?_) | (refine step_loadR 22 _ _ _ rfl _ (S.old_range hy) _ Tryd.underlying22 rfl 32 (by kernel_rfl) (by first | rfl | (first | rfl | assumption | (exact Hid.out (by assumption)) | (exact rcdL_size _) | (exact sgtL_size _) | (exact smD_length _) | (exact sumD_length _) | (rw [arr8_size]; first | rfl | assumption | (exact Hid.out (by assumption)) | exact rcdL_size _ | exact sgtL_size _ | exact smD_length _ | exact sumD_length _ | exact List.length_replicate ..) | (simp [arr8_size]; done))) _ rfl rfl ?_)) | ((with_reducible show wpList _ _ _ (⟨_, .load 23 _, _, _, _, _⟩ :: _) _ _); first | (refine step_load1 23 _ _ _ rfl (S.cell pk co) _ Tryd.underlying23 rfl rfl ?_) | (refine step_load1 23 _ _ _ rfl (S.row_cell pk _ _ hyr) _ Tryd.underlying23 rfl rfl ?_) | (refine step_load1 23 _ _ _ rfl (S.row_cellS pk _ _ hy) _ Tryd.underlying23 rfl rfl ?_) | (refine step_load1 23 _ _ _ rfl (S.old_cell hy) _ Tryd.underlying23 rfl rfl ?_)) | ((with_reducible show wpList _ _ _ (⟨_, .load 5 _, _, _, _, _⟩ :: _) _ _); first | (refine step_load1 5 _ _ _ rfl (S.cell pk co) _ Tryd.underlying5 rfl rfl ?_) | (refine step_load1 5 _ _ _ rfl (S.row_cell pk _ _ hyr) _ Tryd.underlying5 rfl rfl ?_) | (refine step_load1 5 _ _ _ rfl (S.row_cellS pk _ _ hy) _ Tryd.underlying5 rfl rfl ?_) | (refine step_load1 5 _ _ _ rfl (S.old_cell hy) _ Tryd.underlying5 rfl rfl ?_)) | ((with_reducible show wpList _ _ _ (⟨_, .load 24 _, _, _, _, _⟩ :: _) _ _); first | (refine step_load1 24 _ _ _ rfl (S.cell pk co) _ Tryd.underlying24 rfl rfl ?_) | (refine step_load1 24 _ _ _ rfl (S.row_cell pk _ _ hyr) _ Tryd.underlying24 rfl rfl ?_) | (refine step_load1 24 _ _ _ rfl (S.row_cellS pk _ _ hy) _ Tryd.underlying24 rfl rfl ?_) | (refine step_load1 24 _ _ _ rfl (S.old_cell hy) _ Tryd.underlying24 rfl rfl ?_)) | ((with_reducible show wpList _ _ _ (⟨none, .store 22 (.tmp 3) (.tmp 81), _, _, _, _⟩ :: _) _ _); refine step_store S 22 (.tmp 3) (.tmp 81) _ _ rfl rfl _ _ pk 32 (by kernel_rfl) (by first | rfl | (first | rfl | assumption | (exact Hid.out (by assumption)) | (exact rcdL_size _) | (exact sgtL_size _) | (exact smD_length _) | (exact sumD_length _) | (rw [arr8_size]; first | rfl | assumption | (exact Hid.out (by assumption)) | exact rcdL_size _ | exact sgtL_size _ | exact smD_length _ | exact sumD_length _ | exact List.length_replicate ..) | (simp [arr8_size]; done))) (by first | rfl | (first | rfl | assumption | (exact Hid.out (by assumption)) | (exact rcdL_size _) | (exact sgtL_size _) | (exact smD_length _) | (exact sumD_length _) | (rw [arr8_size]; first | rfl | assumption | (exact Hid.out (by assumption)) | exact rcdL_size _ | exact sgtL_size _ | exact smD_length _ | exact sumD_length _ | exact List.length_replicate ..) | (simp [arr8_size]; done))) on1 rfl ?_; clear S; intro w S) | fail)
        go_ret2
        exact ⟨by rw [HRES.out]; rfl, S.nil⟩
      | true =>
        have hgd := hsucc hq
        rw [hq] at pv
        clear hx hcell hsucc hxe hq hm
        have HRG := Lib.hid hrg; have PV := Lib.hid pv; have HGD := Lib.hid hgd; clear hrg pv hgd
        go_wp2_with (first | ((with_reducible show wpList _ _ _ (⟨some 3, .box 22 (.tmp 0), _, _, _, _⟩ :: _) _ _); refine step_boxA (dst := some 3) S 22 (.tmp 0) _ rfl rfl ?_; clear S; intro g3 w S) | ((with_reducible show wpList _ _ _ (⟨_, .load 50 _, _, _, _, _⟩ :: _) _ _); first | (refine step_loadR 50 _ _ _ rfl _ (S.old_range hy) _ Tryd.underlying50 rfl 35 (by kernel_rfl) (by first | rfl | (first | rfl | assumption | (exact Hid.out (by assumption)) | (exact rcdL_size _) | (exact sgtL_size _) | (exact smD_length _) | (exact sumD_length _) | (rw [arr8_size]; first | rfl | assumption | (exact Hid.out (by assumption)) | exact rcdL_size _ | exact sgtL_size _ | exact smD_length _ | exact sumD_length _ | exact List.length_replicate ..) | (simp [arr8_size]; done))) _ rfl rfl ?_) | (refine step_loadP S 50 _ _ _ rfl _ _ _ pk 35 _ (by (first | exact cellsH_st .. | exact rqL_tok .. | exact rcdL_link .. | exact rpL_tok .. | assumption | rfl)) (by first | rfl | (first | rfl | assumption | (exact Hid.out (by assumption)) | (exact rcdL_size _) | (exact sgtL_size _) | (exact smD_length _) | (exact sumD_length _) | (rw [arr8_size]; first | rfl | assumption | (exact Hid.out (by assumption)) | exact rcdL_size _ | exact sgtL_size _ | exact smD_length _ | exact sumD_length _ | exact List.length_replicate ..) | (simp [arr8_size]; done))) _ Tryd.underlying50 rfl (by kernel_rfl) rfl ?_)) | (go_at_call 44; (with_reducible refine (PV.out _).mono ?_); rintro e w1 ⟨rfl, T⟩; replace S := S.call T; clear T; (try simp only [List.nil_append, List.cons_append] at S)) | ((with_reducible show wpList _ _ _ (⟨_, .load 25 _, _, _, _, _⟩ :: _) _ _); first | (refine step_load1 25 _ _ _ rfl (S.cell pk co) _ Tryd.underlying25 rfl rfl ?_) | (refine step_load1 25 _ _ _ rfl (S.row_cell pk _ _ hyr) _ Tryd.underlying25 rfl rfl ?_) | (refine step_load1 25 _ _ _ rfl (S.row_cellS pk _ _ hy) _ Tryd.underlying25 rfl rfl ?_) | (refine step_load1 25 _ _ _ rfl (S.old_cell hy) _ Tryd.underlying25 rfl rfl ?_)) | ((with_reducible show wpList _ _ _ (⟨_, .load 22 _, _, _, _, _⟩ :: _) _ _); first | (refine step_loadR 22 _ _ _ rfl _ (S.old_range hy) _ Tryd.underlying22 rfl 32 (by kernel_rfl) (by first | rfl | (first | rfl | assumption | (exact Hid.out (by assumption)) | (exact rcdL_size _) | (exact sgtL_size _) | (exact smD_length _) | (exact sumD_length _) | (rw [arr8_size]; first | rfl | assumption | (exact Hid.out (by assumption)) | exact rcdL_size _ | exact sgtL_size _ | exact smD_length _ | exact sumD_length _ | exact List.length_replicate ..) | (simp [arr8_size]; done))) _ rfl rfl ?_) | (refine step_loadP S 22 _ _ _ rfl _ _ _ pk 32 _ (by (first | exact cellsH_st .. | exact rqL_tok .. | exact rcdL_link .. | exact rpL_tok .. | assumption | rfl)) (by first | rfl | (first | rfl | assumption | (exact Hid.out (by assumption)) | (exact rcdL_size _) | (exact sgtL_size _) | (exact smD_length _) | (exact sumD_length _) | (rw [arr8_size]; first | rfl | assumption | (exact Hid.out (by assumption)) | exact rcdL_size _ | exact sgtL_size _ | exact smD_length _ | exact sumD_length _ | exact List.length_replicate ..) | (simp [arr8_size]; done))) _ Tryd.underlying22 rfl (by kernel_rfl) rfl ?_)) | ((with_reducible show wpList _ _ _ (⟨_, .load 22 _, _, _, _, _⟩ :: _) _ _); first | (refine step_load S 22 _ _ rfl _ _ _ pk _ Tryd.underlying22 rfl 32 (by kernel_rfl) (by first | rfl | (first | rfl | assumption | (exact Hid.out (by assumption)) | (exact rcdL_size _) | (exact sgtL_size _) | (exact smD_length _) | (exact sumD_length _) | (rw [arr8_size]; first | rfl | assumption | (exact Hid.out (by assumption)) | exact rcdL_size _ | exact sgtL_size _ | exact smD_length _ | exact sumD_length _ | exact List.length_replicate ..) | (simp [arr8_size]; done))) rfl ?_) | (refine step_loadO 22 _ _ rfl _ _ _ (S.old_heap (Hid.out (by assumption))) _ Tryd.underlying22 rfl 32 (by kernel_rfl) (by first | rfl | (first | rfl | assumption | (exact Hid.out (by assumption)) | (exact rcdL_size _) | (exact sgtL_size _) | (exact smD_length _) | (exact sumD_length _) | (rw [arr8_size]; first | rfl | assumption | (exact Hid.out (by assumption)) | exact rcdL_size _ | exact sgtL_size _ | exact smD_length _ | exact sumD_length _ | exact List.length_replicate ..) | (simp [arr8_size]; done))) rfl ?_) | (refine step_loadR 22 _ _ _ rfl _ (S.old_range hy) _ Tryd.underlying22 rfl 32 (by kernel_rfl) (by first | rfl | (first | rfl | assumption | (exact Hid.out (by assumption)) | (exact rcdL_size _) | (exact sgtL_size _) | (exact smD_length _) | (exact sumD_length _) | (rw [arr8_size]; first | rfl | assumption | (exact Hid.out (by assumption)) | exact rcdL_size _ | exact sgtL_size _ | exact smD_length _ | exact sumD_length _ | exact List.length_replicate ..) | (simp [arr8_size]; done))) _ rfl rfl ?_)) | ((with_reducible show wpList _ _ _ (⟨_, .load 23 _, _, _, _, _⟩ :: _) _ _); first | (refine step_load1 23 _ _ _ rfl (S.cell pk co) _ Tryd.underlying23 rfl rfl ?_) | (refine step_load1 23 _ _ _ rfl (S.row_cell pk _ _ hyr) _ Tryd.underlying23 rfl rfl ?_) | (refine step_load1 23 _ _ _ rfl (S.row_cellS pk _ _ hy) _ Tryd.underlying23 rfl rfl ?_) | (refine step_load1 23 _ _ _ rfl (S.old_cell hy) _ Tryd.underlying23 rfl rfl ?_)) | ((with_reducible show wpList _ _ _ (⟨_, .load 5 _, _, _, _, _⟩ :: _) _ _); first | (refine step_load1 5 _ _ _ rfl (S.cell pk co) _ Tryd.underlying5 rfl rfl ?_) | (refine step_load1 5 _ _ _ rfl (S.row_cell pk _ _ hyr) _ Tryd.underlying5 rfl rfl ?_) | (refine step_load1 5 _ _ _ rfl (S.row_cellS pk _ _ hy) _ Tryd.underlying5 rfl rfl ?_) | (refine step_load1 5 _ _ _ rfl (S.old_cell hy) _ Tryd.underlying5 rfl rfl ?_)) | ((with_reducible show wpList _ _ _ (⟨_, .load 24 _, _, _, _, _⟩ :: _) _ _); first | (refine step_load1 24 _ _ _ rfl (S.cell pk co) _ Tryd.underlying24 rfl rfl ?_) | (refine step_load1 24 _ _ _ rfl (S.row_cell pk _ _ hyr) _ Tryd.underlying24 rfl rfl ?_) | (refine step_load1 24 _ _ _ rfl (S.row_cellS pk _ _ hy) _ Tryd.underlying24 rfl rfl ?_) | (refine step_load1 24 _ _ _ rfl (S.old_cell hy) _ Tryd.underlying24 rfl rfl ?_)) | ((with_reducible show wpList _ _ _ (⟨none, .store 22 (.tmp 3) (.tmp 81), _, _, _, _⟩ :: _) _ _); refine step_store S 22 (.tmp 3) (.tmp 81) _ _ rfl rfl _ _ pk 32 (by kernel_rfl) (by first | rfl | (first | rfl | assumption | (exact Hid.out (by assumption)) | (exact rcdL_size _) | (exact sgtL_size _) | (exact smD_length _) | (exact sumD_length _) | (rw [arr8_size]; first | rfl | assumption | (exact Hid.out (by assumption)) | exact rcdL_size _ | exact sgtL_size _ | exact smD_length _ | exact sumD_length _ | exact List.length_replicate ..) | (simp [arr8_size]; done))) (by first | rfl | (first | rfl | assumption | (exact Hid.out (by assumption)) | (exact rcdL_size _) | (exact sgtL_size _) | (exact smD_length _) | (exact sumD_length _) | (rw [arr8_size]; first | rfl | assumption | (exact Hid.out (by assumption)) | exact rcdL_size _ | exact sgtL_size _ | exact smD_length _ | exact sumD_length _ | exact List.length_replicate ..) | (simp [arr8_size]; done))) on1 rfl ?_; clear S; intro w S) | fail)
        go_roundw
        case rel => exact ⟨k + 1, by omega, by go_num, HGD.out, S.sub (by repeat (first | exact Sub.nil _ | refine Sub.cons pk ?_))⟩
        case measure => simp [intOf]; omega
    · obtain rfl : k = l.length := by omega
      have hki : ¬ (l.length : Int) < (l.length : Int) := by omega
      have hall : ∀ x ∈ l, rcdV x = true := fun x hx => by
        obtain ⟨j, hj, rfl⟩ := List.getElem_of_mem hx
        exact hgood j hj hj
      clear hgood
      have HALL := Lib.hid hall; clear hall
      go_wp2_with (first | ((with_reducible show wpList _ _ _ (⟨some 3, .box 22 (.tmp 0), _, _, _, _⟩ :: _) _ _); refine step_boxA (dst := some 3) S 22 (.tmp 0) _ rfl rfl ?_; clear S; intro g3 w S) | ((with_reducible show wpList _ _ _ (⟨_, .load 50 _, _, _, _, _⟩ :: _) _ _); first | (refine step_loadR 50 _ _ _ rfl _ (S.old_range hy) _ Tryd.underlying50 rfl 35 (by kernel_rfl) (by first | rfl | (first | rfl | assumption | (exact Hid.out (by assumption)) | (exact rcdL_size _) | (exact sgtL_size _) | (exact smD_length _) | (exact sumD_length _) | (rw [arr8_size]; first | rfl | assumption | (exact Hid.out (by assumption)) | exact rcdL_size _ | exact sgtL_size _ | exact smD_length _ | exact sumD_length _ | exact List.length_replicate ..) | (simp [arr8_size]; done))) _ rfl rfl ?_) | (refine step_loadP S 50 _ _ _ rfl _ _ _ pk 35 _ (by (first | exact cellsH_st .. | exact rqL_tok .. | exact rcdL_link .. | exact rpL_tok .. | assumption | rfl)) (by first | rfl | (first | rfl | assumption | (exact Hid.out (by assumption)) | (exact rcdL_size _) | (exact sgtL_size _) | (exact smD_length _) | (exact sumD_length _) | (rw [arr8_size]; first | rfl | assumption | (exact Hid.out (by assumption)) | exact rcdL_size _ | exact sgtL_size _ | exact smD_length _ | exact sumD_length _ | exact List.length_replicate ..) | (simp [arr8_size]; done))) _ Tryd.underlying50 rfl (by kernel_rfl) rfl ?_)) | ((with_reducible show wpList _ _ _ (⟨_, .load 25 _, _, _, _, _⟩ :: _) _ _); first | (refine step_load1 25 _ _ _ rfl (S.cell pk co) _ Tryd.underlying25 rfl rfl ?_) | (refine step_load1 25 _ _ _ rfl (S.row_cell pk _ _ hyr) _ Tryd.underlying25 rfl rfl ?_) | (refine step_load1 25 _ _ _ rfl (S.row_cellS pk _ _ hy) _ Tryd.underlying25 rfl rfl ?_) | (refine step_load1 25 _ _ _ rfl (S.old_cell hy) _ Tryd.underlying25 rfl rfl ?_)) | ((with_reducible show wpList _ _ _ (⟨_, .load 22 _, _, _, _, _⟩ :: _) _ _); first | (refine step_loadR 22 _ _ _ rfl _ (S.old_range hy) _ Tryd.underlying22 rfl 32 (by kernel_rfl) (by first | rfl | (first | rfl | assumption | (exact Hid.out (by assumption)) | (exact rcdL_size _) | (exact sgtL_size _) | (exact smD_length _) | (exact sumD_length _) | (rw [arr8_size]; first | rfl | assumption | (exact Hid.out (by assumption)) | exact rcdL_size _ | exact sgtL_size _ | exact smD_length _ | exact sumD_length _ | exact List.length_replicate ..) | (simp [arr8_size]; done))) _ rfl rfl ?_) | (refine step_loadP S 22 _ _ _ rfl _ _ _ pk 32 _ (by (first | exact cellsH_st .. | exact rqL_tok .. | exact rcdL_link .. | exact rpL_tok .. | assumption | rfl)) (by first | rfl | (first | rfl | assumption | (exact Hid.out (by assumption)) | (exact rcdL_size _) | (exact sgtL_size _) | (exact smD_length _) | (exact sumD_length _) | (rw [arr8_size]; first | rfl | assumption | (exact Hid.out (by assumption)) | exact rcdL_size _ | exact sgtL_size _ | exact smD_length _ | exact sumD_length _ | exact List.length_replicate ..) | (simp [arr8_size]; done))) _ Tryd.underlying22 rfl (by kernel_rfl) rfl ?_)) | ((with_reducible show wpList _ _ _ (⟨_, .load 22 _, _, _, _, _⟩ :: _) _ _); first | (refine step_load S 22 _ _ rfl _ _ _ pk _ Tryd.underlying22 rfl 32 (by kernel_rfl) (by first | rfl | (first | rfl | assumption | (exact Hid.out (by assumption)) | (exact rcdL_size _) | (exact sgtL_size _) | (exact smD_length _) | (exact sumD_length _) | (rw [arr8_size]; first | rfl | assumption | (exact Hid.out (by assumption)) | exact rcdL_size _ | exact sgtL_size _ | exact smD_length _ | exact sumD_length _ | exact List.length_replicate ..) | (simp [arr8_size]; done))) rfl ?_) | (refine step_loadO 22 _ _ rfl _ _ _ (S.old_heap (Hid.out (by assumption))) _ Tryd.underlying22 rfl 32 (by kernel_rfl) (by first | rfl | (first | rfl | assumption | (exact Hid.out (by assumption)) | (exact rcdL_size _) | (exact sgtL_size _) | (exact smD_length _) | (exact sumD_length _) | (rw [arr8_size]; first | rfl | assumption | (exact Hid.out (by assumption)) | exact rcdL_size _ | exact sgtL_size _ | exact smD_length _ | exact sumD_length _ | exact List.length_replicate ..) | (simp [arr8_size]; done))) rfl ?_) | (refine step_loadR 22 _ _ _ rfl _ (S.old_range hy) _ Tryd.underlying22 rfl 32 (by kernel_rfl) (by first | rfl | (first | rfl | assumption | (exact Hid.out (by assumption)) | (exact rcdL_size _) | (exact sgtL_size _) | (exact smD_length _) | (exact sumD_length _) | (rw [arr8_size]; first | rfl | assumption | (exact Hid.out (by assumption)) | exact rcdL_size _ | exact sgtL_size _ | exact smD_length _ | exact sumD_length _ | exact List.length_replicate ..) | (simp [arr8_size]; done))) _ rfl rfl ?_)) | ((with_reducible show wpList _ _ _ (⟨_, .load 23 _, _, _, _, _⟩ :: _) _ _); first | (refine step_load1 23 _ _ _ rfl (S.cell pk co) _ Tryd.underlying23 rfl rfl ?_) | (refine step_load1 23 _ _ _ rfl (S.row_cell pk _ _ hyr) _ Tryd.underlying23 rfl rfl ?_) | (refine step_load1 23 _ _ _ rfl (S.row_cellS pk _ _ hy) _ Tryd.underlying23 rfl rfl ?_) | (refine step_load1 23 _ _ _ rfl (S.old_cell hy) _ Tryd.underlying23 rfl rfl ?_)) | ((with_reducible show wpList _ _ _ (⟨_, .load 5 _, _, _, _, _⟩ :: _) _ _); first | (refine step_load1 5 _ _ _ rfl (S.cell pk co) _ Tryd.underlying5 rfl rfl ?_) | (refine step_load1 5 _ _ _ rfl (S.row_cell pk _ _ hyr) _ Tryd.underlying5 rfl rfl ?_) | (refine step_load1 5 _ _ _ rfl (S.row_cellS pk _ _ hy) _ Tryd.underlying5 rfl rfl ?_) | (refine step_load1 5 _ _ _ rfl (S.old_cell hy) _ Tryd.underlying5 rfl rfl ?_)) | ((with_reducible show wpList _ _ _ (⟨_, .load 24 _, _, _, _, _⟩ :: _) _ _); first | (refine step_load1 24 _ _ _ rfl (S.cell pk co) _ Tryd.underlying24 rfl rfl ?_) | (refine step_load1 24 _ _ _ rfl (S.row_cell pk _ _ hyr) _ Tryd.underlying24 rfl rfl ?_) | (refine step_load1 24 _ _ _ rfl (S.row_cellS pk _ _ hy) _ Tryd.underlying24 rfl rfl ?_) | (refine step_load1 24 _ _ _ rfl (S.old_cell hy) _ Tryd.underlying24 rfl rfl ?_)) | ((with_reducible show wpList _ _ _ (⟨none, .store 22 (.tmp 3) (.tmp 81), _, _, _, _⟩ :: _) _ _); refine step_store S 22 (.tmp 3) (.tmp 81) _ _ rfl rfl _ _ pk 32 (by kernel_rfl) (by first | rfl | (first | rfl | assumption | (exact Hid.out (by assumption)) | (exact rcdL_size _) | (exact sgtL_size _) | (exact smD_length _) | (exact sumD_length _) | (rw [arr8_size]; first | rfl | assumption | (exact Hid.out (by assumption)) | exact rcdL_size _ | exact sgtL_size _ | exact smD_length _ | exact sumD_length _ | exact List.length_replicate ..) | (simp [arr8_size]; done))) (by first | rfl | (first | rfl | assumption | (exact Hid.out (by assumption)) | (exact rcdL_size _) | (exact sgtL_size _) | (exact smD_length _) | (exact sumD_length _) | (rw [arr8_size]; first | rfl | assumption | (exact Hid.out (by assumption)) | exact rcdL_size _ | exact sgtL_size _ | exact smD_length _ | exact sumD_length _ | exact List.length_replicate ..) | (simp [arr8_size]; done))) on1 rfl ?_; clear S; intro w S) | fail)
      go_loopw [9] (fun u wr => ∃ (k : Nat), k ≤ l.length ∧ u = .int .i64 (k : Int) ∧ (∀ (j : Nat) (hj : j < ps.length), j < k → ¬ 64 < (ps[j]).2.length) ∧ Has w0 wr [blk g3 (.cells (arr8 prev) 22 (0, 0))]) (fun u _ => l.length - (intOf u).toNat)
      case atStart => exact ⟨0, Nat.zero_le _, rfl, fun j _ hj => by omega, S⟩
      case round =>
        clear S
        obtain ⟨k, hk, rfl, hgood, S⟩ := hrel
        by_cases hlt : k < l.length
        · have hlt2 : k < ps.length := by rw [H2.out]; exact hlt
          have hy : ps[k]? = some ps[k] := List.getElem?_eq_getElem hlt2
          obtain ⟨b2, off2, rfl, hcell2⟩ := HF.out.1.atA (by omega)
          have hcf := hcell2 k (ps[k]).1 (by rw [List.getElem?_map, hy]; rfl)
          have hm : ps[k] ∈ ps := List.getElem_mem hlt2
          have hbs := HF.out.2 _ hm
          have hmb : (ps[k]).2 ∈ ps.map (·.2) := List.mem_map.2 ⟨_, hm, rfl⟩
          have hsucc : ¬ 64 < (ps[k]).2.length → ∀ (j : Nat) (hj : j < ps.length), j < k + 1 → ¬ 64 < (ps[j]).2.length := fun h j hj hjk => by
            by_cases hjk2 : j = k
            · subst hjk2; exact h
            · exact hgood j hj (by omega)
          obtain ⟨pb, hpb⟩ : ∃ pb, pb = (ps[k]).2 := ⟨_, rfl⟩
          obtain ⟨pv, hpv⟩ : ∃ pv, pv = (ps[k]).1 := ⟨_, rfl⟩
          rw [← hpb, ← hpv] at hbs
          rw [← hpv] at hcf
          rw [← hpb] at hmb hsucc
          clear hpb hpv
          obtain ⟨a3, c3, rfl, k5, k6⟩ := Sl.shape hbs
          have hki : (k : Int) < (l.length : Int) := by omega
          have hki3 : (k : Int) < (ps.length : Int) := by omega
          have hki2 : (k : Int) < 9223372036854775807 := by omega
          clear hgood hcell2 hm hy
          by_cases h64 : 64 < pb.length
          · have hres := E4.out HALL.out pb hmb h64
            have i6 : (64 : Int) < (pb.length : Int) := by omega
            clear hsucc hmb
            have HCF := Lib.hid hcf; have HBS := Lib.hid hbs; have HRES := Lib.hid hres; clear hcf hbs hres
            clear hlt2
            go_wp2_with (first | ((with_reducible show wpList _ _ _ (⟨some 3, .box 22 (.tmp 0), _, _, _, _⟩ :: _) _ _); refine step_boxA (dst := some 3) S 22 (.tmp 0) _ rfl rfl ?_; clear S; intro g3 w S) | ((with_reducible show wpList _ _ _ (⟨_, .load 50 _, _, _, _, _⟩ :: _) _ _); first | (refine step_loadR 50 _ _ _ rfl _ (S.old_range hy) _ Tryd.underlying50 rfl 35 (by kernel_rfl) (by first | rfl | (first | rfl | assumption | (exact Hid.out (by assumption)) | (exact rcdL_size _) | (exact sgtL_size _) | (exact smD_length _) | (exact sumD_length _) | (rw [arr8_size]; first | rfl | assumption | (exact Hid.out (by assumption)) | exact rcdL_size _ | exact sgtL_size _ | exact smD_length _ | exact sumD_length _ | exact List.length_replicate ..) | (simp [arr8_size]; done))) _ rfl rfl ?_) | (refine step_loadP S 50 _ _ _ rfl _ _ _ pk 35 _ (by (first | exact cellsH_st .. | exact rqL_tok .. | exact rcdL_link .. | exact rpL_tok .. | assumption | rfl)) (by first | rfl | (first | rfl | assumption | (exact Hid.out (by assumption)) | (exact rcdL_size _) | (exact sgtL_size _) | (exact smD_length _) | (exact sumD_length _) | (rw [arr8_size]; first | rfl | assumption | (exact Hid.out (by assumption)) | exact rcdL_size _ | exact sgtL_size _ | exact smD_length _ | exact sumD_length _ | exact List.length_replicate ..) | (simp [arr8_size]; done))) _ Tryd.underlying50 rfl (by kernel_rfl) rfl ?_)) | ((with_reducible show wpList _ _ _ (⟨_, .load 25 _, _, _, _, _⟩ :: _) _ _); first | (refine step_load1 25 _ _ _ rfl (S.cell pk co) _ Tryd.underlying25 rfl rfl ?_) | (refine step_load1 25 _ _ _ rfl (S.row_cell pk _ _ hyr) _ Tryd.underlying25 rfl rfl ?_) | (refine step_load1 25 _ _ _ rfl (S.row_cellS pk _ _ hy) _ Tryd.underlying25 rfl rfl ?_) | (refine step_load1 25 _ _ _ rfl (S.old_cell hy) _ Tryd.underlying25 rfl rfl ?_)) | ((with_reducible show wpList _ _ _ (⟨_, .load 22 _, _, _, _, _⟩ :: _) _ _); first | (refine step_loadR 22 _ _ _ rfl _ (S.old_range hy) _ Tryd.underlying22 rfl 32 (by kernel_rfl) (by first | rfl | (first | rfl | assumption | (exact Hid.out (by assumption)) | (exact rcdL_size _) | (exact sgtL_size _) | (exact smD_length _) | (exact sumD_length _) | (rw [arr8_size]; first | rfl | assumption | (exact Hid.out (by assumption)) | exact rcdL_size _ | exact sgtL_size _ | exact smD_length _ | exact sumD_length _ | exact List.length_replicate ..) | (simp [arr8_size]; done))) _ rfl rfl ?_) | (refine step_loadP S 22 _ _ _ rfl _ _ _ pk 32 _ (by (first | exact cellsH_st .. | exact rqL_tok .. | exact rcdL_link .. | exact rpL_tok .. | assumption | rfl)) (by first | rfl | (first | rfl | assumption | (exact Hid.out (by assumption)) | (exact rcdL_size _) | (exact sgtL_size _) | (exact smD_length _) | (exact sumD_length _) | (rw [arr8_size]; first | rfl | assumption | (exact Hid.out (by assumption)) | exact rcdL_size _ | exact sgtL_size _ | exact smD_length _ | exact sumD_length _ | exact List.length_replicate ..) | (simp [arr8_size]; done))) _ Tryd.underlying22 rfl (by kernel_rfl) rfl ?_)) | ((with_reducible show wpList _ _ _ (⟨_, .load 22 _, _, _, _, _⟩ :: _) _ _); first | (refine step_load S 22 _ _ rfl _ _ _ pk _ Tryd.underlying22 rfl 32 (by kernel_rfl) (by first | rfl | (first | rfl | assumption | (exact Hid.out (by assumption)) | (exact rcdL_size _) | (exact sgtL_size _) | (exact smD_length _) | (exact sumD_length _) | (rw [arr8_size]; first | rfl | assumption | (exact Hid.out (by assumption)) | exact rcdL_size _ | exact sgtL_size _ | exact smD_length _ | exact sumD_length _ | exact List.length_replicate ..) | (simp [arr8_size]; done))) rfl ?_) | (refine step_loadO 22 _ _ rfl _ _ _ (S.old_heap (Hid.out (by assumption))) _ Tryd.underlying22 rfl 32 (by kernel_rfl) (by first | rfl | (first | rfl | assumption | (exact Hid.out (by assumption)) | (exact rcdL_size _) | (exact sgtL_size _) | (exact smD_length _) | (exact sumD_length _) | (rw [arr8_size]; first | rfl | assumption | (exact Hid.out (by assumption)) | exact rcdL_size _ | exact sgtL_size _ | exact smD_length _ | exact sumD_length _ | exact List.length_replicate ..) | (simp [arr8_size]; done))) rfl ?_) | (refine step_loadR 22 _ _ _ rfl _ (S.old_range hy) _ Tryd.underlying22 rfl 32 (by kernel_rfl) (by first | rfl | (first | rfl | assumption | (exact Hid.out (by assumption)) | (exact rcdL_size _) | (exact sgtL_size _) | (exact smD_length _) | (exact sumD_length _) | (rw [arr8_size]; first | rfl | assumption | (exact Hid.out (by assumption)) | exact rcdL_size _ | exact sgtL_size _ | exact smD_length _ | exact sumD_length _ | exact List.length_replicate ..) | (simp [arr8_size]; done))) _ rfl rfl ?_)) | ((with_reducible show wpList _ _ _ (⟨_, .load 23 _, _, _, _, _⟩ :: _) _ _); first | (refine step_load1 23 _ _ _ rfl (S.cell pk co) _ Tryd.underlying23 rfl rfl ?_) | (refine step_load1 23 _ _ _ rfl (S.row_cell pk _ _ hyr) _ Tryd.underlying23 rfl rfl ?_) | (refine step_load1 23 _ _ _ rfl (S.row_cellS pk _ _ hy) _ Tryd.underlying23 rfl rfl ?_) | (refine step_load1 23 _ _ _ rfl (S.old_cell hy) _ Tryd.underlying23 rfl rfl ?_)) | ((with_reducible show wpList _ _ _ (⟨_, .load 5 _, _, _, _, _⟩ :: _) _ _); first | (refine step_load1 5 _ _ _ rfl (S.cell pk co) _ Tryd.underlying5 rfl rfl ?_) | (refine step_load1 5 _ _ _ rfl (S.row_cell pk _ _ hyr) _ Tryd.underlying5 rfl rfl ?_) | (refine step_load1 5 _ _ _ rfl (S.row_cellS pk _ _ hy) _ Tryd.underlying5 rfl rfl ?_) | (refine step_load1 5 _ _ _ rfl (S.old_cell hy) _ Tryd.underlying5 rfl rfl ?_)) | ((with_reducible show wpList _ _ _ (⟨_, .load 24 _, _, _, _, _⟩ :: _) _ _); first | (refine step_load1 24 _ _ _ rfl (S.cell pk co) _ Tryd.underlying24 rfl rfl ?_) | (refine step_load1 24 _ _ _ rfl (S.row_cell pk _ _ hyr) _ Tryd.underlying24 rfl rfl ?_) | (refine step_load1 24 _ _ _ rfl (S.row_cellS pk _ _ hy) _ Tryd.underlying24 rfl rfl ?_) | (refine step_load1 24 _ _ _ rfl (S.old_cell hy) _ Tryd.underlying24 rfl rfl ?_)) | ((with_reducible show wpList _ _ _ (⟨none, .store 22 (.tmp 3) (.tmp 81), _, _, _, _⟩ :: _) _ _); refine step_store S 22 (.tmp 3) (.tmp 81) _ _ rfl rfl _ _ pk 32 (by kernel_rfl) (by first | rfl | (first | rfl | assumption | (exact Hid.out (by assumption)) | (exact rcdL_size _) | (exact sgtL_size _) | (exact smD_length _) | (exact sumD_length _) | (rw [arr8_size]; first | rfl | assumption | (exact Hid.out (by assumption)) | exact rcdL_size _ | exact sgtL_size _ | exact smD_length _ | exact sumD_length _ | exact List.length_replicate ..) | (simp [arr8_size]; done))) (by first | rfl | (first | rfl | assumption | (exact Hid.out (by assumption)) | (exact rcdL_size _) | (exact sgtL_size _) | (exact smD_length _) | (exact sumD_length _) | (rw [arr8_size]; first | rfl | assumption | (exact Hid.out (by assumption)) | exact rcdL_size _ | exact sgtL_size _ | exact smD_length _ | exact sumD_length _ | exact List.length_replicate ..) | (simp [arr8_size]; done))) on1 rfl ?_; clear S; intro w S) | fail)
            go_ret2
            exact ⟨by rw [HRES.out]; rfl, S.nil⟩
          · have hgd := hsucc h64
            have i6 : ¬ (64 : Int) < (pb.length : Int) := by omega
            clear hsucc hmb
            have HCF := Lib.hid hcf; have HBS := Lib.hid hbs; have HGD := Lib.hid hgd; clear hcf hbs hgd
            clear hlt2
            go_wp2_with (first | ((with_reducible show wpList _ _ _ (⟨some 3, .box 22 (.tmp 0), _, _, _, _⟩ :: _) _ _); refine step_boxA (dst := some 3) S 22 (.tmp 0) _ rfl rfl ?_; clear S; intro g3 w S) | ((with_reducible show wpList _ _ _ (⟨_, .load 50 _, _, _, _, _⟩ :: _) _ _); first | (refine step_loadR 50 _ _ _ rfl _ (S.old_range hy) _ Tryd.underlying50 rfl 35 (by kernel_rfl) (by first | rfl | (first | rfl | assumption | (exact Hid.out (by assumption)) | (exact rcdL_size _) | (exact sgtL_size _) | (exact smD_length _) | (exact sumD_length _) | (rw [arr8_size]; first | rfl | assumption | (exact Hid.out (by assumption)) | exact rcdL_size _ | exact sgtL_size _ | exact smD_length _ | exact sumD_length _ | exact List.length_replicate ..) | (simp [arr8_size]; done))) _ rfl rfl ?_) | (refine step_loadP S 50 _ _ _ rfl _ _ _ pk 35 _ (by (first | exact cellsH_st .. | exact rqL_tok .. | exact rcdL_link .. | exact rpL_tok .. | assumption | rfl)) (by first | rfl | (first | rfl | assumption | (exact Hid.out (by assumption)) | (exact rcdL_size _) | (exact sgtL_size _) | (exact smD_length _) | (exact sumD_length _) | (rw [arr8_size]; first | rfl | assumption | (exact Hid.out (by assumption)) | exact rcdL_size _ | exact sgtL_size _ | exact smD_length _ | exact sumD_length _ | exact List.length_replicate ..) | (simp [arr8_size]; done))) _ Tryd.underlying50 rfl (by kernel_rfl) rfl ?_)) | ((with_reducible show wpList _ _ _ (⟨_, .load 25 _, _, _, _, _⟩ :: _) _ _); first | (refine step_load1 25 _ _ _ rfl (S.cell pk co) _ Tryd.underlying25 rfl rfl ?_) | (refine step_load1 25 _ _ _ rfl (S.row_cell pk _ _ hyr) _ Tryd.underlying25 rfl rfl ?_) | (refine step_load1 25 _ _ _ rfl (S.row_cellS pk _ _ hy) _ Tryd.underlying25 rfl rfl ?_) | (refine step_load1 25 _ _ _ rfl (S.old_cell hy) _ Tryd.underlying25 rfl rfl ?_)) | ((with_reducible show wpList _ _ _ (⟨_, .load 22 _, _, _, _, _⟩ :: _) _ _); first | (refine step_loadR 22 _ _ _ rfl _ (S.old_range hy) _ Tryd.underlying22 rfl 32 (by kernel_rfl) (by first | rfl | (first | rfl | assumption | (exact Hid.out (by assumption)) | (exact rcdL_size _) | (exact sgtL_size _) | (exact smD_length _) | (exact sumD_length _) | (rw [arr8_size]; first | rfl | assumption | (exact Hid.out (by assumption)) | exact rcdL_size _ | exact sgtL_size _ | exact smD_length _ | exact sumD_length _ | exact List.length_replicate ..) | (simp [arr8_size]; done))) _ rfl rfl ?_) | (refine step_loadP S 22 _ _ _ rfl _ _ _ pk 32 _ (by (first | exact cellsH_st .. | exact rqL_tok .. | exact rcdL_link .. | exact rpL_tok .. | assumption | rfl)) (by first | rfl | (first | rfl | assumption | (exact Hid.out (by assumption)) | (exact rcdL_size _) | (exact sgtL_size _) | (exact smD_length _) | (exact sumD_length _) | (rw [arr8_size]; first | rfl | assumption | (exact Hid.out (by assumption)) | exact rcdL_size _ | exact sgtL_size _ | exact smD_length _ | exact sumD_length _ | exact List.length_replicate ..) | (simp [arr8_size]; done))) _ Tryd.underlying22 rfl (by kernel_rfl) rfl ?_)) | ((with_reducible show wpList _ _ _ (⟨_, .load 22 _, _, _, _, _⟩ :: _) _ _); first | (refine step_load S 22 _ _ rfl _ _ _ pk _ Tryd.underlying22 rfl 32 (by kernel_rfl) (by first | rfl | (first | rfl | assumption | (exact Hid.out (by assumption)) | (exact rcdL_size _) | (exact sgtL_size _) | (exact smD_length _) | (exact sumD_length _) | (rw [arr8_size]; first | rfl | assumption | (exact Hid.out (by assumption)) | exact rcdL_size _ | exact sgtL_size _ | exact smD_length _ | exact sumD_length _ | exact List.length_replicate ..) | (simp [arr8_size]; done))) rfl ?_) | (refine step_loadO 22 _ _ rfl _ _ _ (S.old_heap (Hid.out (by assumption))) _ Tryd.underlying22 rfl 32 (by kernel_rfl) (by first | rfl | (first | rfl | assumption | (exact Hid.out (by assumption)) | (exact rcdL_size _) | (exact sgtL_size _) | (exact smD_length _) | (exact sumD_length _) | (rw [arr8_size]; first | rfl | assumption | (exact Hid.out (by assumption)) | exact rcdL_size _ | exact sgtL_size _ | exact smD_length _ | exact sumD_length _ | exact List.length_replicate ..) | (simp [arr8_size]; done))) rfl ?_) | (refine step_loadR 22 _ _ _ rfl _ (S.old_range hy) _ Tryd.underlying22 rfl 32 (by kernel_rfl) (by first | rfl | (first | rfl | assumption | (exact Hid.out (by assumption)) | (exact rcdL_size _) | (exact sgtL_size _) | (exact smD_length _) | (exact sumD_length _) | (rw [arr8_size]; first | rfl | assumption | (exact Hid.out (by assumption)) | exact rcdL_size _ | exact sgtL_size _ | exact smD_length _ | exact sumD_length _ | exact List.length_replicate ..) | (simp [arr8_size]; done))) _ rfl rfl ?_)) | ((with_reducible show wpList _ _ _ (⟨_, .load 23 _, _, _, _, _⟩ :: _) _ _); first | (refine step_load1 23 _ _ _ rfl (S.cell pk co) _ Tryd.underlying23 rfl rfl ?_) | (refine step_load1 23 _ _ _ rfl (S.row_cell pk _ _ hyr) _ Tryd.underlying23 rfl rfl ?_) | (refine step_load1 23 _ _ _ rfl (S.row_cellS pk _ _ hy) _ Tryd.underlying23 rfl rfl ?_) | (refine step_load1 23 _ _ _ rfl (S.old_cell hy) _ Tryd.underlying23 rfl rfl ?_)) | ((with_reducible show wpList _ _ _ (⟨_, .load 5 _, _, _, _, _⟩ :: _) _ _); first | (refine step_load1 5 _ _ _ rfl (S.cell pk co) _ Tryd.underlying5 rfl rfl ?_) | (refine step_load1 5 _ _ _ rfl (S.row_cell pk _ _ hyr) _ Tryd.underlying5 rfl rfl ?_) | (refine step_load1 5 _ _ _ rfl (S.row_cellS pk _ _ hy) _ Tryd.underlying5 rfl rfl ?_) | (refine step_load1 5 _ _ _ rfl (S.old_cell hy) _ Tryd.underlying5 rfl rfl ?_)) | ((with_reducible show wpList _ _ _ (⟨_, .load 24 _, _, _, _, _⟩ :: _) _ _); first | (refine step_load1 24 _ _ _ rfl (S.cell pk co) _ Tryd.underlying24 rfl rfl ?_) | (refine step_load1 24 _ _ _ rfl (S.row_cell pk _ _ hyr) _ Tryd.underlying24 rfl rfl ?_) | (refine step_load1 24 _ _ _ rfl (S.row_cellS pk _ _ hy) _ Tryd.underlying24 rfl rfl ?_) | (refine step_load1 24 _ _ _ rfl (S.old_cell hy) _ Tryd.underlying24 rfl rfl ?_)) | ((with_reducible show wpList _ _ _ (⟨none, .store 22 (.tmp 3) (.tmp 81), _, _, _, _⟩ :: _) _ _); refine step_store S 22 (.tmp 3) (.tmp 81) _ _ rfl rfl _ _ pk 32 (by kernel_rfl) (by first | rfl | (first | rfl | assumption | (exact Hid.out (by assumption)) | (exact rcdL_size _) | (exact sgtL_size _) | (exact smD_length _) | (exact sumD_length _) | (rw [arr8_size]; first | rfl | assumption | (exact Hid.out (by assumption)) | exact rcdL_size _ | exact sgtL_size _ | exact smD_length _ | exact sumD_length _ | exact List.length_replicate ..) | (simp [arr8_size]; done))) (by first | rfl | (first | rfl | assumption | (exact Hid.out (by assumption)) | (exact rcdL_size _) | (exact sgtL_size _) | (exact smD_length _) | (exact sumD_length _) | (rw [arr8_size]; first | rfl | assumption | (exact Hid.out (by assumption)) | exact rcdL_size _ | exact sgtL_size _ | exact smD_length _ | exact sumD_length _ | exact List.length_replicate ..) | (simp [arr8_size]; done))) on1 rfl ?_; clear S; intro w S) | fail)
            go_roundw
            case rel => exact ⟨k + 1, by omega, by go_num, HGD.out, S.sub (by repeat (first | exact Sub.nil _ | refine Sub.cons pk ?_))⟩
            case measure => simp [intOf]; omega
        · obtain rfl : k = l.length := by omega
          have hki : ¬ (l.length : Int) < (l.length : Int) := by omega
          have hshort : ∀ p ∈ ps, ¬ 64 < p.2.length := fun p hp => by
            obtain ⟨j, hj, rfl⟩ := List.getElem_of_mem hp
            exact hgood j hj (by rw [← H2.out]; exact hj)
          have hres := EN.out HALL.out (fun b hb => by obtain ⟨p, hp, rfl⟩ := List.mem_map.1 hb; exact hshort p hp)
          obtain ⟨N, hN⟩ : ∃ N, N = vfN prev l (ps.map (·.2)) := ⟨_, rfl⟩
          rw [← hN] at hres
          clear hgood
          have HSHORT := Lib.hid hshort; have HRES := Lib.hid hres; have HN := Lib.hid hN; clear hshort hres hN
          go_wp2_with (first | ((with_reducible show wpList _ _ _ (⟨some 3, .box 22 (.tmp 0), _, _, _, _⟩ :: _) _ _); refine step_boxA (dst := some 3) S 22 (.tmp 0) _ rfl rfl ?_; clear S; intro g3 w S) | ((with_reducible show wpList _ _ _ (⟨_, .load 50 _, _, _, _, _⟩ :: _) _ _); first | (refine step_loadR 50 _ _ _ rfl _ (S.old_range hy) _ Tryd.underlying50 rfl 35 (by kernel_rfl) (by first | rfl | (first | rfl | assumption | (exact Hid.out (by assumption)) | (exact rcdL_size _) | (exact sgtL_size _) | (exact smD_length _) | (exact sumD_length _) | (rw [arr8_size]; first | rfl | assumption | (exact Hid.out (by assumption)) | exact rcdL_size _ | exact sgtL_size _ | exact smD_length _ | exact sumD_length _ | exact List.length_replicate ..) | (simp [arr8_size]; done))) _ rfl rfl ?_) | (refine step_loadP S 50 _ _ _ rfl _ _ _ pk 35 _ (by (first | exact cellsH_st .. | exact rqL_tok .. | exact rcdL_link .. | exact rpL_tok .. | assumption | rfl)) (by first | rfl | (first | rfl | assumption | (exact Hid.out (by assumption)) | (exact rcdL_size _) | (exact sgtL_size _) | (exact smD_length _) | (exact sumD_length _) | (rw [arr8_size]; first | rfl | assumption | (exact Hid.out (by assumption)) | exact rcdL_size _ | exact sgtL_size _ | exact smD_length _ | exact sumD_length _ | exact List.length_replicate ..) | (simp [arr8_size]; done))) _ Tryd.underlying50 rfl (by kernel_rfl) rfl ?_)) | ((with_reducible show wpList _ _ _ (⟨_, .load 25 _, _, _, _, _⟩ :: _) _ _); first | (refine step_load1 25 _ _ _ rfl (S.cell pk co) _ Tryd.underlying25 rfl rfl ?_) | (refine step_load1 25 _ _ _ rfl (S.row_cell pk _ _ hyr) _ Tryd.underlying25 rfl rfl ?_) | (refine step_load1 25 _ _ _ rfl (S.row_cellS pk _ _ hy) _ Tryd.underlying25 rfl rfl ?_) | (refine step_load1 25 _ _ _ rfl (S.old_cell hy) _ Tryd.underlying25 rfl rfl ?_)) | ((with_reducible show wpList _ _ _ (⟨_, .load 22 _, _, _, _, _⟩ :: _) _ _); first | (refine step_loadR 22 _ _ _ rfl _ (S.old_range hy) _ Tryd.underlying22 rfl 32 (by kernel_rfl) (by first | rfl | (first | rfl | assumption | (exact Hid.out (by assumption)) | (exact rcdL_size _) | (exact sgtL_size _) | (exact smD_length _) | (exact sumD_length _) | (rw [arr8_size]; first | rfl | assumption | (exact Hid.out (by assumption)) | exact rcdL_size _ | exact sgtL_size _ | exact smD_length _ | exact sumD_length _ | exact List.length_replicate ..) | (simp [arr8_size]; done))) _ rfl rfl ?_) | (refine step_loadP S 22 _ _ _ rfl _ _ _ pk 32 _ (by (first | exact cellsH_st .. | exact rqL_tok .. | exact rcdL_link .. | exact rpL_tok .. | assumption | rfl)) (by first | rfl | (first | rfl | assumption | (exact Hid.out (by assumption)) | (exact rcdL_size _) | (exact sgtL_size _) | (exact smD_length _) | (exact sumD_length _) | (rw [arr8_size]; first | rfl | assumption | (exact Hid.out (by assumption)) | exact rcdL_size _ | exact sgtL_size _ | exact smD_length _ | exact sumD_length _ | exact List.length_replicate ..) | (simp [arr8_size]; done))) _ Tryd.underlying22 rfl (by kernel_rfl) rfl ?_)) | ((with_reducible show wpList _ _ _ (⟨_, .load 22 _, _, _, _, _⟩ :: _) _ _); first | (refine step_load S 22 _ _ rfl _ _ _ pk _ Tryd.underlying22 rfl 32 (by kernel_rfl) (by first | rfl | (first | rfl | assumption | (exact Hid.out (by assumption)) | (exact rcdL_size _) | (exact sgtL_size _) | (exact smD_length _) | (exact sumD_length _) | (rw [arr8_size]; first | rfl | assumption | (exact Hid.out (by assumption)) | exact rcdL_size _ | exact sgtL_size _ | exact smD_length _ | exact sumD_length _ | exact List.length_replicate ..) | (simp [arr8_size]; done))) rfl ?_) | (refine step_loadO 22 _ _ rfl _ _ _ (S.old_heap (Hid.out (by assumption))) _ Tryd.underlying22 rfl 32 (by kernel_rfl) (by first | rfl | (first | rfl | assumption | (exact Hid.out (by assumption)) | (exact rcdL_size _) | (exact sgtL_size _) | (exact smD_length _) | (exact sumD_length _) | (rw [arr8_size]; first | rfl | assumption | (exact Hid.out (by assumption)) | exact rcdL_size _ | exact sgtL_size _ | exact smD_length _ | exact sumD_length _ | exact List.length_replicate ..) | (simp [arr8_size]; done))) rfl ?_) | (refine step_loadR 22 _ _ _ rfl _ (S.old_range hy) _ Tryd.underlying22 rfl 32 (by kernel_rfl) (by first | rfl | (first | rfl | assumption | (exact Hid.out (by assumption)) | (exact rcdL_size _) | (exact sgtL_size _) | (exact smD_length _) | (exact sumD_length _) | (rw [arr8_size]; first | rfl | assumption | (exact Hid.out (by assumption)) | exact rcdL_size _ | exact sgtL_size _ | exact smD_length _ | exact sumD_length _ | exact List.length_replicate ..) | (simp [arr8_size]; done))) _ rfl rfl ?_)) | ((with_reducible show wpList _ _ _ (⟨_, .load 23 _, _, _, _, _⟩ :: _) _ _); first | (refine step_load1 23 _ _ _ rfl (S.cell pk co) _ Tryd.underlying23 rfl rfl ?_) | (refine step_load1 23 _ _ _ rfl (S.row_cell pk _ _ hyr) _ Tryd.underlying23 rfl rfl ?_) | (refine step_load1 23 _ _ _ rfl (S.row_cellS pk _ _ hy) _ Tryd.underlying23 rfl rfl ?_) | (refine step_load1 23 _ _ _ rfl (S.old_cell hy) _ Tryd.underlying23 rfl rfl ?_)) | ((with_reducible show wpList _ _ _ (⟨_, .load 5 _, _, _, _, _⟩ :: _) _ _); first | (refine step_load1 5 _ _ _ rfl (S.cell pk co) _ Tryd.underlying5 rfl rfl ?_) | (refine step_load1 5 _ _ _ rfl (S.row_cell pk _ _ hyr) _ Tryd.underlying5 rfl rfl ?_) | (refine step_load1 5 _ _ _ rfl (S.row_cellS pk _ _ hy) _ Tryd.underlying5 rfl rfl ?_) | (refine step_load1 5 _ _ _ rfl (S.old_cell hy) _ Tryd.underlying5 rfl rfl ?_)) | ((with_reducible show wpList _ _ _ (⟨_, .load 24 _, _, _, _, _⟩ :: _) _ _); first | (refine step_load1 24 _ _ _ rfl (S.cell pk co) _ Tryd.underlying24 rfl rfl ?_) | (refine step_load1 24 _ _ _ rfl (S.row_cell pk _ _ hyr) _ Tryd.underlying24 rfl rfl ?_) | (refine step_load1 24 _ _ _ rfl (S.row_cellS pk _ _ hy) _ Tryd.underlying24 rfl rfl ?_) | (refine step_load1 24 _ _ _ rfl (S.old_cell hy) _ Tryd.underlying24 rfl rfl ?_)) | ((with_reducible show wpList _ _ _ (⟨none, .store 22 (.tmp 3) (.tmp 81), _, _, _, _⟩ :: _) _ _); refine step_store S 22 (.tmp 3) (.tmp 81) _ _ rfl rfl _ _ pk 32 (by kernel_rfl) (by first | rfl | (first | rfl | assumption | (exact Hid.out (by assumption)) | (exact rcdL_size _) | (exact sgtL_size _) | (exact smD_length _) | (exact sumD_length _) | (rw [arr8_size]; first | rfl | assumption | (exact Hid.out (by assumption)) | exact rcdL_size _ | exact sgtL_size _ | exact smD_length _ | exact sumD_length _ | exact List.length_replicate ..) | (simp [arr8_size]; done))) (by first | rfl | (first | rfl | assumption | (exact Hid.out (by assumption)) | (exact rcdL_size _) | (exact sgtL_size _) | (exact smD_length _) | (exact sumD_length _) | (rw [arr8_size]; first | rfl | assumption | (exact Hid.out (by assumption)) | exact rcdL_size _ | exact sgtL_size _ | exact smD_length _ | exact sumD_length _ | exact List.length_replicate ..) | (simp [arr8_size]; done))) on1 rfl ?_; clear S; intro w S) | fail)
          go_loopw [10] (fun u wr => ∃ (k : Nat) (L : List UInt8), k ≤ l.length ∧ u = .int .i64 (k : Int) ∧ L.length = 32 ∧ N = k + vfN L (l.drop k) ((ps.map (·.2)).drop k) ∧ Has w0 wr [blk g3 (.cells (arr8 L) 22 (0, 0))]) (fun u _ => l.length - (intOf u).toNat)
          case atStart => exact ⟨0, prev, Nat.zero_le _, rfl, HP.out, by rw [HN.out]; simp, S⟩
          case round =>
            clear S
            obtain ⟨k, L, hk, rfl, hL, hn, S⟩ := hrel
            by_cases hlt : k < l.length
            · have hx : l[k]? = some l[k] := List.getElem?_eq_getElem hlt
              have hlt2 : k < ps.length := by rw [H2.out]; exact hlt
              have hy : ps[k]? = some ps[k] := List.getElem?_eq_getElem hlt2
              have hyb : (ps.map (·.2))[k]? = some (ps[k]).2 := by rw [List.getElem?_map, hy]; rfl
              obtain ⟨b, off, rfl, hcell⟩ := HR.out.atA (by omega)
              obtain ⟨b2, off2, rfl, hcell2⟩ := HF.out.1.atA (by omega)
              have hrg := HR.out.elem rcdL_length (by decide) k _ hx
              have hcf := hcell2 k (ps[k]).1 (by rw [List.getElem?_map, hy]; rfl)
              have hm : ps[k] ∈ ps := List.getElem_mem hlt2
              have hbs := HF.out.2 _ hm
              have hl64 := HSHORT.out _ hm
              have hv := HALL.out _ (List.getElem_mem hlt)
              rw [vfN_step L l (ps.map (·.2)) k _ _ hx hyb] at hn
              obtain ⟨x, hxe⟩ : ∃ x, x = l[k] := ⟨_, rfl⟩
              obtain ⟨p, hpe⟩ : ∃ p, p = ps[k] := ⟨_, rfl⟩
              rw [← hxe] at hrg hv hn
              rw [← hpe] at hcf hbs hl64 hn
              have q0 : w0.cell? ⟨b, off + k * 35, none⟩ = some (.int .u64 (x.tick.toNat : Int)) := hrg 0 _ rfl
              have q1 : w0.cell? ⟨b, off + k * 35 + 1, none⟩ = some (by8 x.kind) := hrg 1 _ rfl
              have q2 : w0.cell? ⟨b, off + k * 35 + 2, none⟩ = some (.int .i64 (cdV x)) := hrg 2 _ rfl
              have hrl : w0.rangeAt b (off + k * 35 + 3) (x.link.map by8) := fun j v hj => by
                have := hrg (j + 3) v hj
                rw [show off + k * 35 + 3 + j = off + k * 35 + (j + 3) by omega]
                exact this
              have hll : (x.link.map by8).length = 32 := by rw [List.length_map]; exact x.len
              have hcv : 0 ≤ x.code.v ∧ x.code.v ≤ 65535 := by
                have : decide (x.tick.toNat ≤ 4611686018427387904 ∧ x.kind.toNat ≤ 6 ∧ 0 ≤ x.code.v ∧ x.code.v ≤ 65535) = true := hv
                exact (of_decide_eq_true this).2.2
              have pk := fun w h1 => refLink_s L x.tick x.kind x.code p.1 p.2 w hL h1 (by omega) hcv.1 hcv.2
              obtain ⟨D, hD⟩ : ∃ D, D = lnkD L x.tick x.kind x.code p.2 := ⟨_, rfl⟩
              have hDl : D.length = 32 := by rw [hD]; exact sumD_length _
              rw [← hD] at hn pk
              have hki : (k : Int) < (l.length : Int) := by omega
              have hki3 : (k : Int) < (ps.length : Int) := by omega
              have hki2 : (k : Int) < 9223372036854775807 := by omega
              have he := fun w' => neq32 x.link D x.len hDl w'
              have hxl := x.len
              by_cases hd : D = x.link
              · rw [if_pos hd] at hn
                have hnx : N = (k + 1) + vfN x.link (l.drop (k + 1)) ((ps.map (·.2)).drop (k + 1)) := by omega
                rw [decide_eq_false (by simpa using hd.symm)] at he
                clear hx hy hyb hcell hcell2 hm hl64 hv hxe hpe hD hn hrg hcv
                have HCF := Lib.hid hcf; have HBS := Lib.hid hbs; have HDL := Lib.hid hDl; have HNX := Lib.hid hnx; have PK := Lib.hid pk; have HL := Lib.hid hL; have HD := Lib.hid hd; have HXL := Lib.hid hxl; have Q0 := Lib.hid q0; have Q1 := Lib.hid q1; have Q2 := Lib.hid q2; have HRL := Lib.hid hrl; have HLL := Lib.hid hll; clear hcf hbs hDl hnx pk hL hd hxl q0 q1 q2 hrl hll
                clear hlt2
                go_upto_region 18 with (first | ((with_reducible show wpList _ _ _ (⟨some 3, .box 22 (.tmp 0), _, _, _, _⟩ :: _) _ _); refine step_boxA (dst := some 3) S 22 (.tmp 0) _ rfl rfl ?_; clear S; intro g3 w S) | ((with_reducible show wpList _ _ _ (⟨_, .load 50 _, _, _, _, _⟩ :: _) _ _); first | (refine step_loadR 50 _ _ _ rfl _ (S.old_range hy) _ Tryd.underlying50 rfl 35 (by kernel_rfl) (by first | rfl | (first | rfl | assumption | (exact Hid.out (by assumption)) | (exact rcdL_size _) | (exact sgtL_size _) | (exact smD_length _) | (exact sumD_length _) | (rw [arr8_size]; first | rfl | assumption | (exact Hid.out (by assumption)) | exact rcdL_size _ | exact sgtL_size _ | exact smD_length _ | exact sumD_length _ | exact List.length_replicate ..) | (simp [arr8_size]; done))) _ rfl rfl ?_) | (refine step_loadP S 50 _ _ _ rfl _ _ _ pk 35 _ (by (first | exact cellsH_st .. | exact rqL_tok .. | exact rcdL_link .. | exact rpL_tok .. | assumption | rfl)) (by first | rfl | (first | rfl | assumption | (exact Hid.out (by assumption)) | (exact rcdL_size _) | (exact sgtL_size _) | (exact smD_length _) | (exact sumD_length _) | (rw [arr8_size]; first | rfl | assumption | (exact Hid.out (by assumption)) | exact rcdL_size _ | exact sgtL_size _ | exact smD_length _ | exact sumD_length _ | exact List.length_replicate ..) | (simp [arr8_size]; done))) _ Tryd.underlying50 rfl (by kernel_rfl) rfl ?_)) | ((with_reducible show wpList _ _ _ (⟨_, .load 25 _, _, _, _, _⟩ :: _) _ _); first | (refine step_load1 25 _ _ _ rfl (S.cell pk co) _ Tryd.underlying25 rfl rfl ?_) | (refine step_load1 25 _ _ _ rfl (S.row_cell pk _ _ hyr) _ Tryd.underlying25 rfl rfl ?_) | (refine step_load1 25 _ _ _ rfl (S.row_cellS pk _ _ hy) _ Tryd.underlying25 rfl rfl ?_) | (refine step_load1 25 _ _ _ rfl (S.old_cell hy) _ Tryd.underlying25 rfl rfl ?_)) | ((with_reducible show wpList _ _ _ (⟨_, .load 22 _, _, _, _, _⟩ :: _) _ _); first | (refine step_loadR 22 _ _ _ rfl _ (S.old_range hy) _ Tryd.underlying22 rfl 32 (by kernel_rfl) (by first | rfl | (first | rfl | assumption | (exact Hid.out (by assumption)) | (exact rcdL_size _) | (exact sgtL_size _) | (exact smD_length _) | (exact sumD_length _) | (rw [arr8_size]; first | rfl | assumption | (exact Hid.out (by assumption)) | exact rcdL_size _ | exact sgtL_size _ | exact smD_length _ | exact sumD_length _ | exact List.length_replicate ..) | (simp [arr8_size]; done))) _ rfl rfl ?_) | (refine step_loadP S 22 _ _ _ rfl _ _ _ pk 32 _ (by (first | exact cellsH_st .. | exact rqL_tok .. | exact rcdL_link .. | exact rpL_tok .. | assumption | rfl)) (by first | rfl | (first | rfl | assumption | (exact Hid.out (by assumption)) | (exact rcdL_size _) | (exact sgtL_size _) | (exact smD_length _) | (exact sumD_length _) | (rw [arr8_size]; first | rfl | assumption | (exact Hid.out (by assumption)) | exact rcdL_size _ | exact sgtL_size _ | exact smD_length _ | exact sumD_length _ | exact List.length_replicate ..) | (simp [arr8_size]; done))) _ Tryd.underlying22 rfl (by kernel_rfl) rfl ?_)) | ((with_reducible show wpList _ _ _ (⟨_, .load 22 _, _, _, _, _⟩ :: _) _ _); first | (refine step_load S 22 _ _ rfl _ _ _ pk _ Tryd.underlying22 rfl 32 (by kernel_rfl) (by first | rfl | (first | rfl | assumption | (exact Hid.out (by assumption)) | (exact rcdL_size _) | (exact sgtL_size _) | (exact smD_length _) | (exact sumD_length _) | (rw [arr8_size]; first | rfl | assumption | (exact Hid.out (by assumption)) | exact rcdL_size _ | exact sgtL_size _ | exact smD_length _ | exact sumD_length _ | exact List.length_replicate ..) | (simp [arr8_size]; done))) rfl ?_) | (refine step_loadO 22 _ _ rfl _ _ _ (S.old_heap (Hid.out (by assumption))) _ Tryd.underlying22 rfl 32 (by kernel_rfl) (by first | rfl | (first | rfl | assumption | (exact Hid.out (by assumption)) | (exact rcdL_size _) | (exact sgtL_size _) | (exact smD_length _) | (exact sumD_length _) | (rw [arr8_size]; first | rfl | assumption | (exact Hid.out (by assumption)) | exact rcdL_size _ | exact sgtL_size _ | exact smD_length _ | exact sumD_length _ | exact List.length_replicate ..) | (simp [arr8_size]; done))) rfl ?_) | (refine step_loadR 22 _ _ _ rfl _ (S.old_range hy) _ Tryd.underlying22 rfl 32 (by kernel_rfl) (by first | rfl | (first | rfl | assumption | (exact Hid.out (by assumption)) | (exact rcdL_size _) | (exact sgtL_size _) | (exact smD_length _) | (exact sumD_length _) | (rw [arr8_size]; first | rfl | assumption | (exact Hid.out (by assumption)) | exact rcdL_size _ | exact sgtL_size _ | exact smD_length _ | exact sumD_length _ | exact List.length_replicate ..) | (simp [arr8_size]; done))) _ rfl rfl ?_)) | ((with_reducible show wpList _ _ _ (⟨_, .load 23 _, _, _, _, _⟩ :: _) _ _); first | (refine step_load1 23 _ _ _ rfl (S.cell pk co) _ Tryd.underlying23 rfl rfl ?_) | (refine step_load1 23 _ _ _ rfl (S.row_cell pk _ _ hyr) _ Tryd.underlying23 rfl rfl ?_) | (refine step_load1 23 _ _ _ rfl (S.row_cellS pk _ _ hy) _ Tryd.underlying23 rfl rfl ?_) | (refine step_load1 23 _ _ _ rfl (S.old_cell hy) _ Tryd.underlying23 rfl rfl ?_)) | ((with_reducible show wpList _ _ _ (⟨_, .load 5 _, _, _, _, _⟩ :: _) _ _); first | (refine step_load1 5 _ _ _ rfl (S.cell pk co) _ Tryd.underlying5 rfl rfl ?_) | (refine step_load1 5 _ _ _ rfl (S.row_cell pk _ _ hyr) _ Tryd.underlying5 rfl rfl ?_) | (refine step_load1 5 _ _ _ rfl (S.row_cellS pk _ _ hy) _ Tryd.underlying5 rfl rfl ?_) | (refine step_load1 5 _ _ _ rfl (S.old_cell hy) _ Tryd.underlying5 rfl rfl ?_)) | ((with_reducible show wpList _ _ _ (⟨_, .load 24 _, _, _, _, _⟩ :: _) _ _); first | (refine step_load1 24 _ _ _ rfl (S.cell pk co) _ Tryd.underlying24 rfl rfl ?_) | (refine step_load1 24 _ _ _ rfl (S.row_cell pk _ _ hyr) _ Tryd.underlying24 rfl rfl ?_) | (refine step_load1 24 _ _ _ rfl (S.row_cellS pk _ _ hy) _ Tryd.underlying24 rfl rfl ?_) | (refine step_load1 24 _ _ _ rfl (S.old_cell hy) _ Tryd.underlying24 rfl rfl ?_)) | ((with_reducible show wpList _ _ _ (⟨none, .store 22 (.tmp 3) (.tmp 81), _, _, _, _⟩ :: _) _ _); refine step_store S 22 (.tmp 3) (.tmp 81) _ _ rfl rfl _ _ pk 32 (by kernel_rfl) (by first | rfl | (first | rfl | assumption | (exact Hid.out (by assumption)) | (exact rcdL_size _) | (exact sgtL_size _) | (exact smD_length _) | (exact sumD_length _) | (rw [arr8_size]; first | rfl | assumption | (exact Hid.out (by assumption)) | exact rcdL_size _ | exact sgtL_size _ | exact smD_length _ | exact sumD_length _ | exact List.length_replicate ..) | (simp [arr8_size]; done))) (by first | rfl | (first | rfl | assumption | (exact Hid.out (by assumption)) | (exact rcdL_size _) | (exact sgtL_size _) | (exact smD_length _) | (exact sumD_length _) | (rw [arr8_size]; first | rfl | assumption | (exact Hid.out (by assumption)) | exact rcdL_size _ | exact sgtL_size _ | exact smD_length _ | exact sumD_length _ | exact List.length_replicate ..) | (simp [arr8_size]; done))) on1 rfl ?_; clear S; intro w S) | fail)
                refine wp_rely S [⟨[], [], [], fun _ v => v = (.slice (some ⟨b, off, none⟩) l.length c0), fun _ v => []⟩, ⟨[], [], [], fun _ v => v = (.int .i64 (k : Int)), fun _ v => []⟩, ⟨[0, 1], [], [], fun _ v => v = .pointer (some ⟨b, off + k * 35, none⟩), fun _ v => []⟩, ⟨[0, 1, 2], [], [], fun _ v => v = .pointer (some ⟨b, off + k * 35 + 3, none⟩), fun _ v => []⟩, ⟨[0, 1, 2, 3], [], [], fun _ v => v = .agg (arr8 x.link), fun _ v => []⟩, ⟨[], [], [], fun _ v => v = .agg (arr8 L), fun _ v => []⟩, ⟨[], [], [], fun _ v => v = (.slice (some ⟨b, off, none⟩) l.length c0), fun _ v => []⟩, ⟨[], [], [], fun _ v => v = (.int .i64 (k : Int)), fun _ v => []⟩, ⟨[6, 7], [], [], fun _ v => v = .pointer (some ⟨b, off + k * 35, none⟩), fun _ v => []⟩, ⟨[6, 7, 8], [], [], fun _ v => v = .pointer (some ⟨b, off + k * 35, none⟩), fun _ v => []⟩, ⟨[6, 7, 8, 9], [], [], fun _ v => v = .int .u64 (x.tick.toNat : Int), fun _ v => []⟩, ⟨[], [], [], fun _ v => v = (.slice (some ⟨b, off, none⟩) l.length c0), fun _ v => []⟩, ⟨[], [], [], fun _ v => v = (.int .i64 (k : Int)), fun _ v => []⟩, ⟨[11, 12], [], [], fun _ v => v = .pointer (some ⟨b, off + k * 35, none⟩), fun _ v => []⟩, ⟨[11, 12, 13], [], [], fun _ v => v = .pointer (some ⟨b, off + k * 35 + 1, none⟩), fun _ v => []⟩, ⟨[11, 12, 13, 14], [], [], fun _ v => v = by8 x.kind, fun _ v => []⟩, ⟨[], [], [], fun _ v => v = (.slice (some ⟨b, off, none⟩) l.length c0), fun _ v => []⟩, ⟨[], [], [], fun _ v => v = (.int .i64 (k : Int)), fun _ v => []⟩, ⟨[16, 17], [], [], fun _ v => v = .pointer (some ⟨b, off + k * 35, none⟩), fun _ v => []⟩, ⟨[16, 17, 18], [], [], fun _ v => v = .pointer (some ⟨b, off + k * 35 + 2, none⟩), fun _ v => []⟩, ⟨[16, 17, 18, 19], [], [], fun _ v => v = .int .i64 (cdV x), fun _ v => []⟩, ⟨[], [], [], fun _ v => v = (.slice (some ⟨b2, off2, none⟩) ps.length c1), fun _ v => []⟩, ⟨[], [], [], fun _ v => v = (.int .i64 (k : Int)), fun _ v => []⟩, ⟨[21, 22], [], [], fun _ v => v = .pointer (some ⟨b2, off2 + k, none⟩), fun _ v => []⟩, ⟨[21, 22, 23], [], [], fun _ v => v = p.1, fun _ v => []⟩, ⟨[5, 6, 7, 8, 9, 10, 11, 12, 13, 14, 15, 16, 17, 18, 19, 20, 21, 22, 23, 24], [], [], fun _ v => v = .agg (arr8 D), fun _ v => []⟩, ⟨[0, 1, 2, 3, 4, 5, 6, 7, 8, 9, 10, 11, 12, 13, 14, 15, 16, 17, 18, 19, 20, 21, 22, 23, 24, 25], [], [], fun _ v => v = .bool false, fun _ v => []⟩] ?A1 ?hA1 (by kernel_rfl) (by kernel_rfl) (by kernel_rfl) [0, 1, 2, 3, 4, 5, 6, 7, 8, 9, 10, 11, 12, 13, 14, 15, 16, 17, 18, 19, 20, 21, 22, 23, 24, 25, 26] (by kernel_rfl) ?hok1 ?fin1
                case hA1 => intro u; simp only [putAll, List.length_cons, List.length_nil, Nat.zero_add, Nat.reduceAdd, dstAt, List.getElem?_toArray, List.getElem?_cons_zero, List.getElem?_cons_succ, Option.bind_some, Act.put, List.setIfInBounds_toArray, List.set_cons_zero, List.set_cons_succ]; rfl
                case hok1 =>
                  intro i hi
                  obtain rfl | rfl | rfl | rfl | rfl | rfl | rfl | rfl | rfl | rfl | rfl | rfl | rfl | rfl | rfl | rfl | rfl | rfl | rfl | rfl | rfl | rfl | rfl | rfl | rfl | rfl | rfl : i = 0 ∨ i = 1 ∨ i = 2 ∨ i = 3 ∨ i = 4 ∨ i = 5 ∨ i = 6 ∨ i = 7 ∨ i = 8 ∨ i = 9 ∨ i = 10 ∨ i = 11 ∨ i = 12 ∨ i = 13 ∨ i = 14 ∨ i = 15 ∨ i = 16 ∨ i = 17 ∨ i = 18 ∨ i = 19 ∨ i = 20 ∨ i = 21 ∨ i = 22 ∨ i = 23 ∨ i = 24 ∨ i = 25 ∨ i = 26 := by simp only [List.length_cons, List.length_nil, Nat.zero_add, Nat.reduceAdd] at hi; omega
                  · clear hi
                    refine step_of rfl rfl rfl ?_
                    intro u G w hf S
                    simp only [resOf, spec, RSpec.resAt, z0, z1, z2, z3, z4, z5, z6, z7, ptrBlk] at S ⊢
                    simp only [does]
                    go_simp
                    try first | exact S | exact ⟨vv, S⟩ | exact vv
                  · clear hi
                    refine step_of rfl rfl rfl ?_
                    intro u G w hf S
                    simp only [resOf, spec, RSpec.resAt, z0, z1, z2, z3, z4, z5, z6, z7, ptrBlk] at S ⊢
                    simp only [does]
                    go_simp
                    try first | exact S | exact ⟨vv, S⟩ | exact vv
                  · clear hi
                    refine step_of rfl rfl rfl ?_
                    intro u G w hf S
                    have f0 : u 0 = (.slice (some ⟨b, off, none⟩) l.length c0) := hf 0 (by simp)
                    have f1 : u 1 = (.int .i64 (k : Int)) := hf 1 (by simp)
                    simp only [resOf, spec, RSpec.resAt, z0, z1, z2, z3, z4, z5, z6, z7, ptrBlk] at S ⊢
                    simp only [f0, f1]
                    simp only [does]
                    go_simp
                    try first | exact S | exact ⟨vv, S⟩ | exact vv
                  · clear hi
                    refine step_of rfl rfl rfl ?_
                    intro u G w hf S
                    have f2 : u 2 = .pointer (some ⟨b, off + k * 35, none⟩) := hf 2 (by simp)
                    simp only [resOf, spec, RSpec.resAt, z0, z1, z2, z3, z4, z5, z6, z7, ptrBlk] at S ⊢
                    simp only [f2]
                    simp only [does]
                    go_simp
                    try first | exact S | exact ⟨vv, S⟩ | exact vv
                  · clear hi
                    refine step_of rfl rfl rfl ?_
                    intro u G w hf S
                    have f3 : u 3 = .pointer (some ⟨b, off + k * 35 + 3, none⟩) := hf 3 (by simp)
                    simp only [resOf, spec, RSpec.resAt, z0, z1, z2, z3, z4, z5, z6, z7, ptrBlk] at S ⊢
                    simp only [f3]
                    refine does_loadR 22 (.tmp 52) _ _ rfl _ (S.old_range HRL.out) _ Tryd.underlying22 rfl 32 (by kernel_rfl) HLL.out _ rfl ?_; exact ⟨rfl, S⟩
                  · clear hi
                    refine step_of rfl rfl rfl ?_
                    intro u G w hf S
                    simp only [resOf, spec, RSpec.resAt, z0, z1, z2, z3, z4, z5, z6, z7, ptrBlk] at S ⊢
                    refine does_load 22 (.tmp 3) g3 rfl _ _ _ (S.get (r := blk g3 _) pk) _ Tryd.underlying22 rfl 32 (by kernel_rfl) (by first | rfl | (first | rfl | assumption | (exact Hid.out (by assumption)) | (exact rcdL_size _) | (exact sgtL_size _) | (exact smD_length _) | (exact sumD_length _) | (rw [arr8_size]; first | rfl | assumption | (exact Hid.out (by assumption)) | exact rcdL_size _ | exact sgtL_size _ | exact smD_length _ | exact sumD_length _ | exact List.length_replicate ..) | (simp [arr8_size]; done))) ?_; exact ⟨rfl, S⟩
                  · clear hi
                    refine step_of rfl rfl rfl ?_
                    intro u G w hf S
                    simp only [resOf, spec, RSpec.resAt, z0, z1, z2, z3, z4, z5, z6, z7, ptrBlk] at S ⊢
                    simp only [does]
                    go_simp
                    try first | exact S | exact ⟨vv, S⟩ | exact vv
                  · clear hi
                    refine step_of rfl rfl rfl ?_
                    intro u G w hf S
                    simp only [resOf, spec, RSpec.resAt, z0, z1, z2, z3, z4, z5, z6, z7, ptrBlk] at S ⊢
                    simp only [does]
                    go_simp
                    try first | exact S | exact ⟨vv, S⟩ | exact vv
                  · clear hi
                    refine step_of rfl rfl rfl ?_
                    intro u G w hf S
                    have f6 : u 6 = (.slice (some ⟨b, off, none⟩) l.length c0) := hf 6 (by simp)
                    have f7 : u 7 = (.int .i64 (k : Int)) := hf 7 (by simp)
                    simp only [resOf, spec, RSpec.resAt, z0, z1, z2, z3, z4, z5, z6, z7, ptrBlk] at S ⊢
                    simp only [f6, f7]
                    simp only [does]
                    go_simp
                    try first | exact S | exact ⟨vv, S⟩ | exact vv
                  · clear hi
                    refine step_of rfl rfl rfl ?_
                    intro u G w hf S
                    have f8 : u 8 = .pointer (some ⟨b, off + k * 35, none⟩) := hf 8 (by simp)
                    simp only [resOf, spec, RSpec.resAt, z0, z1, z2, z3, z4, z5, z6, z7, ptrBlk] at S ⊢
                    simp only [f8]
                    simp only [does]
                    go_simp
                    try first | exact S | exact ⟨vv, S⟩ | exact vv
                  · clear hi
                    refine step_of rfl rfl rfl ?_
                    intro u G w hf S
                    have f9 : u 9 = .pointer (some ⟨b, off + k * 35, none⟩) := hf 9 (by simp)
                    simp only [resOf, spec, RSpec.resAt, z0, z1, z2, z3, z4, z5, z6, z7, ptrBlk] at S ⊢
                    simp only [f9]
                    refine does_load1 23 (.tmp 58) _ _ rfl (S.old_cell hy) _ Tryd.underlying23 rfl ?_; exact ⟨rfl, S⟩
                  · clear hi
                    refine step_of rfl rfl rfl ?_
                    intro u G w hf S
                    simp only [resOf, spec, RSpec.resAt, z0, z1, z2, z3, z4, z5, z6, z7, ptrBlk] at S ⊢
                    simp only [does]
                    go_simp
                    try first | exact S | exact ⟨vv, S⟩ | exact vv
                  · clear hi
                    refine step_of rfl rfl rfl ?_
                    intro u G w hf S
                    simp only [resOf, spec, RSpec.resAt, z0, z1, z2, z3, z4, z5, z6, z7, ptrBlk] at S ⊢
                    simp only [does]
                    go_simp
                    try first | exact S | exact ⟨vv, S⟩ | exact vv
                  · clear hi
                    refine step_of rfl rfl rfl ?_
                    intro u G w hf S
                    have f11 : u 11 = (.slice (some ⟨b, off, none⟩) l.length c0) := hf 11 (by simp)
                    have f12 : u 12 = (.int .i64 (k : Int)) := hf 12 (by simp)
                    simp only [resOf, spec, RSpec.resAt, z0, z1, z2, z3, z4, z5, z6, z7, ptrBlk] at S ⊢
                    simp only [f11, f12]
                    simp only [does]
                    go_simp
                    try first | exact S | exact ⟨vv, S⟩ | exact vv
                  · clear hi
                    refine step_of rfl rfl rfl ?_
                    intro u G w hf S
                    have f13 : u 13 = .pointer (some ⟨b, off + k * 35, none⟩) := hf 13 (by simp)
                    simp only [resOf, spec, RSpec.resAt, z0, z1, z2, z3, z4, z5, z6, z7, ptrBlk] at S ⊢
                    simp only [f13]
                    simp only [does]
                    go_simp
                    try first | exact S | exact ⟨vv, S⟩ | exact vv
                  · clear hi
                    refine step_of rfl rfl rfl ?_
                    intro u G w hf S
                    have f14 : u 14 = .pointer (some ⟨b, off + k * 35 + 1, none⟩) := hf 14 (by simp)
                    simp only [resOf, spec, RSpec.resAt, z0, z1, z2, z3, z4, z5, z6, z7, ptrBlk] at S ⊢
                    simp only [f14]
                    refine does_load1 5 (.tmp 63) _ _ rfl (S.old_cell hy) _ Tryd.underlying5 rfl ?_; exact ⟨rfl, S⟩
                  · clear hi
                    refine step_of rfl rfl rfl ?_
                    intro u G w hf S
                    simp only [resOf, spec, RSpec.resAt, z0, z1, z2, z3, z4, z5, z6, z7, ptrBlk] at S ⊢
                    simp only [does]
                    go_simp
                    try first | exact S | exact ⟨vv, S⟩ | exact vv
                  · clear hi
                    refine step_of rfl rfl rfl ?_
                    intro u G w hf S
                    simp only [resOf, spec, RSpec.resAt, z0, z1, z2, z3, z4, z5, z6, z7, ptrBlk] at S ⊢
                    simp only [does]
                    go_simp
                    try first | exact S | exact ⟨vv, S⟩ | exact vv
                  · clear hi
                    refine step_of rfl rfl rfl ?_
                    intro u G w hf S
                    have f16 : u 16 = (.slice (some ⟨b, off, none⟩) l.length c0) := hf 16 (by simp)
                    have f17 : u 17 = (.int .i64 (k : Int)) := hf 17 (by simp)
                    simp only [resOf, spec, RSpec.resAt, z0, z1, z2, z3, z4, z5, z6, z7, ptrBlk] at S ⊢
                    simp only [f16, f17]
                    simp only [does]
                    go_simp
                    try first | exact S | exact ⟨vv, S⟩ | exact vv
                  · clear hi
                    refine step_of rfl rfl rfl ?_
                    intro u G w hf S
                    have f18 : u 18 = .pointer (some ⟨b, off + k * 35, none⟩) := hf 18 (by simp)
                    simp only [resOf, spec, RSpec.resAt, z0, z1, z2, z3, z4, z5, z6, z7, ptrBlk] at S ⊢
                    simp only [f18]
                    simp only [does]
                    go_simp
                    try first | exact S | exact ⟨vv, S⟩ | exact vv
                  · clear hi
                    refine step_of rfl rfl rfl ?_
                    intro u G w hf S
                    have f19 : u 19 = .pointer (some ⟨b, off + k * 35 + 2, none⟩) := hf 19 (by simp)
                    simp only [resOf, spec, RSpec.resAt, z0, z1, z2, z3, z4, z5, z6, z7, ptrBlk] at S ⊢
                    simp only [f19]
                    refine does_load1 24 (.tmp 68) _ _ rfl (S.old_cell hy) _ Tryd.underlying24 rfl ?_; exact ⟨rfl, S⟩
                  · clear hi
                    refine step_of rfl rfl rfl ?_
                    intro u G w hf S
                    simp only [resOf, spec, RSpec.resAt, z0, z1, z2, z3, z4, z5, z6, z7, ptrBlk] at S ⊢
                    simp only [does]
                    go_simp
                    try first | exact S | exact ⟨vv, S⟩ | exact vv
                  · clear hi
                    refine step_of rfl rfl rfl ?_
                    intro u G w hf S
                    simp only [resOf, spec, RSpec.resAt, z0, z1, z2, z3, z4, z5, z6, z7, ptrBlk] at S ⊢
                    simp only [does]
                    go_simp
                    try first | exact S | exact ⟨vv, S⟩ | exact vv
                  · clear hi
                    refine step_of rfl rfl rfl ?_
                    intro u G w hf S
                    have f21 : u 21 = (.slice (some ⟨b2, off2, none⟩) ps.length c1) := hf 21 (by simp)
                    have f22 : u 22 = (.int .i64 (k : Int)) := hf 22 (by simp)
                    simp only [resOf, spec, RSpec.resAt, z0, z1, z2, z3, z4, z5, z6, z7, ptrBlk] at S ⊢
                    simp only [f21, f22]
                    simp only [does]
                    go_simp
                    try first | exact S | exact ⟨vv, S⟩ | exact vv
                  · clear hi
                    refine step_of rfl rfl rfl ?_
                    intro u G w hf S
                    have f23 : u 23 = .pointer (some ⟨b2, off2 + k, none⟩) := hf 23 (by simp)
                    simp only [resOf, spec, RSpec.resAt, z0, z1, z2, z3, z4, z5, z6, z7, ptrBlk] at S ⊢
                    simp only [f23]
                    refine does_load1 25 (.tmp 72) _ _ rfl (S.old_cell hy) _ Tryd.underlying25 rfl ?_; exact ⟨rfl, S⟩
                  · clear hi
                    refine step_of rfl rfl rfl ?_
                    intro u G w hf S
                    have f5 : u 5 = .agg (arr8 L) := hf 5 (by simp)
                    have f10 : u 10 = .int .u64 (x.tick.toNat : Int) := hf 10 (by simp)
                    have f15 : u 15 = by8 x.kind := hf 15 (by simp)
                    have f20 : u 20 = .int .i64 (cdV x) := hf 20 (by simp)
                    have f24 : u 24 = p.1 := hf 24 (by simp)
                    simp only [resOf, spec, RSpec.resAt, z0, z1, z2, z3, z4, z5, z6, z7, ptrBlk] at S ⊢
                    simp only [f5, f10, f15, f20, f24]
                    refine does_fn (args := [(.agg (arr8 L)), (.int .u64 (x.tick.toNat : Int)), (by8 x.kind), (.int .i64 (cdV x)), (p.1)]) Tryd.func49 (by kernel_rfl) (by kernel_rfl) (PK.out w (S.oldB HBS.out)) rfl ?_
                    rintro e w1 ⟨rfl, T⟩
                    exact ⟨_, rfl, rfl, S.call T⟩
                  · clear hi
                    refine step_of rfl rfl rfl ?_
                    intro u G w hf S
                    have f4 : u 4 = .agg (arr8 x.link) := hf 4 (by simp)
                    have f25 : u 25 = .agg (arr8 D) := hf 25 (by simp)
                    simp only [resOf, spec, RSpec.resAt, z0, z1, z2, z3, z4, z5, z6, z7, ptrBlk] at S ⊢
                    simp only [f4, f25]
                    simp only [does]
                    go_simp
                    try first | exact S | exact ⟨vv, S⟩ | exact vv
                case fin1 =>
                  intro u w hf S
                  have f0 : u 0 = (.slice (some ⟨b, off, none⟩) l.length c0) := hf 0 (by simp)
                  have f1 : u 1 = (.int .i64 (k : Int)) := hf 1 (by simp)
                  have f2 : u 2 = .pointer (some ⟨b, off + k * 35, none⟩) := hf 2 (by simp)
                  have f3 : u 3 = .pointer (some ⟨b, off + k * 35 + 3, none⟩) := hf 3 (by simp)
                  have f4 : u 4 = .agg (arr8 x.link) := hf 4 (by simp)
                  have f5 : u 5 = .agg (arr8 L) := hf 5 (by simp)
                  have f6 : u 6 = (.slice (some ⟨b, off, none⟩) l.length c0) := hf 6 (by simp)
                  have f7 : u 7 = (.int .i64 (k : Int)) := hf 7 (by simp)
                  have f8 : u 8 = .pointer (some ⟨b, off + k * 35, none⟩) := hf 8 (by simp)
                  have f9 : u 9 = .pointer (some ⟨b, off + k * 35, none⟩) := hf 9 (by simp)
                  have f10 : u 10 = .int .u64 (x.tick.toNat : Int) := hf 10 (by simp)
                  have f11 : u 11 = (.slice (some ⟨b, off, none⟩) l.length c0) := hf 11 (by simp)
                  have f12 : u 12 = (.int .i64 (k : Int)) := hf 12 (by simp)
                  have f13 : u 13 = .pointer (some ⟨b, off + k * 35, none⟩) := hf 13 (by simp)
                  have f14 : u 14 = .pointer (some ⟨b, off + k * 35 + 1, none⟩) := hf 14 (by simp)
                  have f15 : u 15 = by8 x.kind := hf 15 (by simp)
                  have f16 : u 16 = (.slice (some ⟨b, off, none⟩) l.length c0) := hf 16 (by simp)
                  have f17 : u 17 = (.int .i64 (k : Int)) := hf 17 (by simp)
                  have f18 : u 18 = .pointer (some ⟨b, off + k * 35, none⟩) := hf 18 (by simp)
                  have f19 : u 19 = .pointer (some ⟨b, off + k * 35 + 2, none⟩) := hf 19 (by simp)
                  have f20 : u 20 = .int .i64 (cdV x) := hf 20 (by simp)
                  have f21 : u 21 = (.slice (some ⟨b2, off2, none⟩) ps.length c1) := hf 21 (by simp)
                  have f22 : u 22 = (.int .i64 (k : Int)) := hf 22 (by simp)
                  have f23 : u 23 = .pointer (some ⟨b2, off2 + k, none⟩) := hf 23 (by simp)
                  have f24 : u 24 = p.1 := hf 24 (by simp)
                  have f25 : u 25 = .agg (arr8 D) := hf 25 (by simp)
                  have f26 : u 26 = .bool false := hf 26 (by simp)
                  simp only [resOf, spec, RSpec.resAt, z0, z1, z2, z3, z4, z5, z6, z7, ptrBlk] at S
                  clear hf
                  simp only [List.length_cons, List.length_nil, Nat.zero_add, Nat.reduceAdd, List.drop_succ_cons, List.drop_zero, f0, f1, f2, f3, f4, f5, f6, f7, f8, f9, f10, f11, f12, f13, f14, f15, f16, f17, f18, f19, f20, f21, f22, f23, f24, f25, f26]
                  clear f0 f1 f2 f3 f4 f5 f6 f7 f8 f9 f10 f11 f12 f13 f14 f15 f16 f17 f18 f19 f20 f21 f22 f23 f24 f25 f26
                  go_wp2_with (first | ((with_reducible show wpList _ _ _ (⟨some 3, .box 22 (.tmp 0), _, _, _, _⟩ :: _) _ _); refine step_boxA (dst := some 3) S 22 (.tmp 0) _ rfl rfl ?_; clear S; intro g3 w S) | ((with_reducible show wpList _ _ _ (⟨_, .load 50 _, _, _, _, _⟩ :: _) _ _); first | (refine step_loadR 50 _ _ _ rfl _ (S.old_range hy) _ Tryd.underlying50 rfl 35 (by kernel_rfl) (by first | rfl | (first | rfl | assumption | (exact Hid.out (by assumption)) | (exact rcdL_size _) | (exact sgtL_size _) | (exact smD_length _) | (exact sumD_length _) | (rw [arr8_size]; first | rfl | assumption | (exact Hid.out (by assumption)) | exact rcdL_size _ | exact sgtL_size _ | exact smD_length _ | exact sumD_length _ | exact List.length_replicate ..) | (simp [arr8_size]; done))) _ rfl rfl ?_) | (refine step_loadP S 50 _ _ _ rfl _ _ _ pk 35 _ (by (first | exact cellsH_st .. | exact rqL_tok .. | exact rcdL_link .. | exact rpL_tok .. | assumption | rfl)) (by first | rfl | (first | rfl | assumption | (exact Hid.out (by assumption)) | (exact rcdL_size _) | (exact sgtL_size _) | (exact smD_length _) | (exact sumD_length _) | (rw [arr8_size]; first | rfl | assumption | (exact Hid.out (by assumption)) | exact rcdL_size _ | exact sgtL_size _ | exact smD_length _ | exact sumD_length _ | exact List.length_replicate ..) | (simp [arr8_size]; done))) _ Tryd.underlying50 rfl (by kernel_rfl) rfl ?_)) | ((with_reducible show wpList _ _ _ (⟨_, .load 25 _, _, _, _, _⟩ :: _) _ _); first | (refine step_load1 25 _ _ _ rfl (S.cell pk co) _ Tryd.underlying25 rfl rfl ?_) | (refine step_load1 25 _ _ _ rfl (S.row_cell pk _ _ hyr) _ Tryd.underlying25 rfl rfl ?_) | (refine step_load1 25 _ _ _ rfl (S.row_cellS pk _ _ hy) _ Tryd.underlying25 rfl rfl ?_) | (refine step_load1 25 _ _ _ rfl (S.old_cell hy) _ Tryd.underlying25 rfl rfl ?_)) | ((with_reducible show wpList _ _ _ (⟨_, .load 22 _, _, _, _, _⟩ :: _) _ _); first | (refine step_loadR 22 _ _ _ rfl _ (S.old_range hy) _ Tryd.underlying22 rfl 32 (by kernel_rfl) (by first | rfl | (first | rfl | assumption | (exact Hid.out (by assumption)) | (exact rcdL_size _) | (exact sgtL_size _) | (exact smD_length _) | (exact sumD_length _) | (rw [arr8_size]; first | rfl | assumption | (exact Hid.out (by assumption)) | exact rcdL_size _ | exact sgtL_size _ | exact smD_length _ | exact sumD_length _ | exact List.length_replicate ..) | (simp [arr8_size]; done))) _ rfl rfl ?_) | (refine step_loadP S 22 _ _ _ rfl _ _ _ pk 32 _ (by (first | exact cellsH_st .. | exact rqL_tok .. | exact rcdL_link .. | exact rpL_tok .. | assumption | rfl)) (by first | rfl | (first | rfl | assumption | (exact Hid.out (by assumption)) | (exact rcdL_size _) | (exact sgtL_size _) | (exact smD_length _) | (exact sumD_length _) | (rw [arr8_size]; first | rfl | assumption | (exact Hid.out (by assumption)) | exact rcdL_size _ | exact sgtL_size _ | exact smD_length _ | exact sumD_length _ | exact List.length_replicate ..) | (simp [arr8_size]; done))) _ Tryd.underlying22 rfl (by kernel_rfl) rfl ?_)) | ((with_reducible show wpList _ _ _ (⟨_, .load 22 _, _, _, _, _⟩ :: _) _ _); first | (refine step_load S 22 _ _ rfl _ _ _ pk _ Tryd.underlying22 rfl 32 (by kernel_rfl) (by first | rfl | (first | rfl | assumption | (exact Hid.out (by assumption)) | (exact rcdL_size _) | (exact sgtL_size _) | (exact smD_length _) | (exact sumD_length _) | (rw [arr8_size]; first | rfl | assumption | (exact Hid.out (by assumption)) | exact rcdL_size _ | exact sgtL_size _ | exact smD_length _ | exact sumD_length _ | exact List.length_replicate ..) | (simp [arr8_size]; done))) rfl ?_) | (refine step_loadO 22 _ _ rfl _ _ _ (S.old_heap (Hid.out (by assumption))) _ Tryd.underlying22 rfl 32 (by kernel_rfl) (by first | rfl | (first | rfl | assumption | (exact Hid.out (by assumption)) | (exact rcdL_size _) | (exact sgtL_size _) | (exact smD_length _) | (exact sumD_length _) | (rw [arr8_size]; first | rfl | assumption | (exact Hid.out (by assumption)) | exact rcdL_size _ | exact sgtL_size _ | exact smD_length _ | exact sumD_length _ | exact List.length_replicate ..) | (simp [arr8_size]; done))) rfl ?_) | (refine step_loadR 22 _ _ _ rfl _ (S.old_range hy) _ Tryd.underlying22 rfl 32 (by kernel_rfl) (by first | rfl | (first | rfl | assumption | (exact Hid.out (by assumption)) | (exact rcdL_size _) | (exact sgtL_size _) | (exact smD_length _) | (exact sumD_length _) | (rw [arr8_size]; first | rfl | assumption | (exact Hid.out (by assumption)) | exact rcdL_size _ | exact sgtL_size _ | exact smD_length _ | exact sumD_length _ | exact List.length_replicate ..) | (simp [arr8_size]; done))) _ rfl rfl ?_)) | ((with_reducible show wpList _ _ _ (⟨_, .load 23 _, _, _, _, _⟩ :: _) _ _); first | (refine step_load1 23 _ _ _ rfl (S.cell pk co) _ Tryd.underlying23 rfl rfl ?_) | (refine step_load1 23 _ _ _ rfl (S.row_cell pk _ _ hyr) _ Tryd.underlying23 rfl rfl ?_) | (refine step_load1 23 _ _ _ rfl (S.row_cellS pk _ _ hy) _ Tryd.underlying23 rfl rfl ?_) | (refine step_load1 23 _ _ _ rfl (S.old_cell hy) _ Tryd.underlying23 rfl rfl ?_)) | ((with_reducible show wpList _ _ _ (⟨_, .load 5 _, _, _, _, _⟩ :: _) _ _); first | (refine step_load1 5 _ _ _ rfl (S.cell pk co) _ Tryd.underlying5 rfl rfl ?_) | (refine step_load1 5 _ _ _ rfl (S.row_cell pk _ _ hyr) _ Tryd.underlying5 rfl rfl ?_) | (refine step_load1 5 _ _ _ rfl (S.row_cellS pk _ _ hy) _ Tryd.underlying5 rfl rfl ?_) | (refine step_load1 5 _ _ _ rfl (S.old_cell hy) _ Tryd.underlying5 rfl rfl ?_)) | ((with_reducible show wpList _ _ _ (⟨_, .load 24 _, _, _, _, _⟩ :: _) _ _); first | (refine step_load1 24 _ _ _ rfl (S.cell pk co) _ Tryd.underlying24 rfl rfl ?_) | (refine step_load1 24 _ _ _ rfl (S.row_cell pk _ _ hyr) _ Tryd.underlying24 rfl rfl ?_) | (refine step_load1 24 _ _ _ rfl (S.row_cellS pk _ _ hy) _ Tryd.underlying24 rfl rfl ?_) | (refine step_load1 24 _ _ _ rfl (S.old_cell hy) _ Tryd.underlying24 rfl rfl ?_)) | ((with_reducible show wpList _ _ _ (⟨none, .store 22 (.tmp 3) (.tmp 81), _, _, _, _⟩ :: _) _ _); refine step_store S 22 (.tmp 3) (.tmp 81) _ _ rfl rfl _ _ pk 32 (by kernel_rfl) (by first | rfl | (first | rfl | assumption | (exact Hid.out (by assumption)) | (exact rcdL_size _) | (exact sgtL_size _) | (exact smD_length _) | (exact sumD_length _) | (rw [arr8_size]; first | rfl | assumption | (exact Hid.out (by assumption)) | exact rcdL_size _ | exact sgtL_size _ | exact smD_length _ | exact sumD_length _ | exact List.length_replicate ..) | (simp [arr8_size]; done))) (by first | rfl | (first | rfl | assumption | (exact Hid.out (by assumption)) | (exact rcdL_size _) | (exact sgtL_size _) | (exact smD_length _) | (exact sumD_length _) | (rw [arr8_size]; first | rfl | assumption | (exact Hid.out (by assumption)) | exact rcdL_size _ | exact sgtL_size _ | exact smD_length _ | exact sumD_length _ | exact List.length_replicate ..) | (simp [arr8_size]; done))) on1 rfl ?_; clear S; intro w S) | fail)
                  go_roundw
                  case rel =>
                    refine ⟨k + 1, x.link, by omega, by go_num, HXL.out, HNX.out, S.sub (by repeat (first | exact Sub.nil _ | refine Sub.cons pk ?_))⟩
                  case measure => simp [intOf]; omega
              · rw [if_neg hd] at hn
                rw [show decide (x.link ≠ D) = true by simp only [decide_eq_true_eq]; exact fun h => hd h.symm] at he
                have hn1 : N = k := by omega
                clear hx hy hyb hcell hcell2 hm hl64 hv hxe hpe hD hn hrg hcv
                have HCF := Lib.hid hcf; have HBS := Lib.hid hbs; have HDL := Lib.hid hDl; have HN1 := Lib.hid hn1; have PK := Lib.hid pk; have HL := Lib.hid hL; have HD := Lib.hid hd; have HXL := Lib.hid hxl; have Q0 := Lib.hid q0; have Q1 := Lib.hid q1; have Q2 := Lib.hid q2; have HRL := Lib.hid hrl; have HLL := Lib.hid hll; clear hcf hbs hDl hn1 pk hL hd hxl q0 q1 q2 hrl hll
                clear hlt2
                go_upto_region 18 with (first | ((with_reducible show wpList _ _ _ (⟨some 3, .box 22 (.tmp 0), _, _, _, _⟩ :: _) _ _); refine step_boxA (dst := some 3) S 22 (.tmp 0) _ rfl rfl ?_; clear S; intro g3 w S) | ((with_reducible show wpList _ _ _ (⟨_, .load 50 _, _, _, _, _⟩ :: _) _ _); first | (refine step_loadR 50 _ _ _ rfl _ (S.old_range hy) _ Tryd.underlying50 rfl 35 (by kernel_rfl) (by first | rfl | (first | rfl | assumption | (exact Hid.out (by assumption)) | (exact rcdL_size _) | (exact sgtL_size _) | (exact smD_length _) | (exact sumD_length _) | (rw [arr8_size]; first | rfl | assumption | (exact Hid.out (by assumption)) | exact rcdL_size _ | exact sgtL_size _ | exact smD_length _ | exact sumD_length _ | exact List.length_replicate ..) | (simp [arr8_size]; done))) _ rfl rfl ?_) | (refine step_loadP S 50 _ _ _ rfl _ _ _ pk 35 _ (by (first | exact cellsH_st .. | exact rqL_tok .. | exact rcdL_link .. | exact rpL_tok .. | assumption | rfl)) (by first | rfl | (first | rfl | assumption | (exact Hid.out (by assumption)) | (exact rcdL_size _) | (exact sgtL_size _) | (exact smD_length _) | (exact sumD_length _) | (rw [arr8_size]; first | rfl | assumption | (exact Hid.out (by assumption)) | exact rcdL_size _ | exact sgtL_size _ | exact smD_length _ | exact sumD_length _ | exact List.length_replicate ..) | (simp [arr8_size]; done))) _ Tryd.underlying50 rfl (by kernel_rfl) rfl ?_)) | ((with_reducible show wpList _ _ _ (⟨_, .load 25 _, _, _, _, _⟩ :: _) _ _); first | (refine step_load1 25 _ _ _ rfl (S.cell pk co) _ Tryd.underlying25 rfl rfl ?_) | (refine step_load1 25 _ _ _ rfl (S.row_cell pk _ _ hyr) _ Tryd.underlying25 rfl rfl ?_) | (refine step_load1 25 _ _ _ rfl (S.row_cellS pk _ _ hy) _ Tryd.underlying25 rfl rfl ?_) | (refine step_load1 25 _ _ _ rfl (S.old_cell hy) _ Tryd.underlying25 rfl rfl ?_)) | ((with_reducible show wpList _ _ _ (⟨_, .load 22 _, _, _, _, _⟩ :: _) _ _); first | (refine step_loadR 22 _ _ _ rfl _ (S.old_range hy) _ Tryd.underlying22 rfl 32 (by kernel_rfl) (by first | rfl | (first | rfl | assumption | (exact Hid.out (by assumption)) | (exact rcdL_size _) | (exact sgtL_size _) | (exact smD_length _) | (exact sumD_length _) | (rw [arr8_size]; first | rfl | assumption | (exact Hid.out (by assumption)) | exact rcdL_size _ | exact sgtL_size _ | exact smD_length _ | exact sumD_length _ | exact List.length_replicate ..) | (simp [arr8_size]; done))) _ rfl rfl ?_) | (refine step_loadP S 22 _ _ _ rfl _ _ _ pk 32 _ (by (first | exact cellsH_st .. | exact rqL_tok .. | exact rcdL_link .. | exact rpL_tok .. | assumption | rfl)) (by first | rfl | (first | rfl | assumption | (exact Hid.out (by assumption)) | (exact rcdL_size _) | (exact sgtL_size _) | (exact smD_length _) | (exact sumD_length _) | (rw [arr8_size]; first | rfl | assumption | (exact Hid.out (by assumption)) | exact rcdL_size _ | exact sgtL_size _ | exact smD_length _ | exact sumD_length _ | exact List.length_replicate ..) | (simp [arr8_size]; done))) _ Tryd.underlying22 rfl (by kernel_rfl) rfl ?_)) | ((with_reducible show wpList _ _ _ (⟨_, .load 22 _, _, _, _, _⟩ :: _) _ _); first | (refine step_load S 22 _ _ rfl _ _ _ pk _ Tryd.underlying22 rfl 32 (by kernel_rfl) (by first | rfl | (first | rfl | assumption | (exact Hid.out (by assumption)) | (exact rcdL_size _) | (exact sgtL_size _) | (exact smD_length _) | (exact sumD_length _) | (rw [arr8_size]; first | rfl | assumption | (exact Hid.out (by assumption)) | exact rcdL_size _ | exact sgtL_size _ | exact smD_length _ | exact sumD_length _ | exact List.length_replicate ..) | (simp [arr8_size]; done))) rfl ?_) | (refine step_loadO 22 _ _ rfl _ _ _ (S.old_heap (Hid.out (by assumption))) _ Tryd.underlying22 rfl 32 (by kernel_rfl) (by first | rfl | (first | rfl | assumption | (exact Hid.out (by assumption)) | (exact rcdL_size _) | (exact sgtL_size _) | (exact smD_length _) | (exact sumD_length _) | (rw [arr8_size]; first | rfl | assumption | (exact Hid.out (by assumption)) | exact rcdL_size _ | exact sgtL_size _ | exact smD_length _ | exact sumD_length _ | exact List.length_replicate ..) | (simp [arr8_size]; done))) rfl ?_) | (refine step_loadR 22 _ _ _ rfl _ (S.old_range hy) _ Tryd.underlying22 rfl 32 (by kernel_rfl) (by first | rfl | (first | rfl | assumption | (exact Hid.out (by assumption)) | (exact rcdL_size _) | (exact sgtL_size _) | (exact smD_length _) | (exact sumD_length _) | (rw [arr8_size]; first | rfl | assumption | (exact Hid.out (by assumption)) | exact rcdL_size _ | exact sgtL_size _ | exact smD_length _ | exact sumD_length _ | exact List.length_replicate ..) | (simp [arr8_size]; done))) _ rfl rfl ?_)) | ((with_reducible show wpList _ _ _ (⟨_, .load 23 _, _, _, _, _⟩ :: _) _ _); first | (refine step_load1 23 _ _ _ rfl (S.cell pk co) _ Tryd.underlying23 rfl rfl ?_) | (refine step_load1 23 _ _ _ rfl (S.row_cell pk _ _ hyr) _ Tryd.underlying23 rfl rfl ?_) | (refine step_load1 23 _ _ _ rfl (S.row_cellS pk _ _ hy) _ Tryd.underlying23 rfl rfl ?_) | (refine step_load1 23 _ _ _ rfl (S.old_cell hy) _ Tryd.underlying23 rfl rfl ?_)) | ((with_reducible show wpList _ _ _ (⟨_, .load 5 _, _, _, _, _⟩ :: _) _ _); first | (refine step_load1 5 _ _ _ rfl (S.cell pk co) _ Tryd.underlying5 rfl rfl ?_) | (refine step_load1 5 _ _ _ rfl (S.row_cell pk _ _ hyr) _ Tryd.underlying5 rfl rfl ?_) | (refine step_load1 5 _ _ _ rfl (S.row_cellS pk _ _ hy) _ Tryd.underlying5 rfl rfl ?_) | (refine step_load1 5 _ _ _ rfl (S.old_cell hy) _ Tryd.underlying5 rfl rfl ?_)) | ((with_reducible show wpList _ _ _ (⟨_, .load 24 _, _, _, _, _⟩ :: _) _ _); first | (refine step_load1 24 _ _ _ rfl (S.cell pk co) _ Tryd.underlying24 rfl rfl ?_) | (refine step_load1 24 _ _ _ rfl (S.row_cell pk _ _ hyr) _ Tryd.underlying24 rfl rfl ?_) | (refine step_load1 24 _ _ _ rfl (S.row_cellS pk _ _ hy) _ Tryd.underlying24 rfl rfl ?_) | (refine step_load1 24 _ _ _ rfl (S.old_cell hy) _ Tryd.underlying24 rfl rfl ?_)) | ((with_reducible show wpList _ _ _ (⟨none, .store 22 (.tmp 3) (.tmp 81), _, _, _, _⟩ :: _) _ _); refine step_store S 22 (.tmp 3) (.tmp 81) _ _ rfl rfl _ _ pk 32 (by kernel_rfl) (by first | rfl | (first | rfl | assumption | (exact Hid.out (by assumption)) | (exact rcdL_size _) | (exact sgtL_size _) | (exact smD_length _) | (exact sumD_length _) | (rw [arr8_size]; first | rfl | assumption | (exact Hid.out (by assumption)) | exact rcdL_size _ | exact sgtL_size _ | exact smD_length _ | exact sumD_length _ | exact List.length_replicate ..) | (simp [arr8_size]; done))) (by first | rfl | (first | rfl | assumption | (exact Hid.out (by assumption)) | (exact rcdL_size _) | (exact sgtL_size _) | (exact smD_length _) | (exact sumD_length _) | (rw [arr8_size]; first | rfl | assumption | (exact Hid.out (by assumption)) | exact rcdL_size _ | exact sgtL_size _ | exact smD_length _ | exact sumD_length _ | exact List.length_replicate ..) | (simp [arr8_size]; done))) on1 rfl ?_; clear S; intro w S) | fail)
                refine wp_rely S [⟨[], [], [], fun _ v => v = (.slice (some ⟨b, off, none⟩) l.length c0), fun _ v => []⟩, ⟨[], [], [], fun _ v => v = (.int .i64 (k : Int)), fun _ v => []⟩, ⟨[0, 1], [], [], fun _ v => v = .pointer (some ⟨b, off + k * 35, none⟩), fun _ v => []⟩, ⟨[0, 1, 2], [], [], fun _ v => v = .pointer (some ⟨b, off + k * 35 + 3, none⟩), fun _ v => []⟩, ⟨[0, 1, 2, 3], [], [], fun _ v => v = .agg (arr8 x.link), fun _ v => []⟩, ⟨[], [], [], fun _ v => v = .agg (arr8 L), fun _ v => []⟩, ⟨[], [], [], fun _ v => v = (.slice (some ⟨b, off, none⟩) l.length c0), fun _ v => []⟩, ⟨[], [], [], fun _ v => v = (.int .i64 (k : Int)), fun _ v => []⟩, ⟨[6, 7], [], [], fun _ v => v = .pointer (some ⟨b, off + k * 35, none⟩), fun _ v => []⟩, ⟨[6, 7, 8], [], [], fun _ v => v = .pointer (some ⟨b, off + k * 35, none⟩), fun _ v => []⟩, ⟨[6, 7, 8, 9], [], [], fun _ v => v = .int .u64 (x.tick.toNat : Int), fun _ v => []⟩, ⟨[], [], [], fun _ v => v = (.slice (some ⟨b, off, none⟩) l.length c0), fun _ v => []⟩, ⟨[], [], [], fun _ v => v = (.int .i64 (k : Int)), fun _ v => []⟩, ⟨[11, 12], [], [], fun _ v => v = .pointer (some ⟨b, off + k * 35, none⟩), fun _ v => []⟩, ⟨[11, 12, 13], [], [], fun _ v => v = .pointer (some ⟨b, off + k * 35 + 1, none⟩), fun _ v => []⟩, ⟨[11, 12, 13, 14], [], [], fun _ v => v = by8 x.kind, fun _ v => []⟩, ⟨[], [], [], fun _ v => v = (.slice (some ⟨b, off, none⟩) l.length c0), fun _ v => []⟩, ⟨[], [], [], fun _ v => v = (.int .i64 (k : Int)), fun _ v => []⟩, ⟨[16, 17], [], [], fun _ v => v = .pointer (some ⟨b, off + k * 35, none⟩), fun _ v => []⟩, ⟨[16, 17, 18], [], [], fun _ v => v = .pointer (some ⟨b, off + k * 35 + 2, none⟩), fun _ v => []⟩, ⟨[16, 17, 18, 19], [], [], fun _ v => v = .int .i64 (cdV x), fun _ v => []⟩, ⟨[], [], [], fun _ v => v = (.slice (some ⟨b2, off2, none⟩) ps.length c1), fun _ v => []⟩, ⟨[], [], [], fun _ v => v = (.int .i64 (k : Int)), fun _ v => []⟩, ⟨[21, 22], [], [], fun _ v => v = .pointer (some ⟨b2, off2 + k, none⟩), fun _ v => []⟩, ⟨[21, 22, 23], [], [], fun _ v => v = p.1, fun _ v => []⟩, ⟨[5, 6, 7, 8, 9, 10, 11, 12, 13, 14, 15, 16, 17, 18, 19, 20, 21, 22, 23, 24], [], [], fun _ v => v = .agg (arr8 D), fun _ v => []⟩, ⟨[0, 1, 2, 3, 4, 5, 6, 7, 8, 9, 10, 11, 12, 13, 14, 15, 16, 17, 18, 19, 20, 21, 22, 23, 24, 25], [], [], fun _ v => v = .bool true, fun _ v => []⟩] ?A2 ?hA2 (by kernel_rfl) (by kernel_rfl) (by kernel_rfl) [0, 1, 2, 3, 4, 5, 6, 7, 8, 9, 10, 11, 12, 13, 14, 15, 16, 17, 18, 19, 20, 21, 22, 23, 24, 25, 26] (by kernel_rfl) ?hok2 ?fin2
                case hA2 => intro u; simp only [putAll, List.length_cons, List.length_nil, Nat.zero_add, Nat.reduceAdd, dstAt, List.getElem?_toArray, List.getElem?_cons_zero, List.getElem?_cons_succ, Option.bind_some, Act.put, List.setIfInBounds_toArray, List.set_cons_zero, List.set_cons_succ]; rfl
                case hok2 =>
                  intro i hi
                  obtain rfl | rfl | rfl | rfl | rfl | rfl | rfl | rfl | rfl | rfl | rfl | rfl | rfl | rfl | rfl | rfl | rfl | rfl | rfl | rfl | rfl | rfl | rfl | rfl | rfl | rfl | rfl : i = 0 ∨ i = 1 ∨ i = 2 ∨ i = 3 ∨ i = 4 ∨ i = 5 ∨ i = 6 ∨ i = 7 ∨ i = 8 ∨ i = 9 ∨ i = 10 ∨ i = 11 ∨ i = 12 ∨ i = 13 ∨ i = 14 ∨ i = 15 ∨ i = 16 ∨ i = 17 ∨ i = 18 ∨ i = 19 ∨ i = 20 ∨ i = 21 ∨ i = 22 ∨ i = 23 ∨ i = 24 ∨ i = 25 ∨ i = 26 := by simp only [List.length_cons, List.length_nil, Nat.zero_add, Nat.reduceAdd] at hi; omega
                  · clear hi
                    refine step_of rfl rfl rfl ?_
                    intro u G w hf S
                    simp only [resOf, spec, RSpec.resAt, z0, z1, z2, z3, z4, z5, z6, z7, ptrBlk] at S ⊢
                    simp only [does]
                    go_simp
                    try first | exact S | exact ⟨vv, S⟩ | exact vv
                  · clear hi
                    refine step_of rfl rfl rfl ?_
                    intro u G w hf S
                    simp only [resOf, spec, RSpec.resAt, z0, z1, z2, z3, z4, z5, z6, z7, ptrBlk] at S ⊢
                    simp only [does]
                    go_simp
                    try first | exact S | exact ⟨vv, S⟩ | exact vv
                  · clear hi
                    refine step_of rfl rfl rfl ?_
                    intro u G w hf S
                    have f0 : u 0 = (.slice (some ⟨b, off, none⟩) l.length c0) := hf 0 (by simp)
                    have f1 : u 1 = (.int .i64 (k : Int)) := hf 1 (by simp)
                    simp only [resOf, spec, RSpec.resAt, z0, z1, z2, z3, z4, z5, z6, z7, ptrBlk] at S ⊢
                    simp only [f0, f1]
                    simp only [does]
                    go_simp
                    try first | exact S | exact ⟨vv, S⟩ | exact vv
                  · clear hi
                    refine step_of rfl rfl rfl ?_
                    intro u G w hf S
                    have f2 : u 2 = .pointer (some ⟨b, off + k * 35, none⟩) := hf 2 (by simp)
                    simp only [resOf, spec, RSpec.resAt, z0, z1, z2, z3, z4, z5, z6, z7, ptrBlk] at S ⊢
                    simp only [f2]
                    simp only [does]
                    go_simp
                    try first | exact S | exact ⟨vv, S⟩ | exact vv
                  · clear hi
                    refine step_of rfl rfl rfl ?_
                    intro u G w hf S
                    have f3 : u 3 = .pointer (some ⟨b, off + k * 35 + 3, none⟩) := hf 3 (by simp)
                    simp only [resOf, spec, RSpec.resAt, z0, z1, z2, z3, z4, z5, z6, z7, ptrBlk] at S ⊢
                    simp only [f3]
                    refine does_loadR 22 (.tmp 52) _ _ rfl _ (S.old_range HRL.out) _ Tryd.underlying22 rfl 32 (by kernel_rfl) HLL.out _ rfl ?_; exact ⟨rfl, S⟩
                  · clear hi
                    refine step_of rfl rfl rfl ?_
                    intro u G w hf S
                    simp only [resOf, spec, RSpec.resAt, z0, z1, z2, z3, z4, z5, z6, z7, ptrBlk] at S ⊢
                    refine does_load 22 (.tmp 3) g3 rfl _ _ _ (S.get (r := blk g3 _) pk) _ Tryd.underlying22 rfl 32 (by kernel_rfl) (by first | rfl | (first | rfl | assumption | (exact Hid.out (by assumption)) | (exact rcdL_size _) | (exact sgtL_size _) | (exact smD_length _) | (exact sumD_length _) | (rw [arr8_size]; first | rfl | assumption | (exact Hid.out (by assumption)) | exact rcdL_size _ | exact sgtL_size _ | exact smD_length _ | exact sumD_length _ | exact List.length_replicate ..) | (simp [arr8_size]; done))) ?_; exact ⟨rfl, S⟩
                  · clear hi
                    refine step_of rfl rfl rfl ?_
                    intro u G w hf S
                    simp only [resOf, spec, RSpec.resAt, z0, z1, z2, z3, z4, z5, z6, z7, ptrBlk] at S ⊢
                    simp only [does]
                    go_simp
                    try first | exact S | exact ⟨vv, S⟩ | exact vv
                  · clear hi
                    refine step_of rfl rfl rfl ?_
                    intro u G w hf S
                    simp only [resOf, spec, RSpec.resAt, z0, z1, z2, z3, z4, z5, z6, z7, ptrBlk] at S ⊢
                    simp only [does]
                    go_simp
                    try first | exact S | exact ⟨vv, S⟩ | exact vv
                  · clear hi
                    refine step_of rfl rfl rfl ?_
                    intro u G w hf S
                    have f6 : u 6 = (.slice (some ⟨b, off, none⟩) l.length c0) := hf 6 (by simp)
                    have f7 : u 7 = (.int .i64 (k : Int)) := hf 7 (by simp)
                    simp only [resOf, spec, RSpec.resAt, z0, z1, z2, z3, z4, z5, z6, z7, ptrBlk] at S ⊢
                    simp only [f6, f7]
                    simp only [does]
                    go_simp
                    try first | exact S | exact ⟨vv, S⟩ | exact vv
                  · clear hi
                    refine step_of rfl rfl rfl ?_
                    intro u G w hf S
                    have f8 : u 8 = .pointer (some ⟨b, off + k * 35, none⟩) := hf 8 (by simp)
                    simp only [resOf, spec, RSpec.resAt, z0, z1, z2, z3, z4, z5, z6, z7, ptrBlk] at S ⊢
                    simp only [f8]
                    simp only [does]
                    go_simp
                    try first | exact S | exact ⟨vv, S⟩ | exact vv
                  · clear hi
                    refine step_of rfl rfl rfl ?_
                    intro u G w hf S
                    have f9 : u 9 = .pointer (some ⟨b, off + k * 35, none⟩) := hf 9 (by simp)
                    simp only [resOf, spec, RSpec.resAt, z0, z1, z2, z3, z4, z5, z6, z7, ptrBlk] at S ⊢
                    simp only [f9]
                    refine does_load1 23 (.tmp 58) _ _ rfl (S.old_cell hy) _ Tryd.underlying23 rfl ?_; exact ⟨rfl, S⟩
                  · clear hi
                    refine step_of rfl rfl rfl ?_
                    intro u G w hf S
                    simp only [resOf, spec, RSpec.resAt, z0, z1, z2, z3, z4, z5, z6, z7, ptrBlk] at S ⊢
                    simp only [does]
                    go_simp
                    try first | exact S | exact ⟨vv, S⟩ | exact vv
                  · clear hi
                    refine step_of rfl rfl rfl ?_
                    intro u G w hf S
                    simp only [resOf, spec, RSpec.resAt, z0, z1, z2, z3, z4, z5, z6, z7, ptrBlk] at S ⊢
                    simp only [does]
                    go_simp
                    try first | exact S | exact ⟨vv, S⟩ | exact vv
                  · clear hi
                    refine step_of rfl rfl rfl ?_
                    intro u G w hf S
                    have f11 : u 11 = (.slice (some ⟨b, off, none⟩) l.length c0) := hf 11 (by simp)
                    have f12 : u 12 = (.int .i64 (k : Int)) := hf 12 (by simp)
                    simp only [resOf, spec, RSpec.resAt, z0, z1, z2, z3, z4, z5, z6, z7, ptrBlk] at S ⊢
                    simp only [f11, f12]
                    simp only [does]
                    go_simp
                    try first | exact S | exact ⟨vv, S⟩ | exact vv
                  · clear hi
                    refine step_of rfl rfl rfl ?_
                    intro u G w hf S
                    have f13 : u 13 = .pointer (some ⟨b, off + k * 35, none⟩) := hf 13 (by simp)
                    simp only [resOf, spec, RSpec.resAt, z0, z1, z2, z3, z4, z5, z6, z7, ptrBlk] at S ⊢
                    simp only [f13]
                    simp only [does]
                    go_simp
                    try first | exact S | exact ⟨vv, S⟩ | exact vv
                  · clear hi
                    refine step_of rfl rfl rfl ?_
                    intro u G w hf S
                    have f14 : u 14 = .pointer (some ⟨b, off + k * 35 + 1, none⟩) := hf 14 (by simp)
                    simp only [resOf, spec, RSpec.resAt, z0, z1, z2, z3, z4, z5, z6, z7, ptrBlk] at S ⊢
                    simp only [f14]
                    refine does_load1 5 (.tmp 63) _ _ rfl (S.old_cell hy) _ Tryd.underlying5 rfl ?_; exact ⟨rfl, S⟩
                  · clear hi
                    refine step_of rfl rfl rfl ?_
                    intro u G w hf S
                    simp only [resOf, spec, RSpec.resAt, z0, z1, z2, z3, z4, z5, z6, z7, ptrBlk] at S ⊢
                    simp only [does]
                    go_simp
                    try first | exact S | exact ⟨vv, S⟩ | exact vv
                  · clear hi
                    refine step_of rfl rfl rfl ?_
                    intro u G w hf S
                    simp only [resOf, spec, RSpec.resAt, z0, z1, z2, z3, z4, z5, z6, z7, ptrBlk] at S ⊢
                    simp only [does]
                    go_simp
                    try first | exact S | exact ⟨vv, S⟩ | exact vv
                  · clear hi
                    refine step_of rfl rfl rfl ?_
                    intro u G w hf S
                    have f16 : u 16 = (.slice (some ⟨b, off, none⟩) l.length c0) := hf 16 (by simp)
                    have f17 : u 17 = (.int .i64 (k : Int)) := hf 17 (by simp)
                    simp only [resOf, spec, RSpec.resAt, z0, z1, z2, z3, z4, z5, z6, z7, ptrBlk] at S ⊢
                    simp only [f16, f17]
                    simp only [does]
                    go_simp
                    try first | exact S | exact ⟨vv, S⟩ | exact vv
                  · clear hi
                    refine step_of rfl rfl rfl ?_
                    intro u G w hf S
                    have f18 : u 18 = .pointer (some ⟨b, off + k * 35, none⟩) := hf 18 (by simp)
                    simp only [resOf, spec, RSpec.resAt, z0, z1, z2, z3, z4, z5, z6, z7, ptrBlk] at S ⊢
                    simp only [f18]
                    simp only [does]
                    go_simp
                    try first | exact S | exact ⟨vv, S⟩ | exact vv
                  · clear hi
                    refine step_of rfl rfl rfl ?_
                    intro u G w hf S
                    have f19 : u 19 = .pointer (some ⟨b, off + k * 35 + 2, none⟩) := hf 19 (by simp)
                    simp only [resOf, spec, RSpec.resAt, z0, z1, z2, z3, z4, z5, z6, z7, ptrBlk] at S ⊢
                    simp only [f19]
                    refine does_load1 24 (.tmp 68) _ _ rfl (S.old_cell hy) _ Tryd.underlying24 rfl ?_; exact ⟨rfl, S⟩
                  · clear hi
                    refine step_of rfl rfl rfl ?_
                    intro u G w hf S
                    simp only [resOf, spec, RSpec.resAt, z0, z1, z2, z3, z4, z5, z6, z7, ptrBlk] at S ⊢
                    simp only [does]
                    go_simp
                    try first | exact S | exact ⟨vv, S⟩ | exact vv
                  · clear hi
                    refine step_of rfl rfl rfl ?_
                    intro u G w hf S
                    simp only [resOf, spec, RSpec.resAt, z0, z1, z2, z3, z4, z5, z6, z7, ptrBlk] at S ⊢
                    simp only [does]
                    go_simp
                    try first | exact S | exact ⟨vv, S⟩ | exact vv
                  · clear hi
                    refine step_of rfl rfl rfl ?_
                    intro u G w hf S
                    have f21 : u 21 = (.slice (some ⟨b2, off2, none⟩) ps.length c1) := hf 21 (by simp)
                    have f22 : u 22 = (.int .i64 (k : Int)) := hf 22 (by simp)
                    simp only [resOf, spec, RSpec.resAt, z0, z1, z2, z3, z4, z5, z6, z7, ptrBlk] at S ⊢
                    simp only [f21, f22]
                    simp only [does]
                    go_simp
                    try first | exact S | exact ⟨vv, S⟩ | exact vv
                  · clear hi
                    refine step_of rfl rfl rfl ?_
                    intro u G w hf S
                    have f23 : u 23 = .pointer (some ⟨b2, off2 + k, none⟩) := hf 23 (by simp)
                    simp only [resOf, spec, RSpec.resAt, z0, z1, z2, z3, z4, z5, z6, z7, ptrBlk] at S ⊢
                    simp only [f23]
                    refine does_load1 25 (.tmp 72) _ _ rfl (S.old_cell hy) _ Tryd.underlying25 rfl ?_; exact ⟨rfl, S⟩
                  · clear hi
                    refine step_of rfl rfl rfl ?_
                    intro u G w hf S
                    have f5 : u 5 = .agg (arr8 L) := hf 5 (by simp)
                    have f10 : u 10 = .int .u64 (x.tick.toNat : Int) := hf 10 (by simp)
                    have f15 : u 15 = by8 x.kind := hf 15 (by simp)
                    have f20 : u 20 = .int .i64 (cdV x) := hf 20 (by simp)
                    have f24 : u 24 = p.1 := hf 24 (by simp)
                    simp only [resOf, spec, RSpec.resAt, z0, z1, z2, z3, z4, z5, z6, z7, ptrBlk] at S ⊢
                    simp only [f5, f10, f15, f20, f24]
                    refine does_fn (args := [(.agg (arr8 L)), (.int .u64 (x.tick.toNat : Int)), (by8 x.kind), (.int .i64 (cdV x)), (p.1)]) Tryd.func49 (by kernel_rfl) (by kernel_rfl) (PK.out w (S.oldB HBS.out)) rfl ?_
                    rintro e w1 ⟨rfl, T⟩
                    exact ⟨_, rfl, rfl, S.call T⟩
                  · clear hi
                    refine step_of rfl rfl rfl ?_
                    intro u G w hf S
                    have f4 : u 4 = .agg (arr8 x.link) := hf 4 (by simp)
                    have f25 : u 25 = .agg (arr8 D) := hf 25 (by simp)
                    simp only [resOf, spec, RSpec.resAt, z0, z1, z2, z3, z4, z5, z6, z7, ptrBlk] at S ⊢
                    simp only [f4, f25]
                    simp only [does]
                    go_simp
                    try first | exact S | exact ⟨vv, S⟩ | exact vv
                case fin2 =>
                  intro u w hf S
                  have f0 : u 0 = (.slice (some ⟨b, off, none⟩) l.length c0) := hf 0 (by simp)
                  have f1 : u 1 = (.int .i64 (k : Int)) := hf 1 (by simp)
                  have f2 : u 2 = .pointer (some ⟨b, off + k * 35, none⟩) := hf 2 (by simp)
                  have f3 : u 3 = .pointer (some ⟨b, off + k * 35 + 3, none⟩) := hf 3 (by simp)
                  have f4 : u 4 = .agg (arr8 x.link) := hf 4 (by simp)
                  have f5 : u 5 = .agg (arr8 L) := hf 5 (by simp)
                  have f6 : u 6 = (.slice (some ⟨b, off, none⟩) l.length c0) := hf 6 (by simp)
                  have f7 : u 7 = (.int .i64 (k : Int)) := hf 7 (by simp)
                  have f8 : u 8 = .pointer (some ⟨b, off + k * 35, none⟩) := hf 8 (by simp)
                  have f9 : u 9 = .pointer (some ⟨b, off + k * 35, none⟩) := hf 9 (by simp)
                  have f10 : u 10 = .int .u64 (x.tick.toNat : Int) := hf 10 (by simp)
                  have f11 : u 11 = (.slice (some ⟨b, off, none⟩) l.length c0) := hf 11 (by simp)
                  have f12 : u 12 = (.int .i64 (k : Int)) := hf 12 (by simp)
                  have f13 : u 13 = .pointer (some ⟨b, off + k * 35, none⟩) := hf 13 (by simp)
                  have f14 : u 14 = .pointer (some ⟨b, off + k * 35 + 1, none⟩) := hf 14 (by simp)
                  have f15 : u 15 = by8 x.kind := hf 15 (by simp)
                  have f16 : u 16 = (.slice (some ⟨b, off, none⟩) l.length c0) := hf 16 (by simp)
                  have f17 : u 17 = (.int .i64 (k : Int)) := hf 17 (by simp)
                  have f18 : u 18 = .pointer (some ⟨b, off + k * 35, none⟩) := hf 18 (by simp)
                  have f19 : u 19 = .pointer (some ⟨b, off + k * 35 + 2, none⟩) := hf 19 (by simp)
                  have f20 : u 20 = .int .i64 (cdV x) := hf 20 (by simp)
                  have f21 : u 21 = (.slice (some ⟨b2, off2, none⟩) ps.length c1) := hf 21 (by simp)
                  have f22 : u 22 = (.int .i64 (k : Int)) := hf 22 (by simp)
                  have f23 : u 23 = .pointer (some ⟨b2, off2 + k, none⟩) := hf 23 (by simp)
                  have f24 : u 24 = p.1 := hf 24 (by simp)
                  have f25 : u 25 = .agg (arr8 D) := hf 25 (by simp)
                  have f26 : u 26 = .bool true := hf 26 (by simp)
                  simp only [resOf, spec, RSpec.resAt, z0, z1, z2, z3, z4, z5, z6, z7, ptrBlk] at S
                  clear hf
                  simp only [List.length_cons, List.length_nil, Nat.zero_add, Nat.reduceAdd, List.drop_succ_cons, List.drop_zero, f0, f1, f2, f3, f4, f5, f6, f7, f8, f9, f10, f11, f12, f13, f14, f15, f16, f17, f18, f19, f20, f21, f22, f23, f24, f25, f26]
                  clear f0 f1 f2 f3 f4 f5 f6 f7 f8 f9 f10 f11 f12 f13 f14 f15 f16 f17 f18 f19 f20 f21 f22 f23 f24 f25 f26
                  go_wp2_with (first | ((with_reducible show wpList _ _ _ (⟨some 3, .box 22 (.tmp 0), _, _, _, _⟩ :: _) _ _); refine step_boxA (dst := some 3) S 22 (.tmp 0) _ rfl rfl ?_; clear S; intro g3 w S) | ((with_reducible show wpList _ _ _ (⟨_, .load 50 _, _, _, _, _⟩ :: _) _ _); first | (refine step_loadR 50 _ _ _ rfl _ (S.old_range hy) _ Tryd.underlying50 rfl 35 (by kernel_rfl) (by first | rfl | (first | rfl | assumption | (exact Hid.out (by assumption)) | (exact rcdL_size _) | (exact sgtL_size _) | (exact smD_length _) | (exact sumD_length _) | (rw [arr8_size]; first | rfl | assumption | (exact Hid.out (by assumption)) | exact rcdL_size _ | exact sgtL_size _ | exact smD_length _ | exact sumD_length _ | exact List.length_replicate ..) | (simp [arr8_size]; done))) _ rfl rfl ?_) | (refine step_loadP S 50 _ _ _ rfl _ _ _ pk 35 _ (by (first | exact cellsH_st .. | exact rqL_tok .. | exact rcdL_link .. | exact rpL_tok .. | assumption | rfl)) (by first | rfl | (first | rfl | assumption | (exact Hid.out (by assumption)) | (exact rcdL_size _) | (exact sgtL_size _) | (exact smD_length _) | (exact sumD_length _) | (rw [arr8_size]; first | rfl | assumption | (exact Hid.out (by assumption)) | exact rcdL_size _ | exact sgtL_size _ | exact smD_length _ | exact sumD_length _ | exact List.length_replicate ..) | (simp [arr8_size]; done))) _ Tryd.underlying50 rfl (by kernel_rfl) rfl ?_)) | ((with_reducible show wpList _ _ _ (⟨_, .load 25 _, _, _, _, _⟩ :: _) _ _); first | (refine step_load1 25 _ _ _ rfl (S.cell pk co) _ Tryd.underlying25 rfl rfl ?_) | (refine step_load1 25 _ _ _ rfl (S.row_cell pk _ _ hyr) _ Tryd.underlying25 rfl rfl ?_) | (refine step_load1 25 _ _ _ rfl (S.row_cellS pk _ _ hy) _ Tryd.underlying25 rfl rfl ?_) | (refine step_load1 25 _ _ _ rfl (S.old_cell hy) _ Tryd.underlying25 rfl rfl ?_)) | ((with_reducible show wpList _ _ _ (⟨_, .load 22 _, _, _, _, _⟩ :: _) _ _); first | (refine step_loadR 22 _ _ _ rfl _ (S.old_range hy) _ Tryd.underlying22 rfl 32 (by kernel_rfl) (by first | rfl | (first | rfl | assumption | (exact Hid.out (by assumption)) | (exact rcdL_size _) | (exact sgtL_size _) | (exact smD_length _) | (exact sumD_length _) | (rw [arr8_size]; first | rfl | assumption | (exact Hid.out (by assumption)) | exact rcdL_size _ | exact sgtL_size _ | exact smD_length _ | exact sumD_length _ | exact List.length_replicate ..) | (simp [arr8_size]; done))) _ rfl rfl ?_) | (refine step_loadP S 22 _ _ _ rfl _ _ _ pk 32 _ (by (first | exact cellsH_st .. | exact rqL_tok .. | exact rcdL_link .. | exact rpL_tok .. | assumption | rfl)) (by first | rfl | (first | rfl | assumption | (exact Hid.out (by assumption)) | (exact rcdL_size _) | (exact sgtL_size _) | (exact smD_length _) | (exact sumD_length _) | (rw [arr8_size]; first | rfl | assumption | (exact Hid.out (by assumption)) | exact rcdL_size _ | exact sgtL_size _ | exact smD_length _ | exact sumD_length _ | exact List.length_replicate ..) | (simp [arr8_size]; done))) _ Tryd.underlying22 rfl (by kernel_rfl) rfl ?_)) | ((with_reducible show wpList _ _ _ (⟨_, .load 22 _, _, _, _, _⟩ :: _) _ _); first | (refine step_load S 22 _ _ rfl _ _ _ pk _ Tryd.underlying22 rfl 32 (by kernel_rfl) (by first | rfl | (first | rfl | assumption | (exact Hid.out (by assumption)) | (exact rcdL_size _) | (exact sgtL_size _) | (exact smD_length _) | (exact sumD_length _) | (rw [arr8_size]; first | rfl | assumption | (exact Hid.out (by assumption)) | exact rcdL_size _ | exact sgtL_size _ | exact smD_length _ | exact sumD_length _ | exact List.length_replicate ..) | (simp [arr8_size]; done))) rfl ?_) | (refine step_loadO 22 _ _ rfl _ _ _ (S.old_heap (Hid.out (by assumption))) _ Tryd.underlying22 rfl 32 (by kernel_rfl) (by first | rfl | (first | rfl | assumption | (exact Hid.out (by assumption)) | (exact rcdL_size _) | (exact sgtL_size _) | (exact smD_length _) | (exact sumD_length _) | (rw [arr8_size]; first | rfl | assumption | (exact Hid.out (by assumption)) | exact rcdL_size _ | exact sgtL_size _ | exact smD_length _ | exact sumD_length _ | exact List.length_replicate ..) | (simp [arr8_size]; done))) rfl ?_) | (refine step_loadR 22 _ _ _ rfl _ (S.old_range hy) _ Tryd.underlying22 rfl 32 (by kernel_rfl) (by first | rfl | (first | rfl | assumption | (exact Hid.out (by assumption)) | (exact rcdL_size _) | (exact sgtL_size _) | (exact smD_length _) | (exact sumD_length _) | (rw [arr8_size]; first | rfl | assumption | (exact Hid.out (by assumption)) | exact rcdL_size _ | exact sgtL_size _ | exact smD_length _ | exact sumD_length _ | exact List.length_replicate ..) | (simp [arr8_size]; done))) _ rfl rfl ?_)) | ((with_reducible show wpList _ _ _ (⟨_, .load 23 _, _, _, _, _⟩ :: _) _ _); first | (refine step_load1 23 _ _ _ rfl (S.cell pk co) _ Tryd.underlying23 rfl rfl ?_) | (refine step_load1 23 _ _ _ rfl (S.row_cell pk _ _ hyr) _ Tryd.underlying23 rfl rfl ?_) | (refine step_load1 23 _ _ _ rfl (S.row_cellS pk _ _ hy) _ Tryd.underlying23 rfl rfl ?_) | (refine step_load1 23 _ _ _ rfl (S.old_cell hy) _ Tryd.underlying23 rfl rfl ?_)) | ((with_reducible show wpList _ _ _ (⟨_, .load 5 _, _, _, _, _⟩ :: _) _ _); first | (refine step_load1 5 _ _ _ rfl (S.cell pk co) _ Tryd.underlying5 rfl rfl ?_) | (refine step_load1 5 _ _ _ rfl (S.row_cell pk _ _ hyr) _ Tryd.underlying5 rfl rfl ?_) | (refine step_load1 5 _ _ _ rfl (S.row_cellS pk _ _ hy) _ Tryd.underlying5 rfl rfl ?_) | (refine step_load1 5 _ _ _ rfl (S.old_cell hy) _ Tryd.underlying5 rfl rfl ?_)) | ((with_reducible show wpList _ _ _ (⟨_, .load 24 _, _, _, _, _⟩ :: _) _ _); first | (refine step_load1 24 _ _ _ rfl (S.cell pk co) _ Tryd.underlying24 rfl rfl ?_) | (refine step_load1 24 _ _ _ rfl (S.row_cell pk _ _ hyr) _ Tryd.underlying24 rfl rfl ?_) | (refine step_load1 24 _ _ _ rfl (S.row_cellS pk _ _ hy) _ Tryd.underlying24 rfl rfl ?_) | (refine step_load1 24 _ _ _ rfl (S.old_cell hy) _ Tryd.underlying24 rfl rfl ?_)) | ((with_reducible show wpList _ _ _ (⟨none, .store 22 (.tmp 3) (.tmp 81), _, _, _, _⟩ :: _) _ _); refine step_store S 22 (.tmp 3) (.tmp 81) _ _ rfl rfl _ _ pk 32 (by kernel_rfl) (by first | rfl | (first | rfl | assumption | (exact Hid.out (by assumption)) | (exact rcdL_size _) | (exact sgtL_size _) | (exact smD_length _) | (exact sumD_length _) | (rw [arr8_size]; first | rfl | assumption | (exact Hid.out (by assumption)) | exact rcdL_size _ | exact sgtL_size _ | exact smD_length _ | exact sumD_length _ | exact List.length_replicate ..) | (simp [arr8_size]; done))) (by first | rfl | (first | rfl | assumption | (exact Hid.out (by assumption)) | (exact rcdL_size _) | (exact sgtL_size _) | (exact smD_length _) | (exact sumD_length _) | (rw [arr8_size]; first | rfl | assumption | (exact Hid.out (by assumption)) | exact rcdL_size _ | exact sgtL_size _ | exact smD_length _ | exact sumD_length _ | exact List.length_replicate ..) | (simp [arr8_size]; done))) on1 rfl ?_; clear S; intro w S) | fail)
                  go_ret2
                  exact ⟨by rw [HRES.out, show N = k from HN1.out]; rfl, S.nil⟩
            · obtain rfl : k = l.length := by omega
              have hnN : N = l.length := by
                rw [List.drop_of_length_le (Nat.le_refl _)] at hn
                simpa [vfN] using hn
              have hki : ¬ (l.length : Int) < (l.length : Int) := by omega
              have HNN := Lib.hid hnN; clear hnN
              clear hn
              go_wp2_with (first | ((with_reducible show wpList _ _ _ (⟨some 3, .box 22 (.tmp 0), _, _, _, _⟩ :: _) _ _); refine step_boxA (dst := some 3) S 22 (.tmp 0) _ rfl rfl ?_; clear S; intro g3 w S) | ((with_reducible show wpList _ _ _ (⟨_, .load 50 _, _, _, _, _⟩ :: _) _ _); first | (refine step_loadR 50 _ _ _ rfl _ (S.old_range hy) _ Tryd.underlying50 rfl 35 (by kernel_rfl) (by first | rfl | (first | rfl | assumption | (exact Hid.out (by assumption)) | (exact rcdL_size _) | (exact sgtL_size _) | (exact smD_length _) | (exact sumD_length _) | (rw [arr8_size]; first | rfl | assumption | (exact Hid.out (by assumption)) | exact rcdL_size _ | exact sgtL_size _ | exact smD_length _ | exact sumD_length _ | exact List.length_replicate ..) | (simp [arr8_size]; done))) _ rfl rfl ?_) | (refine step_loadP S 50 _ _ _ rfl _ _ _ pk 35 _ (by (first | exact cellsH_st .. | exact rqL_tok .. | exact rcdL_link .. | exact rpL_tok .. | assumption | rfl)) (by first | rfl | (first | rfl | assumption | (exact Hid.out (by assumption)) | (exact rcdL_size _) | (exact sgtL_size _) | (exact smD_length _) | (exact sumD_length _) | (rw [arr8_size]; first | rfl | assumption | (exact Hid.out (by assumption)) | exact rcdL_size _ | exact sgtL_size _ | exact smD_length _ | exact sumD_length _ | exact List.length_replicate ..) | (simp [arr8_size]; done))) _ Tryd.underlying50 rfl (by kernel_rfl) rfl ?_)) | ((with_reducible show wpList _ _ _ (⟨_, .load 25 _, _, _, _, _⟩ :: _) _ _); first | (refine step_load1 25 _ _ _ rfl (S.cell pk co) _ Tryd.underlying25 rfl rfl ?_) | (refine step_load1 25 _ _ _ rfl (S.row_cell pk _ _ hyr) _ Tryd.underlying25 rfl rfl ?_) | (refine step_load1 25 _ _ _ rfl (S.row_cellS pk _ _ hy) _ Tryd.underlying25 rfl rfl ?_) | (refine step_load1 25 _ _ _ rfl (S.old_cell hy) _ Tryd.underlying25 rfl rfl ?_)) | ((with_reducible show wpList _ _ _ (⟨_, .load 22 _, _, _, _, _⟩ :: _) _ _); first | (refine step_loadR 22 _ _ _ rfl _ (S.old_range hy) _ Tryd.underlying22 rfl 32 (by kernel_rfl) (by first | rfl | (first | rfl | assumption | (exact Hid.out (by assumption)) | (exact rcdL_size _) | (exact sgtL_size _) | (exact smD_length _) | (exact sumD_length _) | (rw [arr8_size]; first | rfl | assumption | (exact Hid.out (by assumption)) | exact rcdL_size _ | exact sgtL_size _ | exact smD_length _ | exact sumD_length _ | exact List.length_replicate ..) | (simp [arr8_size]; done))) _ rfl rfl ?_) | (refine step_loadP S 22 _ _ _ rfl _ _ _ pk 32 _ (by (first | exact cellsH_st .. | exact rqL_tok .. | exact rcdL_link .. | exact rpL_tok .. | assumption | rfl)) (by first | rfl | (first | rfl | assumption | (exact Hid.out (by assumption)) | (exact rcdL_size _) | (exact sgtL_size _) | (exact smD_length _) | (exact sumD_length _) | (rw [arr8_size]; first | rfl | assumption | (exact Hid.out (by assumption)) | exact rcdL_size _ | exact sgtL_size _ | exact smD_length _ | exact sumD_length _ | exact List.length_replicate ..) | (simp [arr8_size]; done))) _ Tryd.underlying22 rfl (by kernel_rfl) rfl ?_)) | ((with_reducible show wpList _ _ _ (⟨_, .load 22 _, _, _, _, _⟩ :: _) _ _); first | (refine step_load S 22 _ _ rfl _ _ _ pk _ Tryd.underlying22 rfl 32 (by kernel_rfl) (by first | rfl | (first | rfl | assumption | (exact Hid.out (by assumption)) | (exact rcdL_size _) | (exact sgtL_size _) | (exact smD_length _) | (exact sumD_length _) | (rw [arr8_size]; first | rfl | assumption | (exact Hid.out (by assumption)) | exact rcdL_size _ | exact sgtL_size _ | exact smD_length _ | exact sumD_length _ | exact List.length_replicate ..) | (simp [arr8_size]; done))) rfl ?_) | (refine step_loadO 22 _ _ rfl _ _ _ (S.old_heap (Hid.out (by assumption))) _ Tryd.underlying22 rfl 32 (by kernel_rfl) (by first | rfl | (first | rfl | assumption | (exact Hid.out (by assumption)) | (exact rcdL_size _) | (exact sgtL_size _) | (exact smD_length _) | (exact sumD_length _) | (rw [arr8_size]; first | rfl | assumption | (exact Hid.out (by assumption)) | exact rcdL_size _ | exact sgtL_size _ | exact smD_length _ | exact sumD_length _ | exact List.length_replicate ..) | (simp [arr8_size]; done))) rfl ?_) | (refine step_loadR 22 _ _ _ rfl _ (S.old_range hy) _ Tryd.underlying22 rfl 32 (by kernel_rfl) (by first | rfl | (first | rfl | assumption | (exact Hid.out (by assumption)) | (exact rcdL_size _) | (exact sgtL_size _) | (exact smD_length _) | (exact sumD_length _) | (rw [arr8_size]; first | rfl | assumption | (exact Hid.out (by assumption)) | exact rcdL_size _ | exact sgtL_size _ | exact smD_length _ | exact sumD_length _ | exact List.length_replicate ..) | (simp [arr8_size]; done))) _ rfl rfl ?_)) | ((with_reducible show wpList _ _ _ (⟨_, .load 23 _, _, _, _, _⟩ :: _) _ _); first | (refine step_load1 23 _ _ _ rfl (S.cell pk co) _ Tryd.underlying23 rfl rfl ?_) | (refine step_load1 23 _ _ _ rfl (S.row_cell pk _ _ hyr) _ Tryd.underlying23 rfl rfl ?_) | (refine step_load1 23 _ _ _ rfl (S.row_cellS pk _ _ hy) _ Tryd.underlying23 rfl rfl ?_) | (refine step_load1 23 _ _ _ rfl (S.old_cell hy) _ Tryd.underlying23 rfl rfl ?_)) | ((with_reducible show wpList _ _ _ (⟨_, .load 5 _, _, _, _, _⟩ :: _) _ _); first | (refine step_load1 5 _ _ _ rfl (S.cell pk co) _ Tryd.underlying5 rfl rfl ?_) | (refine step_load1 5 _ _ _ rfl (S.row_cell pk _ _ hyr) _ Tryd.underlying5 rfl rfl ?_) | (refine step_load1 5 _ _ _ rfl (S.row_cellS pk _ _ hy) _ Tryd.underlying5 rfl rfl ?_) | (refine step_load1 5 _ _ _ rfl (S.old_cell hy) _ Tryd.underlying5 rfl rfl ?_)) | ((with_reducible show wpList _ _ _ (⟨_, .load 24 _, _, _, _, _⟩ :: _) _ _); first | (refine step_load1 24 _ _ _ rfl (S.cell pk co) _ Tryd.underlying24 rfl rfl ?_) | (refine step_load1 24 _ _ _ rfl (S.row_cell pk _ _ hyr) _ Tryd.underlying24 rfl rfl ?_) | (refine step_load1 24 _ _ _ rfl (S.row_cellS pk _ _ hy) _ Tryd.underlying24 rfl rfl ?_) | (refine step_load1 24 _ _ _ rfl (S.old_cell hy) _ Tryd.underlying24 rfl rfl ?_)) | ((with_reducible show wpList _ _ _ (⟨none, .store 22 (.tmp 3) (.tmp 81), _, _, _, _⟩ :: _) _ _); refine step_store S 22 (.tmp 3) (.tmp 81) _ _ rfl rfl _ _ pk 32 (by kernel_rfl) (by first | rfl | (first | rfl | assumption | (exact Hid.out (by assumption)) | (exact rcdL_size _) | (exact sgtL_size _) | (exact smD_length _) | (exact sumD_length _) | (rw [arr8_size]; first | rfl | assumption | (exact Hid.out (by assumption)) | exact rcdL_size _ | exact sgtL_size _ | exact smD_length _ | exact sumD_length _ | exact List.length_replicate ..) | (simp [arr8_size]; done))) (by first | rfl | (first | rfl | assumption | (exact Hid.out (by assumption)) | (exact rcdL_size _) | (exact sgtL_size _) | (exact smD_length _) | (exact sumD_length _) | (rw [arr8_size]; first | rfl | assumption | (exact Hid.out (by assumption)) | exact rcdL_size _ | exact sgtL_size _ | exact smD_length _ | exact sumD_length _ | exact List.length_replicate ..) | (simp [arr8_size]; done))) on1 rfl ?_; clear S; intro w S) | fail)
              go_ret2
              exact ⟨by rw [HRES.out, HNN.out]; rfl, S.nil⟩
end Go.Proofs.YtfhkmmagpnojmaaDoor
