/- AuthExact: its walk. No condition but the tables and the reach. -/
import Derived.Test.YtioonimpobcglaaDoorBd
import Derived.Test.YtioonimpobcglaaDoorAlv
import Derived.Test.YtioonimpobcglaaDoorIssue
set_option linter.unusedSimpArgs false
set_option linter.unusedVariables false
namespace Go.Proofs.YtioonimpobcglaaDoor
open Go.RowKit

set_option maxRecDepth 100000 in
set_option maxHeartbeats 8000000 in
theorem exact_no (v0 v1 : Value) (l : List Mnt) (key : List UInt8) (tenant : Int) (t : Tok) (kind now : Nat) (E : Int) (w0 : World) (h1 : Rg w0 v0 l) (h2 : Bs w0 v1 key) (hK : KT w0) (hP : PT w0) (hk : kind < 256) (hn : now < 18446744073709551616)
    (p2 : ∀ w, Rg w v0 l → Bs w v1 key → KT w → PT w → Calls Tryd.prog 29 #[v0, v1, .int .i64 tenant, .agg (tokL t).toArray, .int .u8 (kind : Int), .int .u64 (now : Int)] w fun e w' => e = .returned (.int .i64 E) ∧ Has w w' [])
    (hE : (E == 0) = false) (hno : ¬ (chkR l = 0 ∧ ArgsOk key tenant kind now)) :
    Calls Tryd.prog 8 #[v0, v1, .int .i64 tenant, .agg (tokL t).toArray, .int .u8 (kind : Int), .int .u64 (now : Int)] w0 fun e w' => e = .returned (.bool true) ∧ Has w0 w' [] := by
  have S := Has.start w0
  have p1 := fun w hK hP => alive_s w hK hP
  have p3 := fun v w h => valid_s v l w h
  have hno2 : (chkR l == 0) = true → tenant < 0 ∨ 3 ≤ tenant ∨ kind < 1 ∨ 6 < kind ∨ 4611686018427387904 < now ∨ key.length < 1 ∨ 64 < key.length := by
    intro h
    have hc : chkR l = 0 := by simpa using h
    by_cases g : tenant < 0 ∨ 3 ≤ tenant ∨ kind < 1 ∨ 6 < kind ∨ 4611686018427387904 < now ∨ key.length < 1 ∨ 64 < key.length
    · exact g
    · exact absurd ⟨hc, by omega, by omega, by omega, by omega, by omega, decide_eq_true (by omega)⟩ hno
  clear hno
  obtain ⟨a0, c0, rfl, k1, k2⟩ := Sl.shape h1
  obtain ⟨a1, c1, rfl, k3, k4⟩ := Sl.shape h2
  unfold maxLen at k2 k4
  generalize (chkR l == 0) = CB at p3 hno2
  cases CB with
  | false =>
    clear hno2
    have H1 := Lib.hid h1; have H2 := Lib.hid h2; have HK := Lib.hid hK; have HP := Lib.hid hP; have P1 := Lib.hid p1; have P2 := Lib.hid p2; have P3 := Lib.hid p3; clear h1 h2 hK hP p1 p2 p3
    go_enter Tryd.func8, Tryd.ntmps8
    go_wp2_with (first | ((with_reducible show wpList _ _ _ (⟨some 9, .box 27 (.tmp 3), _, _, _, _⟩ :: _) _ _); refine step_boxA (dst := some 9) S 27 (.tmp 3) _ rfl gw ?_; clear S; intro g9 w S) | (go_at_call 31; (with_reducible refine (P1.out _ (S.kt (Hid.out (by assumption))) (S.pt HP.out)).mono ?_); rintro e w1 ⟨rfl, T⟩; replace S := S.call T; clear T; (try simp only [List.nil_append, List.cons_append] at S)) | ((with_reducible show wpList _ _ _ (⟨_, .load 27 _, _, _, _, _⟩ :: _) _ _); first | (refine step_load S 27 _ _ rfl _ _ _ pk _ Tryd.underlying27 rfl 36 (by kernel_rfl) (by first | rfl | (first | rfl | assumption | (exact Hid.out (by assumption)) | (exact tokL_size _) | (rw [arr8_size]; first | rfl | assumption | (exact Hid.out (by assumption)) | exact tokL_size _ | exact List.length_replicate ..) | (simp [arr8_size]; done))) gw ?_) | (refine step_loadO 27 _ _ rfl _ _ _ (S.old_heap (Hid.out (by assumption))) _ Tryd.underlying27 rfl 36 (by kernel_rfl) (by first | rfl | (first | rfl | assumption | (exact Hid.out (by assumption)) | (exact tokL_size _) | (rw [arr8_size]; first | rfl | assumption | (exact Hid.out (by assumption)) | exact tokL_size _ | exact List.length_replicate ..) | (simp [arr8_size]; done))) gw ?_) | (refine step_loadR 27 _ _ _ rfl _ (S.old_range hy) _ Tryd.underlying27 rfl 36 (by kernel_rfl) (by first | rfl | (first | rfl | assumption | (exact Hid.out (by assumption)) | (exact tokL_size _) | (rw [arr8_size]; first | rfl | assumption | (exact Hid.out (by assumption)) | exact tokL_size _ | exact List.length_replicate ..) | (simp [arr8_size]; done))) _ rfl gw ?_)) | (go_at_call 29; (with_reducible refine (P2.out _ (S.old H1.out) (S.oldB H2.out) (S.kt (Hid.out (by assumption))) (S.pt HP.out)).mono ?_); rintro e w1 ⟨rfl, T⟩; replace S := S.call T; clear T; (try simp only [List.nil_append, List.cons_append] at S)) | (go_at_call 33; (with_reducible refine (P3.out _ _ (by first | assumption | exact S.old (Hid.out (by assumption)) | exact S.sl pk | exact S.sl_rd pk)).mono ?_); rintro e w1 ⟨rfl, T⟩; replace S := S.call T; clear T; (try simp only [List.nil_append, List.cons_append] at S)) | ((with_reducible show wpList _ _ _ (⟨_, .load 5 _, _, _, _, _⟩ :: _) _ _); first | (refine step_load1 5 _ _ _ rfl (S.cell pk co) _ Tryd.underlying5 rfl gw ?_) | (refine step_load1 5 _ _ _ rfl (S.row_cell pk _ _ hyr) _ Tryd.underlying5 rfl gw ?_) | (refine step_load1 5 _ _ _ rfl (S.row_cellS pk _ _ hy) _ Tryd.underlying5 rfl gw ?_) | (refine step_load1 5 _ _ _ rfl (S.old_cell hy) _ Tryd.underlying5 rfl gw ?_)) | ((with_reducible show wpList _ _ _ (⟨_, .load 23 _, _, _, _, _⟩ :: _) _ _); first | (refine step_load1 23 _ _ _ rfl (S.cell pk co) _ Tryd.underlying23 rfl gw ?_) | (refine step_load1 23 _ _ _ rfl (S.row_cell pk _ _ hyr) _ Tryd.underlying23 rfl gw ?_) | (refine step_load1 23 _ _ _ rfl (S.row_cellS pk _ _ hy) _ Tryd.underlying23 rfl gw ?_) | (refine step_load1 23 _ _ _ rfl (S.old_cell hy) _ Tryd.underlying23 rfl gw ?_)) | ((with_reducible show wpList _ _ _ (⟨some 17, .alloc 27, _, _, _, _⟩ :: _) _ _); refine step_alloc (dst := some 17) S 27 (.agg ((tokL tokZ).toArray)) ((tokL tokZ).toArray) (by kernel_rfl) rfl gw ?_; clear S; intro g17 w S) | ((with_reducible show wpList _ _ _ (⟨none, .store 27 (.tmp 17) (.tmp 91), _, _, _, _⟩ :: _) _ _); refine step_store S 27 (.tmp 17) (.tmp 91) _ _ rfl rfl _ _ pk 36 (by kernel_rfl) (by first | rfl | (first | rfl | assumption | (exact Hid.out (by assumption)) | (exact tokL_size _) | (rw [arr8_size]; first | rfl | assumption | (exact Hid.out (by assumption)) | exact tokL_size _ | exact List.length_replicate ..) | (simp [arr8_size]; done))) (by first | rfl | (first | rfl | assumption | (exact Hid.out (by assumption)) | (exact tokL_size _) | (rw [arr8_size]; first | rfl | assumption | (exact Hid.out (by assumption)) | exact tokL_size _ | exact List.length_replicate ..) | (simp [arr8_size]; done))) on1 gw ?_; clear S; intro w S) | ((with_reducible show wpList _ _ _ (⟨_, .load 4 _, _, _, _, _⟩ :: _) _ _); first | (refine step_load1 4 _ _ _ rfl (S.cell pk co) _ Tryd.underlying4 rfl gw ?_) | (refine step_load1 4 _ _ _ rfl (S.row_cell pk _ _ hyr) _ Tryd.underlying4 rfl gw ?_) | (refine step_load1 4 _ _ _ rfl (S.row_cellS pk _ _ hy) _ Tryd.underlying4 rfl gw ?_) | (refine step_load1 4 _ _ _ rfl (S.old_cell hy) _ Tryd.underlying4 rfl gw ?_)) | fail)
    all_goals (go_ret; exact ⟨rfl, S.nil⟩)
  | true =>
    have HX := Lib.hid (hno2 rfl)
    clear hno2
    have H1 := Lib.hid h1; have H2 := Lib.hid h2; have HK := Lib.hid hK; have HP := Lib.hid hP; have P1 := Lib.hid p1; have P2 := Lib.hid p2; have P3 := Lib.hid p3; clear h1 h2 hK hP p1 p2 p3
    go_enter Tryd.func8, Tryd.ntmps8
    go_wp2_with (first | ((with_reducible show wpList _ _ _ (⟨some 9, .box 27 (.tmp 3), _, _, _, _⟩ :: _) _ _); refine step_boxA (dst := some 9) S 27 (.tmp 3) _ rfl gw ?_; clear S; intro g9 w S) | (go_at_call 31; (with_reducible refine (P1.out _ (S.kt (Hid.out (by assumption))) (S.pt HP.out)).mono ?_); rintro e w1 ⟨rfl, T⟩; replace S := S.call T; clear T; (try simp only [List.nil_append, List.cons_append] at S)) | ((with_reducible show wpList _ _ _ (⟨_, .load 27 _, _, _, _, _⟩ :: _) _ _); first | (refine step_load S 27 _ _ rfl _ _ _ pk _ Tryd.underlying27 rfl 36 (by kernel_rfl) (by first | rfl | (first | rfl | assumption | (exact Hid.out (by assumption)) | (exact tokL_size _) | (rw [arr8_size]; first | rfl | assumption | (exact Hid.out (by assumption)) | exact tokL_size _ | exact List.length_replicate ..) | (simp [arr8_size]; done))) gw ?_) | (refine step_loadO 27 _ _ rfl _ _ _ (S.old_heap (Hid.out (by assumption))) _ Tryd.underlying27 rfl 36 (by kernel_rfl) (by first | rfl | (first | rfl | assumption | (exact Hid.out (by assumption)) | (exact tokL_size _) | (rw [arr8_size]; first | rfl | assumption | (exact Hid.out (by assumption)) | exact tokL_size _ | exact List.length_replicate ..) | (simp [arr8_size]; done))) gw ?_) | (refine step_loadR 27 _ _ _ rfl _ (S.old_range hy) _ Tryd.underlying27 rfl 36 (by kernel_rfl) (by first | rfl | (first | rfl | assumption | (exact Hid.out (by assumption)) | (exact tokL_size _) | (rw [arr8_size]; first | rfl | assumption | (exact Hid.out (by assumption)) | exact tokL_size _ | exact List.length_replicate ..) | (simp [arr8_size]; done))) _ rfl gw ?_)) | (go_at_call 29; (with_reducible refine (P2.out _ (S.old H1.out) (S.oldB H2.out) (S.kt (Hid.out (by assumption))) (S.pt HP.out)).mono ?_); rintro e w1 ⟨rfl, T⟩; replace S := S.call T; clear T; (try simp only [List.nil_append, List.cons_append] at S)) | (go_at_call 33; (with_reducible refine (P3.out _ _ (by first | assumption | exact S.old (Hid.out (by assumption)) | exact S.sl pk | exact S.sl_rd pk)).mono ?_); rintro e w1 ⟨rfl, T⟩; replace S := S.call T; clear T; (try simp only [List.nil_append, List.cons_append] at S)) | ((with_reducible show wpList _ _ _ (⟨_, .load 5 _, _, _, _, _⟩ :: _) _ _); first | (refine step_load1 5 _ _ _ rfl (S.cell pk co) _ Tryd.underlying5 rfl gw ?_) | (refine step_load1 5 _ _ _ rfl (S.row_cell pk _ _ hyr) _ Tryd.underlying5 rfl gw ?_) | (refine step_load1 5 _ _ _ rfl (S.row_cellS pk _ _ hy) _ Tryd.underlying5 rfl gw ?_) | (refine step_load1 5 _ _ _ rfl (S.old_cell hy) _ Tryd.underlying5 rfl gw ?_)) | ((with_reducible show wpList _ _ _ (⟨_, .load 23 _, _, _, _, _⟩ :: _) _ _); first | (refine step_load1 23 _ _ _ rfl (S.cell pk co) _ Tryd.underlying23 rfl gw ?_) | (refine step_load1 23 _ _ _ rfl (S.row_cell pk _ _ hyr) _ Tryd.underlying23 rfl gw ?_) | (refine step_load1 23 _ _ _ rfl (S.row_cellS pk _ _ hy) _ Tryd.underlying23 rfl gw ?_) | (refine step_load1 23 _ _ _ rfl (S.old_cell hy) _ Tryd.underlying23 rfl gw ?_)) | ((with_reducible show wpList _ _ _ (⟨some 17, .alloc 27, _, _, _, _⟩ :: _) _ _); refine step_alloc (dst := some 17) S 27 (.agg ((tokL tokZ).toArray)) ((tokL tokZ).toArray) (by kernel_rfl) rfl gw ?_; clear S; intro g17 w S) | ((with_reducible show wpList _ _ _ (⟨none, .store 27 (.tmp 17) (.tmp 91), _, _, _, _⟩ :: _) _ _); refine step_store S 27 (.tmp 17) (.tmp 91) _ _ rfl rfl _ _ pk 36 (by kernel_rfl) (by first | rfl | (first | rfl | assumption | (exact Hid.out (by assumption)) | (exact tokL_size _) | (rw [arr8_size]; first | rfl | assumption | (exact Hid.out (by assumption)) | exact tokL_size _ | exact List.length_replicate ..) | (simp [arr8_size]; done))) (by first | rfl | (first | rfl | assumption | (exact Hid.out (by assumption)) | (exact tokL_size _) | (rw [arr8_size]; first | rfl | assumption | (exact Hid.out (by assumption)) | exact tokL_size _ | exact List.length_replicate ..) | (simp [arr8_size]; done))) on1 gw ?_; clear S; intro w S) | ((with_reducible show wpList _ _ _ (⟨_, .load 4 _, _, _, _, _⟩ :: _) _ _); first | (refine step_load1 4 _ _ _ rfl (S.cell pk co) _ Tryd.underlying4 rfl gw ?_) | (refine step_load1 4 _ _ _ rfl (S.row_cell pk _ _ hyr) _ Tryd.underlying4 rfl gw ?_) | (refine step_load1 4 _ _ _ rfl (S.row_cellS pk _ _ hy) _ Tryd.underlying4 rfl gw ?_) | (refine step_load1 4 _ _ _ rfl (S.old_cell hy) _ Tryd.underlying4 rfl gw ?_)) | fail)
    all_goals first
      | (go_ret; exact ⟨rfl, S.nil⟩)
      | (exfalso; have := HX.out; omega)

set_option maxRecDepth 100000 in
set_option maxHeartbeats 16000000 in
theorem exact_yes (v0 v1 : Value) (l : List Mnt) (key : List UInt8) (tenant : Int) (t : Tok) (kind now : Nat) (EB : Bool) (E : Int) (w0 : World) (h1 : Rg w0 v0 l) (h2 : Bs w0 v1 key) (hK : KT w0) (hP : PT w0) (hk : kind < 256) (hn : now < 18446744073709551616)
    (p2 : ∀ w, Rg w v0 l → Bs w v1 key → KT w → PT w → Calls Tryd.prog 29 #[v0, v1, .int .i64 tenant, .agg (tokL t).toArray, .int .u8 (kind : Int), .int .u64 (now : Int)] w fun e w' => e = .returned (.int .i64 E) ∧ Has w w' [])
    (hE : (E == 0) = EB) (hEB : EB = exactK l key tenant t kind now l.length) (hc : chkR l = 0) (ha : ArgsOk key tenant kind now) :
    Calls Tryd.prog 8 #[v0, v1, .int .i64 tenant, .agg (tokL t).toArray, .int .u8 (kind : Int), .int .u64 (now : Int)] w0 fun e w' => e = .returned (.bool true) ∧ Has w0 w' [] := by
  have S := Has.start w0
  have hlen := chkR_len l hc
  have p1 := fun w hK hP => alive_s w hK hP
  have p3 := fun v w h => valid_s v l w h
  rw [hc, show ((0 : Int) == 0) = true from rfl] at p3
  have p4 := fun t w h => sign_s v1 key t w h
  simp only [show snE key = 0 from if_pos ha.2.2.2.2.2, show ∀ t, snT key t = sgT key t from fun t => if_pos ha.2.2.2.2.2] at p4
  have p5 := fun r w hP hr => permits_s r kind w hP hr hk
  have eg := eqGuardT
  obtain ⟨i1, i2, i3, i4, i5, i6⟩ := ha
  have i7 := of_decide_eq_true i6
  have j1 : ¬ tenant < 0 := by omega
  have j2 : ¬ 3 ≤ tenant := by omega
  have j3 : ¬ (kind : Int) < 1 := by omega
  have j4 : ¬ (6 : Int) < (kind : Int) := by omega
  have j5 : ¬ (4611686018427387904 : Int) < (now : Int) := by omega
  have j6 : ¬ (key.length : Int) < 1 := by omega
  have j7 : ¬ (64 : Int) < (key.length : Int) := by omega
  have f0 : ((UInt8.ofNat tenant.toNat).toNat : Int) = tenant := by rw [UInt8.toNat_ofNat']; omega
  have hw8 : IntKind.u8.wrap tenant = tenant := by rw [IntKind.wrap_u8]; omega
  obtain ⟨a0, c0, rfl, k1, k2⟩ := Sl.shape h1
  obtain ⟨a1, c1, rfl, k3, k4⟩ := Sl.shape h2
  unfold maxLen at k2 k4
  clear i3 i4 i5 i6 i7 hc
  have H1 := Lib.hid h1; have H2 := Lib.hid h2; have HK := Lib.hid hK; have HP := Lib.hid hP; have P1 := Lib.hid p1; have P2 := Lib.hid p2; have P3 := Lib.hid p3; have P4 := Lib.hid p4; have P5 := Lib.hid p5; have HEB := Lib.hid hEB; have F0 := Lib.hid f0; clear h1 h2 hK hP p1 p2 p3 p4 p5 hEB f0
  go_enter Tryd.func8, Tryd.ntmps8
  go_wp2_with (first | ((with_reducible show wpList _ _ _ (⟨some 9, .box 27 (.tmp 3), _, _, _, _⟩ :: _) _ _); refine step_boxA (dst := some 9) S 27 (.tmp 3) _ rfl gw ?_; clear S; intro g9 w S) | (go_at_call 31; (with_reducible refine (P1.out _ (S.kt (Hid.out (by assumption))) (S.pt HP.out)).mono ?_); rintro e w1 ⟨rfl, T⟩; replace S := S.call T; clear T; (try simp only [List.nil_append, List.cons_append] at S)) | ((with_reducible show wpList _ _ _ (⟨_, .load 27 _, _, _, _, _⟩ :: _) _ _); first | (refine step_load S 27 _ _ rfl _ _ _ pk _ Tryd.underlying27 rfl 36 (by kernel_rfl) (by first | rfl | (first | rfl | assumption | (exact Hid.out (by assumption)) | (exact tokL_size _) | (rw [arr8_size]; first | rfl | assumption | (exact Hid.out (by assumption)) | exact tokL_size _ | exact List.length_replicate ..) | (simp [arr8_size]; done))) gw ?_) | (refine step_loadO 27 _ _ rfl _ _ _ (S.old_heap (Hid.out (by assumption))) _ Tryd.underlying27 rfl 36 (by kernel_rfl) (by first | rfl | (first | rfl | assumption | (exact Hid.out (by assumption)) | (exact tokL_size _) | (rw [arr8_size]; first | rfl | assumption | (exact Hid.out (by assumption)) | exact tokL_size _ | exact List.length_replicate ..) | (simp [arr8_size]; done))) gw ?_) | (refine step_loadR 27 _ _ _ rfl _ (S.old_range hy) _ Tryd.underlying27 rfl 36 (by kernel_rfl) (by first | rfl | (first | rfl | assumption | (exact Hid.out (by assumption)) | (exact tokL_size _) | (rw [arr8_size]; first | rfl | assumption | (exact Hid.out (by assumption)) | exact tokL_size _ | exact List.length_replicate ..) | (simp [arr8_size]; done))) _ rfl gw ?_)) | (go_at_call 29; (with_reducible refine (P2.out _ (S.old H1.out) (S.oldB H2.out) (S.kt (Hid.out (by assumption))) (S.pt HP.out)).mono ?_); rintro e w1 ⟨rfl, T⟩; replace S := S.call T; clear T; (try simp only [List.nil_append, List.cons_append] at S)) | (go_at_call 33; (with_reducible refine (P3.out _ _ (by first | assumption | exact S.old (Hid.out (by assumption)) | exact S.sl pk | exact S.sl_rd pk)).mono ?_); rintro e w1 ⟨rfl, T⟩; replace S := S.call T; clear T; (try simp only [List.nil_append, List.cons_append] at S)) | ((with_reducible show wpList _ _ _ (⟨_, .load 5 _, _, _, _, _⟩ :: _) _ _); first | (refine step_load1 5 _ _ _ rfl (S.cell pk co) _ Tryd.underlying5 rfl gw ?_) | (refine step_load1 5 _ _ _ rfl (S.row_cell pk _ _ hyr) _ Tryd.underlying5 rfl gw ?_) | (refine step_load1 5 _ _ _ rfl (S.row_cellS pk _ _ hy) _ Tryd.underlying5 rfl gw ?_) | (refine step_load1 5 _ _ _ rfl (S.old_cell hy) _ Tryd.underlying5 rfl gw ?_)) | ((with_reducible show wpList _ _ _ (⟨_, .load 23 _, _, _, _, _⟩ :: _) _ _); first | (refine step_load1 23 _ _ _ rfl (S.cell pk co) _ Tryd.underlying23 rfl gw ?_) | (refine step_load1 23 _ _ _ rfl (S.row_cell pk _ _ hyr) _ Tryd.underlying23 rfl gw ?_) | (refine step_load1 23 _ _ _ rfl (S.row_cellS pk _ _ hy) _ Tryd.underlying23 rfl gw ?_) | (refine step_load1 23 _ _ _ rfl (S.old_cell hy) _ Tryd.underlying23 rfl gw ?_)) | ((with_reducible show wpList _ _ _ (⟨some 17, .alloc 27, _, _, _, _⟩ :: _) _ _); refine step_alloc (dst := some 17) S 27 (.agg ((tokL tokZ).toArray)) ((tokL tokZ).toArray) (by kernel_rfl) rfl gw ?_; clear S; intro g17 w S) | ((with_reducible show wpList _ _ _ (⟨none, .store 27 (.tmp 17) (.tmp 91), _, _, _, _⟩ :: _) _ _); refine step_store S 27 (.tmp 17) (.tmp 91) _ _ rfl rfl _ _ pk 36 (by kernel_rfl) (by first | rfl | (first | rfl | assumption | (exact Hid.out (by assumption)) | (exact tokL_size _) | (rw [arr8_size]; first | rfl | assumption | (exact Hid.out (by assumption)) | exact tokL_size _ | exact List.length_replicate ..) | (simp [arr8_size]; done))) (by first | rfl | (first | rfl | assumption | (exact Hid.out (by assumption)) | (exact tokL_size _) | (rw [arr8_size]; first | rfl | assumption | (exact Hid.out (by assumption)) | exact tokL_size _ | exact List.length_replicate ..) | (simp [arr8_size]; done))) on1 gw ?_; clear S; intro w S) | ((with_reducible show wpList _ _ _ (⟨_, .load 4 _, _, _, _, _⟩ :: _) _ _); first | (refine step_load1 4 _ _ _ rfl (S.cell pk co) _ Tryd.underlying4 rfl gw ?_) | (refine step_load1 4 _ _ _ rfl (S.row_cell pk _ _ hyr) _ Tryd.underlying4 rfl gw ?_) | (refine step_load1 4 _ _ _ rfl (S.row_cellS pk _ _ hy) _ Tryd.underlying4 rfl gw ?_) | (refine step_load1 4 _ _ _ rfl (S.old_cell hy) _ Tryd.underlying4 rfl gw ?_)) | fail)
  go_loopw [15, 16] (fun u v wr => ∃ (k : Nat), k ≤ l.length ∧ u = .bool (exactK l key tenant t kind now k) ∧ v = .int .i64 (k : Int) ∧ Has w0 wr [blk g9 (.cells (tokL t).toArray 27 (0, 0))]) (fun _ v _ => l.length - (intOf v).toNat)
  case atStart => exact ⟨0, Nat.zero_le _, rfl, rfl, S⟩
  case round =>
    obtain ⟨k, hk, rfl, rfl, S⟩ := hrel
    by_cases hlt : k < l.length
    · obtain ⟨B, hB⟩ : ∃ B, B = exactK l key tenant t kind now k := ⟨_, rfl⟩
      rw [← hB]
      have hki : (k : Int) < (l.length : Int) := by omega
      have hk0 : (0 : Int) ≤ (k : Int) := by omega
      obtain ⟨x, hx⟩ : ∃ x, l[k]? = some x := ⟨_, List.getElem?_eq_getElem hlt⟩
      obtain ⟨b, off, hab, hr, g1, g2, g3⟩ := Rg.cells H1.out k x hx
      subst hab
      obtain ⟨T0, hT0⟩ : ∃ T0 : Tok, T0 = ⟨UInt8.ofNat tenant.toNat, x.role, x.expiry, UInt32.ofNat (k + 1), zs32, rfl⟩ := ⟨_, rfl⟩
      obtain ⟨T2, hT2⟩ : ∃ T2, T2 = entT key tenant k x := ⟨_, rfl⟩
      have f3 : ((UInt32.ofNat (k + 1)).toNat : Int) = (k : Int) + 1 := by rw [UInt32.toNat_ofNat']; omega
      have p6 := fun w h hk => P4.out T0 w h hk
      rw [show sgT key T0 = T2 by rw [hT2, hT0]; rfl] at p6
      have hnext : exactK l key tenant t kind now (k + 1) = (B || exactB key tenant t kind now k x) := by
        show (exactK l key tenant t kind now k || (match l[k]? with | some x => exactB key tenant t kind now k x | none => false)) = _
        rw [hx, ← hB]
      obtain ⟨R1, hR1⟩ : ∃ R1, R1 = exactK l key tenant t kind now (k + 1) := ⟨_, rfl⟩
      rw [← hR1] at hnext
      unfold exactB at hnext
      rw [← hT2] at hnext
      have he := fun w => eqlT T2 t w
      have p7 := fun w hP => P5.out x.role.toNat w hP (by have := x.role.toNat_lt; omega)
      generalize decide (T2 = t) = D at he hnext
      generalize prmB x.role.toNat kind = PB at p7 hnext
      obtain ⟨xr, hxr⟩ : ∃ xr, x.revoked = xr := ⟨_, rfl⟩
      rw [hxr] at g3 hnext
      obtain ⟨XE, hXE⟩ : ∃ XE : Nat, XE = x.expiry.toNat := ⟨_, rfl⟩
      rw [← hXE] at hnext
      have hXE2 : (x.expiry.toNat : Int) = (XE : Int) := by omega
      clear hB hT2 hx hxr hXE
      have HR := Lib.hid hr; have G1 := Lib.hid g1; have G2 := Lib.hid g2; have G3 := Lib.hid g3; have HT0 := Lib.hid hT0; have P6 := Lib.hid p6; have P7 := Lib.hid p7; have F3 := Lib.hid f3; have HNEXT := Lib.hid hnext; have HR1 := Lib.hid hR1; clear hr g1 g2 g3 hT0 p6 p7 f3 hnext hR1
      go_wp2_with (first | ((with_reducible show wpList _ _ _ (⟨some 9, .box 27 (.tmp 3), _, _, _, _⟩ :: _) _ _); refine step_boxA (dst := some 9) S 27 (.tmp 3) _ rfl gw ?_; clear S; intro g9 w S) | ((with_reducible show wpList _ _ _ (⟨_, .load 27 _, _, _, _, _⟩ :: _) _ _); first | (refine step_load S 27 _ _ rfl _ _ _ pk _ Tryd.underlying27 rfl 36 (by kernel_rfl) (by first | rfl | (first | rfl | assumption | (exact Hid.out (by assumption)) | (exact tokL_size _) | (rw [arr8_size]; first | rfl | assumption | (exact Hid.out (by assumption)) | exact tokL_size _ | exact List.length_replicate ..) | (simp [arr8_size]; done))) gw ?_) | (refine step_loadO 27 _ _ rfl _ _ _ (S.old_heap (Hid.out (by assumption))) _ Tryd.underlying27 rfl 36 (by kernel_rfl) (by first | rfl | (first | rfl | assumption | (exact Hid.out (by assumption)) | (exact tokL_size _) | (rw [arr8_size]; first | rfl | assumption | (exact Hid.out (by assumption)) | exact tokL_size _ | exact List.length_replicate ..) | (simp [arr8_size]; done))) gw ?_) | (refine step_loadR 27 _ _ _ rfl _ (S.old_range hy) _ Tryd.underlying27 rfl 36 (by kernel_rfl) (by first | rfl | (first | rfl | assumption | (exact Hid.out (by assumption)) | (exact tokL_size _) | (rw [arr8_size]; first | rfl | assumption | (exact Hid.out (by assumption)) | exact tokL_size _ | exact List.length_replicate ..) | (simp [arr8_size]; done))) _ rfl gw ?_)) | ((with_reducible show wpList _ _ _ (⟨_, .load 5 _, _, _, _, _⟩ :: _) _ _); first | (refine step_load1 5 _ _ _ rfl (S.cell pk co) _ Tryd.underlying5 rfl gw ?_) | (refine step_load1 5 _ _ _ rfl (S.row_cell pk _ _ hyr) _ Tryd.underlying5 rfl gw ?_) | (refine step_load1 5 _ _ _ rfl (S.row_cellS pk _ _ hy) _ Tryd.underlying5 rfl gw ?_) | (refine step_load1 5 _ _ _ rfl (S.old_cell hy) _ Tryd.underlying5 rfl gw ?_)) | ((with_reducible show wpList _ _ _ (⟨_, .load 23 _, _, _, _, _⟩ :: _) _ _); first | (refine step_load1 23 _ _ _ rfl (S.cell pk co) _ Tryd.underlying23 rfl gw ?_) | (refine step_load1 23 _ _ _ rfl (S.row_cell pk _ _ hyr) _ Tryd.underlying23 rfl gw ?_) | (refine step_load1 23 _ _ _ rfl (S.row_cellS pk _ _ hy) _ Tryd.underlying23 rfl gw ?_) | (refine step_load1 23 _ _ _ rfl (S.old_cell hy) _ Tryd.underlying23 rfl gw ?_)) | ((with_reducible show wpList _ _ _ (⟨some 17, .alloc 27, _, _, _, _⟩ :: _) _ _); refine step_alloc (dst := some 17) S 27 (.agg ((tokL tokZ).toArray)) ((tokL tokZ).toArray) (by kernel_rfl) rfl gw ?_; clear S; intro g17 w S) | ((with_reducible show wpList _ _ _ (⟨none, .store 27 (.tmp 17) (.tmp 91), _, _, _, _⟩ :: _) _ _); refine step_store S 27 (.tmp 17) (.tmp 91) _ _ rfl rfl _ _ pk 36 (by kernel_rfl) (by first | rfl | (first | rfl | assumption | (exact Hid.out (by assumption)) | (exact tokL_size _) | (rw [arr8_size]; first | rfl | assumption | (exact Hid.out (by assumption)) | exact tokL_size _ | exact List.length_replicate ..) | (simp [arr8_size]; done))) (by first | rfl | (first | rfl | assumption | (exact Hid.out (by assumption)) | (exact tokL_size _) | (rw [arr8_size]; first | rfl | assumption | (exact Hid.out (by assumption)) | exact tokL_size _ | exact List.length_replicate ..) | (simp [arr8_size]; done))) on1 gw ?_; clear S; intro w S) | ((with_reducible show wpList _ _ _ (⟨_, .load 4 _, _, _, _, _⟩ :: _) _ _); first | (refine step_load1 4 _ _ _ rfl (S.cell pk co) _ Tryd.underlying4 rfl gw ?_) | (refine step_load1 4 _ _ _ rfl (S.row_cell pk _ _ hyr) _ Tryd.underlying4 rfl gw ?_) | (refine step_load1 4 _ _ _ rfl (S.row_cellS pk _ _ hy) _ Tryd.underlying4 rfl gw ?_) | (refine step_load1 4 _ _ _ rfl (S.old_cell hy) _ Tryd.underlying4 rfl gw ?_)) | fail)
      refine wp_rely S [⟨[], [], [], fun _ v => v = (.slice a1 key.length c1), fun _ v => []⟩, ⟨[], [], [], fun _ v => v = (.int .i64 tenant), fun _ v => []⟩, ⟨[1], [], [], fun _ v => v = .int .u8 tenant, fun _ v => []⟩, ⟨[], [], [], fun _ v => v = (.slice (some ⟨b, off, none⟩) l.length c0), fun _ v => []⟩, ⟨[], [], [], fun _ v => v = (.int .i64 (k : Int)), fun _ v => []⟩, ⟨[3, 4], [], [], fun _ v => v = .pointer (some ⟨b, off + k * 3, none⟩), fun _ v => []⟩, ⟨[3, 4, 5], [], [], fun _ v => v = .pointer (some ⟨b, off + k * 3, none⟩), fun _ v => []⟩, ⟨[3, 4, 5, 6], [], [], fun _ v => v = .int .u8 (x.role.toNat : Int), fun _ v => []⟩, ⟨[], [], [], fun _ v => v = (.slice (some ⟨b, off, none⟩) l.length c0), fun _ v => []⟩, ⟨[], [], [], fun _ v => v = (.int .i64 (k : Int)), fun _ v => []⟩, ⟨[8, 9], [], [], fun _ v => v = .pointer (some ⟨b, off + k * 3, none⟩), fun _ v => []⟩, ⟨[8, 9, 10], [], [], fun _ v => v = .pointer (some ⟨b, off + k * 3 + 1, none⟩), fun _ v => []⟩, ⟨[8, 9, 10, 11], [], [], fun _ v => v = .int .u64 (x.expiry.toNat : Int), fun _ v => []⟩, ⟨[], [], [], fun _ v => v = (.int .i64 (k : Int)), fun _ v => []⟩, ⟨[13], [], [], fun _ v => v = .int .i64 ((k : Int) + 1), fun _ v => []⟩, ⟨[13, 14], [], [], fun _ v => v = .int .u32 ((k : Int) + 1), fun _ v => []⟩, ⟨[1, 2, 3, 4, 5, 6, 7, 8, 9, 10, 11, 12, 13, 14, 15], [], [], fun _ v => v = .agg (tokL T0).toArray, fun _ v => []⟩, ⟨[0, 1, 2, 3, 4, 5, 6, 7, 8, 9, 10, 11, 12, 13, 14, 15, 16], [], [], fun _ v => v = .tuple #[.agg (tokL T2).toArray, .int .i64 0], fun _ v => []⟩, ⟨[0, 1, 2, 3, 4, 5, 6, 7, 8, 9, 10, 11, 12, 13, 14, 15, 16, 17], [], [], fun _ v => v = (.tuple #[.agg (tokL T2).toArray, .int .i64 0]), fun _ v => []⟩, ⟨[0, 1, 2, 3, 4, 5, 6, 7, 8, 9, 10, 11, 12, 13, 14, 15, 16, 17, 18], [], [], fun _ v => v = .agg (tokL T2).toArray, fun _ v => []⟩, ⟨[0, 1, 2, 3, 4, 5, 6, 7, 8, 9, 10, 11, 12, 13, 14, 15, 16, 17, 18], [], [], fun _ v => v = .int .i64 0, fun _ v => []⟩, ⟨[], [], [], fun _ v => ∃ g, v = .pointer (some ⟨g, 0, none⟩), fun _ v => [blk (ptrBlk v) (.cells ((tokL tokZ).toArray) 27 (0, 0))]⟩, ⟨[0, 1, 2, 3, 4, 5, 6, 7, 8, 9, 10, 11, 12, 13, 14, 15, 16, 17, 18, 19, 21], [21], [], fun _ v => True, fun d v => [blk (ptrBlk (d 21)) (.cells ((tokL T2).toArray) 27 (0, 0))]⟩, ⟨[0, 1, 2, 3, 4, 5, 6, 7, 8, 9, 10, 11, 12, 13, 14, 15, 16, 17, 18, 19, 20, 21, 22], [], [], fun _ v => v = (.int .i64 0), fun _ v => []⟩] ?A1 ?hA1 (by kernel_rfl) (by kernel_rfl) (by kernel_rfl) [0, 1, 2, 3, 4, 5, 6, 7, 8, 9, 10, 11, 12, 13, 14, 15, 16, 17, 18, 19, 20, 22, 23] (by kernel_rfl) ?hok1 ?fin1
      case hA1 => intro u; simp only [putAll, List.length_cons, List.length_nil, Nat.zero_add, Nat.reduceAdd, dstAt, List.getElem?_toArray, List.getElem?_cons_zero, List.getElem?_cons_succ, Option.bind_some, Act.put, List.setIfInBounds_toArray, List.set_cons_zero, List.set_cons_succ]; rfl
      case hok1 =>
        intro i hi
        obtain rfl | rfl | rfl | rfl | rfl | rfl | rfl | rfl | rfl | rfl | rfl | rfl | rfl | rfl | rfl | rfl | rfl | rfl | rfl | rfl | rfl | rfl | rfl | rfl : i = 0 ∨ i = 1 ∨ i = 2 ∨ i = 3 ∨ i = 4 ∨ i = 5 ∨ i = 6 ∨ i = 7 ∨ i = 8 ∨ i = 9 ∨ i = 10 ∨ i = 11 ∨ i = 12 ∨ i = 13 ∨ i = 14 ∨ i = 15 ∨ i = 16 ∨ i = 17 ∨ i = 18 ∨ i = 19 ∨ i = 20 ∨ i = 21 ∨ i = 22 ∨ i = 23 := by simp only [List.length_cons, List.length_nil, Nat.zero_add, Nat.reduceAdd] at hi; omega
        · clear hi
          refine step_of rfl rfl rfl ?_
          intro u G w hf S
          simp only [resOf, spec, RSpec.resAt, z0, z1, z2, z3, z4, z5, z6, z7, ptrBlk] at S ⊢
          simp only [does]
          go_simp
          try first | exact S | exact ⟨vv, S⟩ | exact vv
        · clear hi
          refine step_of rfl rfl rfl ?_
          intro u G w hf S
          simp only [resOf, spec, RSpec.resAt, z0, z1, z2, z3, z4, z5, z6, z7, ptrBlk] at S ⊢
          simp only [does]
          go_simp
          try first | exact S | exact ⟨vv, S⟩ | exact vv
        · clear hi
          refine step_of rfl rfl rfl ?_
          intro u G w hf S
          have f1 : u 1 = (.int .i64 tenant) := hf 1 (by simp)
          simp only [resOf, spec, RSpec.resAt, z0, z1, z2, z3, z4, z5, z6, z7, ptrBlk] at S ⊢
          simp only [f1]
          simp only [does]
          go_simp
          try first | exact S | exact ⟨vv, S⟩ | exact vv
        · clear hi
          refine step_of rfl rfl rfl ?_
          intro u G w hf S
          simp only [resOf, spec, RSpec.resAt, z0, z1, z2, z3, z4, z5, z6, z7, ptrBlk] at S ⊢
          simp only [does]
          go_simp
          try first | exact S | exact ⟨vv, S⟩ | exact vv
        · clear hi
          refine step_of rfl rfl rfl ?_
          intro u G w hf S
          simp only [resOf, spec, RSpec.resAt, z0, z1, z2, z3, z4, z5, z6, z7, ptrBlk] at S ⊢
          simp only [does]
          go_simp
          try first | exact S | exact ⟨vv, S⟩ | exact vv
        · clear hi
          refine step_of rfl rfl rfl ?_
          intro u G w hf S
          have f3 : u 3 = (.slice (some ⟨b, off, none⟩) l.length c0) := hf 3 (by simp)
          have f4 : u 4 = (.int .i64 (k : Int)) := hf 4 (by simp)
          simp only [resOf, spec, RSpec.resAt, z0, z1, z2, z3, z4, z5, z6, z7, ptrBlk] at S ⊢
          simp only [f3, f4]
          simp only [does]
          go_simp
          try first | exact S | exact ⟨vv, S⟩ | exact vv
        · clear hi
          refine step_of rfl rfl rfl ?_
          intro u G w hf S
          have f3 : u 3 = (.slice (some ⟨b, off, none⟩) l.length c0) := hf 3 (by simp)
          have f4 : u 4 = (.int .i64 (k : Int)) := hf 4 (by simp)
          have f5 : u 5 = .pointer (some ⟨b, off + k * 3, none⟩) := hf 5 (by simp)
          simp only [resOf, spec, RSpec.resAt, z0, z1, z2, z3, z4, z5, z6, z7, ptrBlk] at S ⊢
          simp only [f3, f4, f5]
          simp only [does]
          go_simp
          try first | exact S | exact ⟨vv, S⟩ | exact vv
        · clear hi
          refine step_of rfl rfl rfl ?_
          intro u G w hf S
          have f3 : u 3 = (.slice (some ⟨b, off, none⟩) l.length c0) := hf 3 (by simp)
          have f4 : u 4 = (.int .i64 (k : Int)) := hf 4 (by simp)
          have f5 : u 5 = .pointer (some ⟨b, off + k * 3, none⟩) := hf 5 (by simp)
          have f6 : u 6 = .pointer (some ⟨b, off + k * 3, none⟩) := hf 6 (by simp)
          simp only [resOf, spec, RSpec.resAt, z0, z1, z2, z3, z4, z5, z6, z7, ptrBlk] at S ⊢
          simp only [f3, f4, f5, f6]
          refine does_load1 5 (.tmp 79) _ _ rfl (S.old_cell hy) _ Tryd.underlying5 rfl ?_; exact ⟨rfl, S⟩
        · clear hi
          refine step_of rfl rfl rfl ?_
          intro u G w hf S
          simp only [resOf, spec, RSpec.resAt, z0, z1, z2, z3, z4, z5, z6, z7, ptrBlk] at S ⊢
          simp only [does]
          go_simp
          try first | exact S | exact ⟨vv, S⟩ | exact vv
        · clear hi
          refine step_of rfl rfl rfl ?_
          intro u G w hf S
          simp only [resOf, spec, RSpec.resAt, z0, z1, z2, z3, z4, z5, z6, z7, ptrBlk] at S ⊢
          simp only [does]
          go_simp
          try first | exact S | exact ⟨vv, S⟩ | exact vv
        · clear hi
          refine step_of rfl rfl rfl ?_
          intro u G w hf S
          have f8 : u 8 = (.slice (some ⟨b, off, none⟩) l.length c0) := hf 8 (by simp)
          have f9 : u 9 = (.int .i64 (k : Int)) := hf 9 (by simp)
          simp only [resOf, spec, RSpec.resAt, z0, z1, z2, z3, z4, z5, z6, z7, ptrBlk] at S ⊢
          simp only [f8, f9]
          simp only [does]
          go_simp
          try first | exact S | exact ⟨vv, S⟩ | exact vv
        · clear hi
          refine step_of rfl rfl rfl ?_
          intro u G w hf S
          have f8 : u 8 = (.slice (some ⟨b, off, none⟩) l.length c0) := hf 8 (by simp)
          have f9 : u 9 = (.int .i64 (k : Int)) := hf 9 (by simp)
          have f10 : u 10 = .pointer (some ⟨b, off + k * 3, none⟩) := hf 10 (by simp)
          simp only [resOf, spec, RSpec.resAt, z0, z1, z2, z3, z4, z5, z6, z7, ptrBlk] at S ⊢
          simp only [f8, f9, f10]
          simp only [does]
          go_simp
          try first | exact S | exact ⟨vv, S⟩ | exact vv
        · clear hi
          refine step_of rfl rfl rfl ?_
          intro u G w hf S
          have f8 : u 8 = (.slice (some ⟨b, off, none⟩) l.length c0) := hf 8 (by simp)
          have f9 : u 9 = (.int .i64 (k : Int)) := hf 9 (by simp)
          have f10 : u 10 = .pointer (some ⟨b, off + k * 3, none⟩) := hf 10 (by simp)
          have f11 : u 11 = .pointer (some ⟨b, off + k * 3 + 1, none⟩) := hf 11 (by simp)
          simp only [resOf, spec, RSpec.resAt, z0, z1, z2, z3, z4, z5, z6, z7, ptrBlk] at S ⊢
          simp only [f8, f9, f10, f11]
          refine does_load1 23 (.tmp 84) _ _ rfl (S.old_cell hy) _ Tryd.underlying23 rfl ?_; exact ⟨rfl, S⟩
        · clear hi
          refine step_of rfl rfl rfl ?_
          intro u G w hf S
          simp only [resOf, spec, RSpec.resAt, z0, z1, z2, z3, z4, z5, z6, z7, ptrBlk] at S ⊢
          simp only [does]
          go_simp
          try first | exact S | exact ⟨vv, S⟩ | exact vv
        · clear hi
          refine step_of rfl rfl rfl ?_
          intro u G w hf S
          have f13 : u 13 = (.int .i64 (k : Int)) := hf 13 (by simp)
          simp only [resOf, spec, RSpec.resAt, z0, z1, z2, z3, z4, z5, z6, z7, ptrBlk] at S ⊢
          simp only [f13]
          simp only [does]
          go_simp
          try first | exact S | exact ⟨vv, S⟩ | exact vv
        · clear hi
          refine step_of rfl rfl rfl ?_
          intro u G w hf S
          have f13 : u 13 = (.int .i64 (k : Int)) := hf 13 (by simp)
          have f14 : u 14 = .int .i64 ((k : Int) + 1) := hf 14 (by simp)
          simp only [resOf, spec, RSpec.resAt, z0, z1, z2, z3, z4, z5, z6, z7, ptrBlk] at S ⊢
          simp only [f13, f14]
          simp only [does]
          go_simp
          try first | exact S | exact ⟨vv, S⟩ | exact vv
        · clear hi
          refine step_of rfl rfl rfl ?_
          intro u G w hf S
          have f1 : u 1 = (.int .i64 tenant) := hf 1 (by simp)
          have f2 : u 2 = .int .u8 tenant := hf 2 (by simp)
          have f3 : u 3 = (.slice (some ⟨b, off, none⟩) l.length c0) := hf 3 (by simp)
          have f4 : u 4 = (.int .i64 (k : Int)) := hf 4 (by simp)
          have f5 : u 5 = .pointer (some ⟨b, off + k * 3, none⟩) := hf 5 (by simp)
          have f6 : u 6 = .pointer (some ⟨b, off + k * 3, none⟩) := hf 6 (by simp)
          have f7 : u 7 = .int .u8 (x.role.toNat : Int) := hf 7 (by simp)
          have f8 : u 8 = (.slice (some ⟨b, off, none⟩) l.length c0) := hf 8 (by simp)
          have f9 : u 9 = (.int .i64 (k : Int)) := hf 9 (by simp)
          have f10 : u 10 = .pointer (some ⟨b, off + k * 3, none⟩) := hf 10 (by simp)
          have f11 : u 11 = .pointer (some ⟨b, off + k * 3 + 1, none⟩) := hf 11 (by simp)
          have f12 : u 12 = .int .u64 (x.expiry.toNat : Int) := hf 12 (by simp)
          have f13 : u 13 = (.int .i64 (k : Int)) := hf 13 (by simp)
          have f14 : u 14 = .int .i64 ((k : Int) + 1) := hf 14 (by simp)
          have f15 : u 15 = .int .u32 ((k : Int) + 1) := hf 15 (by simp)
          simp only [resOf, spec, RSpec.resAt, z0, z1, z2, z3, z4, z5, z6, z7, ptrBlk] at S ⊢
          simp only [f1, f2, f3, f4, f5, f6, f7, f8, f9, f10, f11, f12, f13, f14, f15]
          rw [HT0.out]; refine does_buildT4 _ _ _ _ (UInt8.ofNat tenant.toNat) x.role x.expiry (UInt32.ofNat (k + 1)) (show Value.int IntKind.u8 _ = Value.int IntKind.u8 _ by rw [F0.out]) rfl rfl (show Value.int IntKind.u32 _ = Value.int IntKind.u32 _ by rw [F3.out]) ?_; exact ⟨rfl, S⟩
        · clear hi
          refine step_of rfl rfl rfl ?_
          intro u G w hf S
          have f0 : u 0 = (.slice a1 key.length c1) := hf 0 (by simp)
          have f1 : u 1 = (.int .i64 tenant) := hf 1 (by simp)
          have f2 : u 2 = .int .u8 tenant := hf 2 (by simp)
          have f3 : u 3 = (.slice (some ⟨b, off, none⟩) l.length c0) := hf 3 (by simp)
          have f4 : u 4 = (.int .i64 (k : Int)) := hf 4 (by simp)
          have f5 : u 5 = .pointer (some ⟨b, off + k * 3, none⟩) := hf 5 (by simp)
          have f6 : u 6 = .pointer (some ⟨b, off + k * 3, none⟩) := hf 6 (by simp)
          have f7 : u 7 = .int .u8 (x.role.toNat : Int) := hf 7 (by simp)
          have f8 : u 8 = (.slice (some ⟨b, off, none⟩) l.length c0) := hf 8 (by simp)
          have f9 : u 9 = (.int .i64 (k : Int)) := hf 9 (by simp)
          have f10 : u 10 = .pointer (some ⟨b, off + k * 3, none⟩) := hf 10 (by simp)
          have f11 : u 11 = .pointer (some ⟨b, off + k * 3 + 1, none⟩) := hf 11 (by simp)
          have f12 : u 12 = .int .u64 (x.expiry.toNat : Int) := hf 12 (by simp)
          have f13 : u 13 = (.int .i64 (k : Int)) := hf 13 (by simp)
          have f14 : u 14 = .int .i64 ((k : Int) + 1) := hf 14 (by simp)
          have f15 : u 15 = .int .u32 ((k : Int) + 1) := hf 15 (by simp)
          have f16 : u 16 = .agg (tokL T0).toArray := hf 16 (by simp)
          simp only [resOf, spec, RSpec.resAt, z0, z1, z2, z3, z4, z5, z6, z7, ptrBlk] at S ⊢
          simp only [f0, f1, f2, f3, f4, f5, f6, f7, f8, f9, f10, f11, f12, f13, f14, f15, f16]
          refine does_fn (args := [((.slice a1 key.length c1)), (.agg (tokL T0).toArray)]) Tryd.func20 (by kernel_rfl) (by kernel_rfl) (P6.out w (S.oldB H2.out) (S.kt HK.out)) rfl ?_
          rintro e w1 ⟨rfl, T⟩
          exact ⟨_, rfl, rfl, S.call T⟩
        · clear hi
          refine step_of rfl rfl rfl ?_
          intro u G w hf S
          have f0 : u 0 = (.slice a1 key.length c1) := hf 0 (by simp)
          have f1 : u 1 = (.int .i64 tenant) := hf 1 (by simp)
          have f2 : u 2 = .int .u8 tenant := hf 2 (by simp)
          have f3 : u 3 = (.slice (some ⟨b, off, none⟩) l.length c0) := hf 3 (by simp)
          have f4 : u 4 = (.int .i64 (k : Int)) := hf 4 (by simp)
          have f5 : u 5 = .pointer (some ⟨b, off + k * 3, none⟩) := hf 5 (by simp)
          have f6 : u 6 = .pointer (some ⟨b, off + k * 3, none⟩) := hf 6 (by simp)
          have f7 : u 7 = .int .u8 (x.role.toNat : Int) := hf 7 (by simp)
          have f8 : u 8 = (.slice (some ⟨b, off, none⟩) l.length c0) := hf 8 (by simp)
          have f9 : u 9 = (.int .i64 (k : Int)) := hf 9 (by simp)
          have f10 : u 10 = .pointer (some ⟨b, off + k * 3, none⟩) := hf 10 (by simp)
          have f11 : u 11 = .pointer (some ⟨b, off + k * 3 + 1, none⟩) := hf 11 (by simp)
          have f12 : u 12 = .int .u64 (x.expiry.toNat : Int) := hf 12 (by simp)
          have f13 : u 13 = (.int .i64 (k : Int)) := hf 13 (by simp)
          have f14 : u 14 = .int .i64 ((k : Int) + 1) := hf 14 (by simp)
          have f15 : u 15 = .int .u32 ((k : Int) + 1) := hf 15 (by simp)
          have f16 : u 16 = .agg (tokL T0).toArray := hf 16 (by simp)
          have f17 : u 17 = .tuple #[.agg (tokL T2).toArray, .int .i64 0] := hf 17 (by simp)
          simp only [resOf, spec, RSpec.resAt, z0, z1, z2, z3, z4, z5, z6, z7, ptrBlk] at S ⊢
          simp only [f0, f1, f2, f3, f4, f5, f6, f7, f8, f9, f10, f11, f12, f13, f14, f15, f16, f17]
          simp only [does]
          go_simp
          try first | exact S | exact ⟨vv, S⟩ | exact vv
        · clear hi
          refine step_of rfl rfl rfl ?_
          intro u G w hf S
          have f0 : u 0 = (.slice a1 key.length c1) := hf 0 (by simp)
          have f1 : u 1 = (.int .i64 tenant) := hf 1 (by simp)
          have f2 : u 2 = .int .u8 tenant := hf 2 (by simp)
          have f3 : u 3 = (.slice (some ⟨b, off, none⟩) l.length c0) := hf 3 (by simp)
          have f4 : u 4 = (.int .i64 (k : Int)) := hf 4 (by simp)
          have f5 : u 5 = .pointer (some ⟨b, off + k * 3, none⟩) := hf 5 (by simp)
          have f6 : u 6 = .pointer (some ⟨b, off + k * 3, none⟩) := hf 6 (by simp)
          have f7 : u 7 = .int .u8 (x.role.toNat : Int) := hf 7 (by simp)
          have f8 : u 8 = (.slice (some ⟨b, off, none⟩) l.length c0) := hf 8 (by simp)
          have f9 : u 9 = (.int .i64 (k : Int)) := hf 9 (by simp)
          have f10 : u 10 = .pointer (some ⟨b, off + k * 3, none⟩) := hf 10 (by simp)
          have f11 : u 11 = .pointer (some ⟨b, off + k * 3 + 1, none⟩) := hf 11 (by simp)
          have f12 : u 12 = .int .u64 (x.expiry.toNat : Int) := hf 12 (by simp)
          have f13 : u 13 = (.int .i64 (k : Int)) := hf 13 (by simp)
          have f14 : u 14 = .int .i64 ((k : Int) + 1) := hf 14 (by simp)
          have f15 : u 15 = .int .u32 ((k : Int) + 1) := hf 15 (by simp)
          have f16 : u 16 = .agg (tokL T0).toArray := hf 16 (by simp)
          have f17 : u 17 = .tuple #[.agg (tokL T2).toArray, .int .i64 0] := hf 17 (by simp)
          have f18 : u 18 = (.tuple #[.agg (tokL T2).toArray, .int .i64 0]) := hf 18 (by simp)
          simp only [resOf, spec, RSpec.resAt, z0, z1, z2, z3, z4, z5, z6, z7, ptrBlk] at S ⊢
          simp only [f0, f1, f2, f3, f4, f5, f6, f7, f8, f9, f10, f11, f12, f13, f14, f15, f16, f17, f18]
          simp only [does]
          go_simp
          try first | exact S | exact ⟨vv, S⟩ | exact vv
        · clear hi
          refine step_of rfl rfl rfl ?_
          intro u G w hf S
          have f0 : u 0 = (.slice a1 key.length c1) := hf 0 (by simp)
          have f1 : u 1 = (.int .i64 tenant) := hf 1 (by simp)
          have f2 : u 2 = .int .u8 tenant := hf 2 (by simp)
          have f3 : u 3 = (.slice (some ⟨b, off, none⟩) l.length c0) := hf 3 (by simp)
          have f4 : u 4 = (.int .i64 (k : Int)) := hf 4 (by simp)
          have f5 : u 5 = .pointer (some ⟨b, off + k * 3, none⟩) := hf 5 (by simp)
          have f6 : u 6 = .pointer (some ⟨b, off + k * 3, none⟩) := hf 6 (by simp)
          have f7 : u 7 = .int .u8 (x.role.toNat : Int) := hf 7 (by simp)
          have f8 : u 8 = (.slice (some ⟨b, off, none⟩) l.length c0) := hf 8 (by simp)
          have f9 : u 9 = (.int .i64 (k : Int)) := hf 9 (by simp)
          have f10 : u 10 = .pointer (some ⟨b, off + k * 3, none⟩) := hf 10 (by simp)
          have f11 : u 11 = .pointer (some ⟨b, off + k * 3 + 1, none⟩) := hf 11 (by simp)
          have f12 : u 12 = .int .u64 (x.expiry.toNat : Int) := hf 12 (by simp)
          have f13 : u 13 = (.int .i64 (k : Int)) := hf 13 (by simp)
          have f14 : u 14 = .int .i64 ((k : Int) + 1) := hf 14 (by simp)
          have f15 : u 15 = .int .u32 ((k : Int) + 1) := hf 15 (by simp)
          have f16 : u 16 = .agg (tokL T0).toArray := hf 16 (by simp)
          have f17 : u 17 = .tuple #[.agg (tokL T2).toArray, .int .i64 0] := hf 17 (by simp)
          have f18 : u 18 = (.tuple #[.agg (tokL T2).toArray, .int .i64 0]) := hf 18 (by simp)
          simp only [resOf, spec, RSpec.resAt, z0, z1, z2, z3, z4, z5, z6, z7, ptrBlk] at S ⊢
          simp only [f0, f1, f2, f3, f4, f5, f6, f7, f8, f9, f10, f11, f12, f13, f14, f15, f16, f17, f18]
          simp only [does]
          go_simp
          try first | exact S | exact ⟨vv, S⟩ | exact vv
        · clear hi
          refine step_of rfl rfl rfl ?_
          intro u G w hf S
          simp only [resOf, spec, RSpec.resAt, z0, z1, z2, z3, z4, z5, z6, z7, ptrBlk] at S ⊢
          refine does_alloc S 27 (.agg ((tokL tokZ).toArray)) ((tokL tokZ).toArray) (by kernel_rfl) rfl ?_; intro g w1 S; exact ⟨⟨g, rfl⟩, S⟩
        · clear hi
          refine step_of rfl rfl rfl ?_
          intro u G w hf S
          have f0 : u 0 = (.slice a1 key.length c1) := hf 0 (by simp)
          have f1 : u 1 = (.int .i64 tenant) := hf 1 (by simp)
          have f2 : u 2 = .int .u8 tenant := hf 2 (by simp)
          have f3 : u 3 = (.slice (some ⟨b, off, none⟩) l.length c0) := hf 3 (by simp)
          have f4 : u 4 = (.int .i64 (k : Int)) := hf 4 (by simp)
          have f5 : u 5 = .pointer (some ⟨b, off + k * 3, none⟩) := hf 5 (by simp)
          have f6 : u 6 = .pointer (some ⟨b, off + k * 3, none⟩) := hf 6 (by simp)
          have f7 : u 7 = .int .u8 (x.role.toNat : Int) := hf 7 (by simp)
          have f8 : u 8 = (.slice (some ⟨b, off, none⟩) l.length c0) := hf 8 (by simp)
          have f9 : u 9 = (.int .i64 (k : Int)) := hf 9 (by simp)
          have f10 : u 10 = .pointer (some ⟨b, off + k * 3, none⟩) := hf 10 (by simp)
          have f11 : u 11 = .pointer (some ⟨b, off + k * 3 + 1, none⟩) := hf 11 (by simp)
          have f12 : u 12 = .int .u64 (x.expiry.toNat : Int) := hf 12 (by simp)
          have f13 : u 13 = (.int .i64 (k : Int)) := hf 13 (by simp)
          have f14 : u 14 = .int .i64 ((k : Int) + 1) := hf 14 (by simp)
          have f15 : u 15 = .int .u32 ((k : Int) + 1) := hf 15 (by simp)
          have f16 : u 16 = .agg (tokL T0).toArray := hf 16 (by simp)
          have f17 : u 17 = .tuple #[.agg (tokL T2).toArray, .int .i64 0] := hf 17 (by simp)
          have f18 : u 18 = (.tuple #[.agg (tokL T2).toArray, .int .i64 0]) := hf 18 (by simp)
          have f19 : u 19 = .agg (tokL T2).toArray := hf 19 (by simp)
          have f21 : ∃ g, u 21 = .pointer (some ⟨g, 0, none⟩) := hf 21 (by simp)
          obtain ⟨g17, f21⟩ := f21
          have m21 : mask [0, 1, 2, 3, 4, 5, 6, 7, 8, 9, 10, 11, 12, 13, 14, 15, 16, 17, 18, 19, 21] u 21 = u 21 := rfl
          simp only [resOf, spec, RSpec.resAt, List.getD_cons_zero, List.getD_cons_succ, List.flatMap_cons, List.flatMap_nil, List.nil_append, List.cons_append, List.append_nil, List.append_assoc, m21, ptrBlk] at S ⊢
          simp only [m21, f0, f1, f2, f3, f4, f5, f6, f7, f8, f9, f10, f11, f12, f13, f14, f15, f16, f17, f18, f19, f21] at S ⊢
          try simp only [ptrBlk] at S
          refine does_store S 27 (.tmp 17) (.tmp 91) _ rfl rfl 36 (by kernel_rfl) (by first | rfl | (first | rfl | assumption | (exact Hid.out (by assumption)) | (exact tokL_size _) | (rw [arr8_size]; first | rfl | assumption | (exact Hid.out (by assumption)) | exact tokL_size _ | exact List.length_replicate ..) | (simp [arr8_size]; done))) (by first | rfl | (first | rfl | assumption | (exact Hid.out (by assumption)) | (exact tokL_size _) | (rw [arr8_size]; first | rfl | assumption | (exact Hid.out (by assumption)) | exact tokL_size _ | exact List.length_replicate ..) | (simp [arr8_size]; done))) on1 ?_; intro w1 S; exact ⟨trivial, S⟩
        · clear hi
          refine step_of rfl rfl rfl ?_
          intro u G w hf S
          have f0 : u 0 = (.slice a1 key.length c1) := hf 0 (by simp)
          have f1 : u 1 = (.int .i64 tenant) := hf 1 (by simp)
          have f2 : u 2 = .int .u8 tenant := hf 2 (by simp)
          have f3 : u 3 = (.slice (some ⟨b, off, none⟩) l.length c0) := hf 3 (by simp)
          have f4 : u 4 = (.int .i64 (k : Int)) := hf 4 (by simp)
          have f5 : u 5 = .pointer (some ⟨b, off + k * 3, none⟩) := hf 5 (by simp)
          have f6 : u 6 = .pointer (some ⟨b, off + k * 3, none⟩) := hf 6 (by simp)
          have f7 : u 7 = .int .u8 (x.role.toNat : Int) := hf 7 (by simp)
          have f8 : u 8 = (.slice (some ⟨b, off, none⟩) l.length c0) := hf 8 (by simp)
          have f9 : u 9 = (.int .i64 (k : Int)) := hf 9 (by simp)
          have f10 : u 10 = .pointer (some ⟨b, off + k * 3, none⟩) := hf 10 (by simp)
          have f11 : u 11 = .pointer (some ⟨b, off + k * 3 + 1, none⟩) := hf 11 (by simp)
          have f12 : u 12 = .int .u64 (x.expiry.toNat : Int) := hf 12 (by simp)
          have f13 : u 13 = (.int .i64 (k : Int)) := hf 13 (by simp)
          have f14 : u 14 = .int .i64 ((k : Int) + 1) := hf 14 (by simp)
          have f15 : u 15 = .int .u32 ((k : Int) + 1) := hf 15 (by simp)
          have f16 : u 16 = .agg (tokL T0).toArray := hf 16 (by simp)
          have f17 : u 17 = .tuple #[.agg (tokL T2).toArray, .int .i64 0] := hf 17 (by simp)
          have f18 : u 18 = (.tuple #[.agg (tokL T2).toArray, .int .i64 0]) := hf 18 (by simp)
          have f19 : u 19 = .agg (tokL T2).toArray := hf 19 (by simp)
          have f20 : u 20 = .int .i64 0 := hf 20 (by simp)
          have f21 : ∃ g, u 21 = .pointer (some ⟨g, 0, none⟩) := hf 21 (by simp)
          obtain ⟨g17, f21⟩ := f21
          simp only [resOf, spec, RSpec.resAt, z0, z1, z2, z3, z4, z5, z6, z7, ptrBlk] at S ⊢
          simp only [f0, f1, f2, f3, f4, f5, f6, f7, f8, f9, f10, f11, f12, f13, f14, f15, f16, f17, f18, f19, f20, f21]
          simp only [does]
          go_simp
          try first | exact S | exact ⟨vv, S⟩ | exact vv
      case fin1 =>
        intro u w hf S
        have f0 : u 0 = (.slice a1 key.length c1) := hf 0 (by simp)
        have f1 : u 1 = (.int .i64 tenant) := hf 1 (by simp)
        have f2 : u 2 = .int .u8 tenant := hf 2 (by simp)
        have f3 : u 3 = (.slice (some ⟨b, off, none⟩) l.length c0) := hf 3 (by simp)
        have f4 : u 4 = (.int .i64 (k : Int)) := hf 4 (by simp)
        have f5 : u 5 = .pointer (some ⟨b, off + k * 3, none⟩) := hf 5 (by simp)
        have f6 : u 6 = .pointer (some ⟨b, off + k * 3, none⟩) := hf 6 (by simp)
        have f7 : u 7 = .int .u8 (x.role.toNat : Int) := hf 7 (by simp)
        have f8 : u 8 = (.slice (some ⟨b, off, none⟩) l.length c0) := hf 8 (by simp)
        have f9 : u 9 = (.int .i64 (k : Int)) := hf 9 (by simp)
        have f10 : u 10 = .pointer (some ⟨b, off + k * 3, none⟩) := hf 10 (by simp)
        have f11 : u 11 = .pointer (some ⟨b, off + k * 3 + 1, none⟩) := hf 11 (by simp)
        have f12 : u 12 = .int .u64 (x.expiry.toNat : Int) := hf 12 (by simp)
        have f13 : u 13 = (.int .i64 (k : Int)) := hf 13 (by simp)
        have f14 : u 14 = .int .i64 ((k : Int) + 1) := hf 14 (by simp)
        have f15 : u 15 = .int .u32 ((k : Int) + 1) := hf 15 (by simp)
        have f16 : u 16 = .agg (tokL T0).toArray := hf 16 (by simp)
        have f17 : u 17 = .tuple #[.agg (tokL T2).toArray, .int .i64 0] := hf 17 (by simp)
        have f18 : u 18 = (.tuple #[.agg (tokL T2).toArray, .int .i64 0]) := hf 18 (by simp)
        have f19 : u 19 = .agg (tokL T2).toArray := hf 19 (by simp)
        have f20 : u 20 = .int .i64 0 := hf 20 (by simp)
        have f21 : ∃ g, u 21 = .pointer (some ⟨g, 0, none⟩) := hf 21 (by simp)
        obtain ⟨g17, f21⟩ := f21
        have f23 : u 23 = (.int .i64 0) := hf 23 (by simp)
        have m22_21 : mask [0, 1, 2, 3, 4, 5, 6, 7, 8, 9, 10, 11, 12, 13, 14, 15, 16, 17, 18, 19, 21] u 21 = u 21 := rfl
        simp only [resOf, spec, RSpec.resAt, List.getD_cons_zero, List.getD_cons_succ, List.flatMap_cons, List.flatMap_nil, List.nil_append, List.cons_append, List.append_nil, List.append_assoc, m22_21, ptrBlk] at S
        clear hf
        simp only [List.length_cons, List.length_nil, Nat.zero_add, Nat.reduceAdd, List.drop_succ_cons, List.drop_zero, f0, f1, f2, f3, f4, f5, f6, f7, f8, f9, f10, f11, f12, f13, f14, f15, f16, f17, f18, f19, f20, f21, f23]
        try simp only [f0, f1, f2, f3, f4, f5, f6, f7, f8, f9, f10, f11, f12, f13, f14, f15, f16, f17, f18, f19, f20, f21, f23, ptrBlk] at S
        clear f0 f1 f2 f3 f4 f5 f6 f7 f8 f9 f10 f11 f12 f13 f14 f15 f16 f17 f18 f19 f20 f21 f23 m22_21
        cases B with
        | true =>
          go_wp2
          go_roundw
          case rel => exact ⟨k + 1, by omega, by rw [← HR1.out, HNEXT.out]; simp, by go_num, S.sub (by repeat (first | exact Sub.nil _ | refine Sub.cons pk ?_))⟩
          all_goals first | omega | (simp only [intOf]; omega)
        | false =>
          cases D with
          | false =>
            go_wp2_with (first | ((with_reducible show wpList _ _ _ (⟨some 9, .box 27 (.tmp 3), _, _, _, _⟩ :: _) _ _); refine step_boxA (dst := some 9) S 27 (.tmp 3) _ rfl gw ?_; clear S; intro g9 w S) | ((with_reducible show wpList _ _ _ (⟨_, .load 27 _, _, _, _, _⟩ :: _) _ _); first | (refine step_load S 27 _ _ rfl _ _ _ pk _ Tryd.underlying27 rfl 36 (by kernel_rfl) (by first | rfl | (first | rfl | assumption | (exact Hid.out (by assumption)) | (exact tokL_size _) | (rw [arr8_size]; first | rfl | assumption | (exact Hid.out (by assumption)) | exact tokL_size _ | exact List.length_replicate ..) | (simp [arr8_size]; done))) gw ?_) | (refine step_loadO 27 _ _ rfl _ _ _ (S.old_heap (Hid.out (by assumption))) _ Tryd.underlying27 rfl 36 (by kernel_rfl) (by first | rfl | (first | rfl | assumption | (exact Hid.out (by assumption)) | (exact tokL_size _) | (rw [arr8_size]; first | rfl | assumption | (exact Hid.out (by assumption)) | exact tokL_size _ | exact List.length_replicate ..) | (simp [arr8_size]; done))) gw ?_) | (refine step_loadR 27 _ _ _ rfl _ (S.old_range hy) _ Tryd.underlying27 rfl 36 (by kernel_rfl) (by first | rfl | (first | rfl | assumption | (exact Hid.out (by assumption)) | (exact tokL_size _) | (rw [arr8_size]; first | rfl | assumption | (exact Hid.out (by assumption)) | exact tokL_size _ | exact List.length_replicate ..) | (simp [arr8_size]; done))) _ rfl gw ?_)) | ((with_reducible show wpList _ _ _ (⟨some 17, .alloc 27, _, _, _, _⟩ :: _) _ _); refine step_alloc (dst := some 17) S 27 (.agg ((tokL tokZ).toArray)) ((tokL tokZ).toArray) (by kernel_rfl) rfl gw ?_; clear S; intro g17 w S) | ((with_reducible show wpList _ _ _ (⟨none, .store 27 (.tmp 17) (.tmp 91), _, _, _, _⟩ :: _) _ _); refine step_store S 27 (.tmp 17) (.tmp 91) _ _ rfl rfl _ _ pk 36 (by kernel_rfl) (by first | rfl | (first | rfl | assumption | (exact Hid.out (by assumption)) | (exact tokL_size _) | (rw [arr8_size]; first | rfl | assumption | (exact Hid.out (by assumption)) | exact tokL_size _ | exact List.length_replicate ..) | (simp [arr8_size]; done))) (by first | rfl | (first | rfl | assumption | (exact Hid.out (by assumption)) | (exact tokL_size _) | (rw [arr8_size]; first | rfl | assumption | (exact Hid.out (by assumption)) | exact tokL_size _ | exact List.length_replicate ..) | (simp [arr8_size]; done))) on1 gw ?_; clear S; intro w S) | fail)
            go_roundw
            case rel => exact ⟨k + 1, by omega, by rw [← HR1.out, HNEXT.out]; simp, by go_num, S.sub (by repeat (first | exact Sub.nil _ | refine Sub.cons pk ?_))⟩
            all_goals first | omega | (simp only [intOf]; omega)
          | true =>
            cases xr with
            | true =>
              go_wp2_with (first | ((with_reducible show wpList _ _ _ (⟨some 9, .box 27 (.tmp 3), _, _, _, _⟩ :: _) _ _); refine step_boxA (dst := some 9) S 27 (.tmp 3) _ rfl gw ?_; clear S; intro g9 w S) | ((with_reducible show wpList _ _ _ (⟨_, .load 27 _, _, _, _, _⟩ :: _) _ _); first | (refine step_load S 27 _ _ rfl _ _ _ pk _ Tryd.underlying27 rfl 36 (by kernel_rfl) (by first | rfl | (first | rfl | assumption | (exact Hid.out (by assumption)) | (exact tokL_size _) | (rw [arr8_size]; first | rfl | assumption | (exact Hid.out (by assumption)) | exact tokL_size _ | exact List.length_replicate ..) | (simp [arr8_size]; done))) gw ?_) | (refine step_loadO 27 _ _ rfl _ _ _ (S.old_heap (Hid.out (by assumption))) _ Tryd.underlying27 rfl 36 (by kernel_rfl) (by first | rfl | (first | rfl | assumption | (exact Hid.out (by assumption)) | (exact tokL_size _) | (rw [arr8_size]; first | rfl | assumption | (exact Hid.out (by assumption)) | exact tokL_size _ | exact List.length_replicate ..) | (simp [arr8_size]; done))) gw ?_) | (refine step_loadR 27 _ _ _ rfl _ (S.old_range hy) _ Tryd.underlying27 rfl 36 (by kernel_rfl) (by first | rfl | (first | rfl | assumption | (exact Hid.out (by assumption)) | (exact tokL_size _) | (rw [arr8_size]; first | rfl | assumption | (exact Hid.out (by assumption)) | exact tokL_size _ | exact List.length_replicate ..) | (simp [arr8_size]; done))) _ rfl gw ?_)) | ((with_reducible show wpList _ _ _ (⟨some 17, .alloc 27, _, _, _, _⟩ :: _) _ _); refine step_alloc (dst := some 17) S 27 (.agg ((tokL tokZ).toArray)) ((tokL tokZ).toArray) (by kernel_rfl) rfl gw ?_; clear S; intro g17 w S) | ((with_reducible show wpList _ _ _ (⟨none, .store 27 (.tmp 17) (.tmp 91), _, _, _, _⟩ :: _) _ _); refine step_store S 27 (.tmp 17) (.tmp 91) _ _ rfl rfl _ _ pk 36 (by kernel_rfl) (by first | rfl | (first | rfl | assumption | (exact Hid.out (by assumption)) | (exact tokL_size _) | (rw [arr8_size]; first | rfl | assumption | (exact Hid.out (by assumption)) | exact tokL_size _ | exact List.length_replicate ..) | (simp [arr8_size]; done))) (by first | rfl | (first | rfl | assumption | (exact Hid.out (by assumption)) | (exact tokL_size _) | (rw [arr8_size]; first | rfl | assumption | (exact Hid.out (by assumption)) | exact tokL_size _ | exact List.length_replicate ..) | (simp [arr8_size]; done))) on1 gw ?_; clear S; intro w S) | ((with_reducible show wpList _ _ _ (⟨_, .load 4 _, _, _, _, _⟩ :: _) _ _); first | (refine step_load1 4 _ _ _ rfl (S.cell pk co) _ Tryd.underlying4 rfl gw ?_) | (refine step_load1 4 _ _ _ rfl (S.row_cell pk _ _ hyr) _ Tryd.underlying4 rfl gw ?_) | (refine step_load1 4 _ _ _ rfl (S.row_cellS pk _ _ hy) _ Tryd.underlying4 rfl gw ?_) | (refine step_load1 4 _ _ _ rfl (S.old_cell hy) _ Tryd.underlying4 rfl gw ?_)) | fail)
              go_roundw
              case rel => exact ⟨k + 1, by omega, by rw [← HR1.out, HNEXT.out]; simp, by go_num, S.sub (by repeat (first | exact Sub.nil _ | refine Sub.cons pk ?_))⟩
              all_goals first | omega | (simp only [intOf]; omega)
            | false =>
              by_cases hne : now < XE
              · have hne2 : (now : Int) < (x.expiry.toNat : Int) := by omega
                have HNE := Lib.hid hne
                clear hne
                cases PB with
                | true =>
                  go_wp2_with (first | ((with_reducible show wpList _ _ _ (⟨some 9, .box 27 (.tmp 3), _, _, _, _⟩ :: _) _ _); refine step_boxA (dst := some 9) S 27 (.tmp 3) _ rfl gw ?_; clear S; intro g9 w S) | ((with_reducible show wpList _ _ _ (⟨_, .load 27 _, _, _, _, _⟩ :: _) _ _); first | (refine step_load S 27 _ _ rfl _ _ _ pk _ Tryd.underlying27 rfl 36 (by kernel_rfl) (by first | rfl | (first | rfl | assumption | (exact Hid.out (by assumption)) | (exact tokL_size _) | (rw [arr8_size]; first | rfl | assumption | (exact Hid.out (by assumption)) | exact tokL_size _ | exact List.length_replicate ..) | (simp [arr8_size]; done))) gw ?_) | (refine step_loadO 27 _ _ rfl _ _ _ (S.old_heap (Hid.out (by assumption))) _ Tryd.underlying27 rfl 36 (by kernel_rfl) (by first | rfl | (first | rfl | assumption | (exact Hid.out (by assumption)) | (exact tokL_size _) | (rw [arr8_size]; first | rfl | assumption | (exact Hid.out (by assumption)) | exact tokL_size _ | exact List.length_replicate ..) | (simp [arr8_size]; done))) gw ?_) | (refine step_loadR 27 _ _ _ rfl _ (S.old_range hy) _ Tryd.underlying27 rfl 36 (by kernel_rfl) (by first | rfl | (first | rfl | assumption | (exact Hid.out (by assumption)) | (exact tokL_size _) | (rw [arr8_size]; first | rfl | assumption | (exact Hid.out (by assumption)) | exact tokL_size _ | exact List.length_replicate ..) | (simp [arr8_size]; done))) _ rfl gw ?_)) | ((with_reducible show wpList _ _ _ (⟨some 17, .alloc 27, _, _, _, _⟩ :: _) _ _); refine step_alloc (dst := some 17) S 27 (.agg ((tokL tokZ).toArray)) ((tokL tokZ).toArray) (by kernel_rfl) rfl gw ?_; clear S; intro g17 w S) | ((with_reducible show wpList _ _ _ (⟨none, .store 27 (.tmp 17) (.tmp 91), _, _, _, _⟩ :: _) _ _); refine step_store S 27 (.tmp 17) (.tmp 91) _ _ rfl rfl _ _ pk 36 (by kernel_rfl) (by first | rfl | (first | rfl | assumption | (exact Hid.out (by assumption)) | (exact tokL_size _) | (rw [arr8_size]; first | rfl | assumption | (exact Hid.out (by assumption)) | exact tokL_size _ | exact List.length_replicate ..) | (simp [arr8_size]; done))) (by first | rfl | (first | rfl | assumption | (exact Hid.out (by assumption)) | (exact tokL_size _) | (rw [arr8_size]; first | rfl | assumption | (exact Hid.out (by assumption)) | exact tokL_size _ | exact List.length_replicate ..) | (simp [arr8_size]; done))) on1 gw ?_; clear S; intro w S) | ((with_reducible show wpList _ _ _ (⟨_, .load 4 _, _, _, _, _⟩ :: _) _ _); first | (refine step_load1 4 _ _ _ rfl (S.cell pk co) _ Tryd.underlying4 rfl gw ?_) | (refine step_load1 4 _ _ _ rfl (S.row_cell pk _ _ hyr) _ Tryd.underlying4 rfl gw ?_) | (refine step_load1 4 _ _ _ rfl (S.row_cellS pk _ _ hy) _ Tryd.underlying4 rfl gw ?_) | (refine step_load1 4 _ _ _ rfl (S.old_cell hy) _ Tryd.underlying4 rfl gw ?_)) | ((with_reducible show wpList _ _ _ (⟨_, .load 23 _, _, _, _, _⟩ :: _) _ _); first | (refine step_load1 23 _ _ _ rfl (S.cell pk co) _ Tryd.underlying23 rfl gw ?_) | (refine step_load1 23 _ _ _ rfl (S.row_cell pk _ _ hyr) _ Tryd.underlying23 rfl gw ?_) | (refine step_load1 23 _ _ _ rfl (S.row_cellS pk _ _ hy) _ Tryd.underlying23 rfl gw ?_) | (refine step_load1 23 _ _ _ rfl (S.old_cell hy) _ Tryd.underlying23 rfl gw ?_)) | ((with_reducible show wpList _ _ _ (⟨_, .load 5 _, _, _, _, _⟩ :: _) _ _); first | (refine step_load1 5 _ _ _ rfl (S.cell pk co) _ Tryd.underlying5 rfl gw ?_) | (refine step_load1 5 _ _ _ rfl (S.row_cell pk _ _ hyr) _ Tryd.underlying5 rfl gw ?_) | (refine step_load1 5 _ _ _ rfl (S.row_cellS pk _ _ hy) _ Tryd.underlying5 rfl gw ?_) | (refine step_load1 5 _ _ _ rfl (S.old_cell hy) _ Tryd.underlying5 rfl gw ?_)) | (go_at_call 27; (with_reducible refine (P7.out _ (S.pt HP.out)).mono ?_); rintro e w1 ⟨rfl, T⟩; replace S := S.call T; clear T; (try simp only [List.nil_append, List.cons_append] at S)) | fail)
                  go_roundw
                  case rel => exact ⟨k + 1, by omega, by rw [← HR1.out, HNEXT.out]; simp [HNE.out], by go_num, S.sub (by repeat (first | exact Sub.nil _ | refine Sub.cons pk ?_))⟩
                  all_goals first | omega | (simp only [intOf]; omega)
                | false =>
                  go_wp2_with (first | ((with_reducible show wpList _ _ _ (⟨some 9, .box 27 (.tmp 3), _, _, _, _⟩ :: _) _ _); refine step_boxA (dst := some 9) S 27 (.tmp 3) _ rfl gw ?_; clear S; intro g9 w S) | ((with_reducible show wpList _ _ _ (⟨_, .load 27 _, _, _, _, _⟩ :: _) _ _); first | (refine step_load S 27 _ _ rfl _ _ _ pk _ Tryd.underlying27 rfl 36 (by kernel_rfl) (by first | rfl | (first | rfl | assumption | (exact Hid.out (by assumption)) | (exact tokL_size _) | (rw [arr8_size]; first | rfl | assumption | (exact Hid.out (by assumption)) | exact tokL_size _ | exact List.length_replicate ..) | (simp [arr8_size]; done))) gw ?_) | (refine step_loadO 27 _ _ rfl _ _ _ (S.old_heap (Hid.out (by assumption))) _ Tryd.underlying27 rfl 36 (by kernel_rfl) (by first | rfl | (first | rfl | assumption | (exact Hid.out (by assumption)) | (exact tokL_size _) | (rw [arr8_size]; first | rfl | assumption | (exact Hid.out (by assumption)) | exact tokL_size _ | exact List.length_replicate ..) | (simp [arr8_size]; done))) gw ?_) | (refine step_loadR 27 _ _ _ rfl _ (S.old_range hy) _ Tryd.underlying27 rfl 36 (by kernel_rfl) (by first | rfl | (first | rfl | assumption | (exact Hid.out (by assumption)) | (exact tokL_size _) | (rw [arr8_size]; first | rfl | assumption | (exact Hid.out (by assumption)) | exact tokL_size _ | exact List.length_replicate ..) | (simp [arr8_size]; done))) _ rfl gw ?_)) | ((with_reducible show wpList _ _ _ (⟨some 17, .alloc 27, _, _, _, _⟩ :: _) _ _); refine step_alloc (dst := some 17) S 27 (.agg ((tokL tokZ).toArray)) ((tokL tokZ).toArray) (by kernel_rfl) rfl gw ?_; clear S; intro g17 w S) | ((with_reducible show wpList _ _ _ (⟨none, .store 27 (.tmp 17) (.tmp 91), _, _, _, _⟩ :: _) _ _); refine step_store S 27 (.tmp 17) (.tmp 91) _ _ rfl rfl _ _ pk 36 (by kernel_rfl) (by first | rfl | (first | rfl | assumption | (exact Hid.out (by assumption)) | (exact tokL_size _) | (rw [arr8_size]; first | rfl | assumption | (exact Hid.out (by assumption)) | exact tokL_size _ | exact List.length_replicate ..) | (simp [arr8_size]; done))) (by first | rfl | (first | rfl | assumption | (exact Hid.out (by assumption)) | (exact tokL_size _) | (rw [arr8_size]; first | rfl | assumption | (exact Hid.out (by assumption)) | exact tokL_size _ | exact List.length_replicate ..) | (simp [arr8_size]; done))) on1 gw ?_; clear S; intro w S) | ((with_reducible show wpList _ _ _ (⟨_, .load 4 _, _, _, _, _⟩ :: _) _ _); first | (refine step_load1 4 _ _ _ rfl (S.cell pk co) _ Tryd.underlying4 rfl gw ?_) | (refine step_load1 4 _ _ _ rfl (S.row_cell pk _ _ hyr) _ Tryd.underlying4 rfl gw ?_) | (refine step_load1 4 _ _ _ rfl (S.row_cellS pk _ _ hy) _ Tryd.underlying4 rfl gw ?_) | (refine step_load1 4 _ _ _ rfl (S.old_cell hy) _ Tryd.underlying4 rfl gw ?_)) | ((with_reducible show wpList _ _ _ (⟨_, .load 23 _, _, _, _, _⟩ :: _) _ _); first | (refine step_load1 23 _ _ _ rfl (S.cell pk co) _ Tryd.underlying23 rfl gw ?_) | (refine step_load1 23 _ _ _ rfl (S.row_cell pk _ _ hyr) _ Tryd.underlying23 rfl gw ?_) | (refine step_load1 23 _ _ _ rfl (S.row_cellS pk _ _ hy) _ Tryd.underlying23 rfl gw ?_) | (refine step_load1 23 _ _ _ rfl (S.old_cell hy) _ Tryd.underlying23 rfl gw ?_)) | ((with_reducible show wpList _ _ _ (⟨_, .load 5 _, _, _, _, _⟩ :: _) _ _); first | (refine step_load1 5 _ _ _ rfl (S.cell pk co) _ Tryd.underlying5 rfl gw ?_) | (refine step_load1 5 _ _ _ rfl (S.row_cell pk _ _ hyr) _ Tryd.underlying5 rfl gw ?_) | (refine step_load1 5 _ _ _ rfl (S.row_cellS pk _ _ hy) _ Tryd.underlying5 rfl gw ?_) | (refine step_load1 5 _ _ _ rfl (S.old_cell hy) _ Tryd.underlying5 rfl gw ?_)) | (go_at_call 27; (with_reducible refine (P7.out _ (S.pt HP.out)).mono ?_); rintro e w1 ⟨rfl, T⟩; replace S := S.call T; clear T; (try simp only [List.nil_append, List.cons_append] at S)) | fail)
                  go_roundw
                  case rel => exact ⟨k + 1, by omega, by rw [← HR1.out, HNEXT.out]; simp, by go_num, S.sub (by repeat (first | exact Sub.nil _ | refine Sub.cons pk ?_))⟩
                  all_goals first | omega | (simp only [intOf]; omega)
              · have hne2 : ¬ (now : Int) < (x.expiry.toNat : Int) := by omega
                have HNE := Lib.hid hne
                clear hne
                go_wp2_with (first | ((with_reducible show wpList _ _ _ (⟨some 9, .box 27 (.tmp 3), _, _, _, _⟩ :: _) _ _); refine step_boxA (dst := some 9) S 27 (.tmp 3) _ rfl gw ?_; clear S; intro g9 w S) | ((with_reducible show wpList _ _ _ (⟨_, .load 27 _, _, _, _, _⟩ :: _) _ _); first | (refine step_load S 27 _ _ rfl _ _ _ pk _ Tryd.underlying27 rfl 36 (by kernel_rfl) (by first | rfl | (first | rfl | assumption | (exact Hid.out (by assumption)) | (exact tokL_size _) | (rw [arr8_size]; first | rfl | assumption | (exact Hid.out (by assumption)) | exact tokL_size _ | exact List.length_replicate ..) | (simp [arr8_size]; done))) gw ?_) | (refine step_loadO 27 _ _ rfl _ _ _ (S.old_heap (Hid.out (by assumption))) _ Tryd.underlying27 rfl 36 (by kernel_rfl) (by first | rfl | (first | rfl | assumption | (exact Hid.out (by assumption)) | (exact tokL_size _) | (rw [arr8_size]; first | rfl | assumption | (exact Hid.out (by assumption)) | exact tokL_size _ | exact List.length_replicate ..) | (simp [arr8_size]; done))) gw ?_) | (refine step_loadR 27 _ _ _ rfl _ (S.old_range hy) _ Tryd.underlying27 rfl 36 (by kernel_rfl) (by first | rfl | (first | rfl | assumption | (exact Hid.out (by assumption)) | (exact tokL_size _) | (rw [arr8_size]; first | rfl | assumption | (exact Hid.out (by assumption)) | exact tokL_size _ | exact List.length_replicate ..) | (simp [arr8_size]; done))) _ rfl gw ?_)) | ((with_reducible show wpList _ _ _ (⟨some 17, .alloc 27, _, _, _, _⟩ :: _) _ _); refine step_alloc (dst := some 17) S 27 (.agg ((tokL tokZ).toArray)) ((tokL tokZ).toArray) (by kernel_rfl) rfl gw ?_; clear S; intro g17 w S) | ((with_reducible show wpList _ _ _ (⟨none, .store 27 (.tmp 17) (.tmp 91), _, _, _, _⟩ :: _) _ _); refine step_store S 27 (.tmp 17) (.tmp 91) _ _ rfl rfl _ _ pk 36 (by kernel_rfl) (by first | rfl | (first | rfl | assumption | (exact Hid.out (by assumption)) | (exact tokL_size _) | (rw [arr8_size]; first | rfl | assumption | (exact Hid.out (by assumption)) | exact tokL_size _ | exact List.length_replicate ..) | (simp [arr8_size]; done))) (by first | rfl | (first | rfl | assumption | (exact Hid.out (by assumption)) | (exact tokL_size _) | (rw [arr8_size]; first | rfl | assumption | (exact Hid.out (by assumption)) | exact tokL_size _ | exact List.length_replicate ..) | (simp [arr8_size]; done))) on1 gw ?_; clear S; intro w S) | ((with_reducible show wpList _ _ _ (⟨_, .load 4 _, _, _, _, _⟩ :: _) _ _); first | (refine step_load1 4 _ _ _ rfl (S.cell pk co) _ Tryd.underlying4 rfl gw ?_) | (refine step_load1 4 _ _ _ rfl (S.row_cell pk _ _ hyr) _ Tryd.underlying4 rfl gw ?_) | (refine step_load1 4 _ _ _ rfl (S.row_cellS pk _ _ hy) _ Tryd.underlying4 rfl gw ?_) | (refine step_load1 4 _ _ _ rfl (S.old_cell hy) _ Tryd.underlying4 rfl gw ?_)) | ((with_reducible show wpList _ _ _ (⟨_, .load 23 _, _, _, _, _⟩ :: _) _ _); first | (refine step_load1 23 _ _ _ rfl (S.cell pk co) _ Tryd.underlying23 rfl gw ?_) | (refine step_load1 23 _ _ _ rfl (S.row_cell pk _ _ hyr) _ Tryd.underlying23 rfl gw ?_) | (refine step_load1 23 _ _ _ rfl (S.row_cellS pk _ _ hy) _ Tryd.underlying23 rfl gw ?_) | (refine step_load1 23 _ _ _ rfl (S.old_cell hy) _ Tryd.underlying23 rfl gw ?_)) | fail)
                go_roundw
                case rel => exact ⟨k + 1, by omega, by rw [← HR1.out, HNEXT.out]; simp [HNE.out], by go_num, S.sub (by repeat (first | exact Sub.nil _ | refine Sub.cons pk ?_))⟩
                all_goals first | omega | (simp only [intOf]; omega)
    · have hke : k = l.length := by omega
      subst hke
      rw [← HEB.out]
      have hkl : ¬ (l.length : Int) < (l.length : Int) := by omega
      go_wp2_with (first | ((with_reducible show wpList _ _ _ (⟨some 9, .box 27 (.tmp 3), _, _, _, _⟩ :: _) _ _); refine step_boxA (dst := some 9) S 27 (.tmp 3) _ rfl gw ?_; clear S; intro g9 w S) | ((with_reducible show wpList _ _ _ (⟨_, .load 27 _, _, _, _, _⟩ :: _) _ _); first | (refine step_load S 27 _ _ rfl _ _ _ pk _ Tryd.underlying27 rfl 36 (by kernel_rfl) (by first | rfl | (first | rfl | assumption | (exact Hid.out (by assumption)) | (exact tokL_size _) | (rw [arr8_size]; first | rfl | assumption | (exact Hid.out (by assumption)) | exact tokL_size _ | exact List.length_replicate ..) | (simp [arr8_size]; done))) gw ?_) | (refine step_loadO 27 _ _ rfl _ _ _ (S.old_heap (Hid.out (by assumption))) _ Tryd.underlying27 rfl 36 (by kernel_rfl) (by first | rfl | (first | rfl | assumption | (exact Hid.out (by assumption)) | (exact tokL_size _) | (rw [arr8_size]; first | rfl | assumption | (exact Hid.out (by assumption)) | exact tokL_size _ | exact List.length_replicate ..) | (simp [arr8_size]; done))) gw ?_) | (refine step_loadR 27 _ _ _ rfl _ (S.old_range hy) _ Tryd.underlying27 rfl 36 (by kernel_rfl) (by first | rfl | (first | rfl | assumption | (exact Hid.out (by assumption)) | (exact tokL_size _) | (rw [arr8_size]; first | rfl | assumption | (exact Hid.out (by assumption)) | exact tokL_size _ | exact List.length_replicate ..) | (simp [arr8_size]; done))) _ rfl gw ?_)) | ((with_reducible show wpList _ _ _ (⟨_, .load 5 _, _, _, _, _⟩ :: _) _ _); first | (refine step_load1 5 _ _ _ rfl (S.cell pk co) _ Tryd.underlying5 rfl gw ?_) | (refine step_load1 5 _ _ _ rfl (S.row_cell pk _ _ hyr) _ Tryd.underlying5 rfl gw ?_) | (refine step_load1 5 _ _ _ rfl (S.row_cellS pk _ _ hy) _ Tryd.underlying5 rfl gw ?_) | (refine step_load1 5 _ _ _ rfl (S.old_cell hy) _ Tryd.underlying5 rfl gw ?_)) | ((with_reducible show wpList _ _ _ (⟨_, .load 23 _, _, _, _, _⟩ :: _) _ _); first | (refine step_load1 23 _ _ _ rfl (S.cell pk co) _ Tryd.underlying23 rfl gw ?_) | (refine step_load1 23 _ _ _ rfl (S.row_cell pk _ _ hyr) _ Tryd.underlying23 rfl gw ?_) | (refine step_load1 23 _ _ _ rfl (S.row_cellS pk _ _ hy) _ Tryd.underlying23 rfl gw ?_) | (refine step_load1 23 _ _ _ rfl (S.old_cell hy) _ Tryd.underlying23 rfl gw ?_)) | ((with_reducible show wpList _ _ _ (⟨some 17, .alloc 27, _, _, _, _⟩ :: _) _ _); refine step_alloc (dst := some 17) S 27 (.agg ((tokL tokZ).toArray)) ((tokL tokZ).toArray) (by kernel_rfl) rfl gw ?_; clear S; intro g17 w S) | ((with_reducible show wpList _ _ _ (⟨none, .store 27 (.tmp 17) (.tmp 91), _, _, _, _⟩ :: _) _ _); refine step_store S 27 (.tmp 17) (.tmp 91) _ _ rfl rfl _ _ pk 36 (by kernel_rfl) (by first | rfl | (first | rfl | assumption | (exact Hid.out (by assumption)) | (exact tokL_size _) | (rw [arr8_size]; first | rfl | assumption | (exact Hid.out (by assumption)) | exact tokL_size _ | exact List.length_replicate ..) | (simp [arr8_size]; done))) (by first | rfl | (first | rfl | assumption | (exact Hid.out (by assumption)) | (exact tokL_size _) | (rw [arr8_size]; first | rfl | assumption | (exact Hid.out (by assumption)) | exact tokL_size _ | exact List.length_replicate ..) | (simp [arr8_size]; done))) on1 gw ?_; clear S; intro w S) | ((with_reducible show wpList _ _ _ (⟨_, .load 4 _, _, _, _, _⟩ :: _) _ _); first | (refine step_load1 4 _ _ _ rfl (S.cell pk co) _ Tryd.underlying4 rfl gw ?_) | (refine step_load1 4 _ _ _ rfl (S.row_cell pk _ _ hyr) _ Tryd.underlying4 rfl gw ?_) | (refine step_load1 4 _ _ _ rfl (S.row_cellS pk _ _ hy) _ Tryd.underlying4 rfl gw ?_) | (refine step_load1 4 _ _ _ rfl (S.old_cell hy) _ Tryd.underlying4 rfl gw ?_)) | (go_at_call 27; (with_reducible refine (P7.out _ (S.pt HP.out)).mono ?_); rintro e w1 ⟨rfl, T⟩; replace S := S.call T; clear T; (try simp only [List.nil_append, List.cons_append] at S)) | fail)
      all_goals (go_ret; exact ⟨by simp, S.nil⟩)

theorem authExact_walk (v0 v1 : Value) (l : List Mnt) (key : List UInt8) (tenant : Int) (t : Tok) (kind now : Nat) (w0 : World) (h1 : Rg w0 v0 l) (h2 : Bs w0 v1 key) (hK : KT w0) (hP : PT w0)
    (ht : -9223372036854775808 ≤ tenant ∧ tenant ≤ 9223372036854775807) (hk : kind < 256) (hn : now < 18446744073709551616) :
    Calls Tryd.prog 8 #[v0, v1, .int .i64 tenant, .agg (tokL t).toArray, .int .u8 (kind : Int), .int .u64 (now : Int)] w0 fun e w' => e = .returned (.bool true) ∧ Has w0 w' [] := by
  have p2 := fun w h1 h2 hK hP => authz_s v0 v1 l key tenant t kind now w h1 h2 hK hP ht hk hn
  by_cases h : chkR l = 0 ∧ ArgsOk key tenant kind now
  · exact exact_yes v0 v1 l key tenant t kind now _ _ w0 h1 h2 hK hP hk hn p2 (auz_exact l key tenant t kind now h.1 h.2) rfl h.1 h.2
  · exact exact_no v0 v1 l key tenant t kind now _ w0 h1 h2 hK hP hk hn p2 (auz_refused l key tenant t kind now h) h
end Go.Proofs.YtioonimpobcglaaDoor
