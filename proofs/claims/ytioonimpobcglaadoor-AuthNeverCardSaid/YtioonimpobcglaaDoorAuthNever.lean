/- AuthNever: its walk. No condition but the tables and the reach. -/
import Derived.Test.YtioonimpobcglaaDoorBd
import Derived.Test.YtioonimpobcglaaDoorAlv
import Derived.Test.YtioonimpobcglaaDoorBf
set_option linter.unusedSimpArgs false
set_option linter.unusedVariables false
namespace Go.Proofs.YtioonimpobcglaaDoor
open Go.RowKit

theorem chk_of_auz (l : List Mnt) (key : List UInt8) (tenant : Int) (t : Tok) (kind now : Nat) (hw : auzE l key tenant t kind now = 192 ∨ auzE l key tenant t kind now = 193) : chkR l = 0 := by
  rw [auzE_eq] at hw
  by_cases hc : chkR l = 0
  · exact hc
  · rw [if_pos hc] at hw
    rcases chkR_cases l with h | h | h <;> omega

set_option maxRecDepth 100000 in
set_option maxHeartbeats 8000000 in
theorem never_mint (v0 v1 : Value) (l R : List Mnt) (key : List UInt8) (tenant : Int) (t : Tok) (kind now later role N : Nat) (E1 E2 : Int) (w0 : World) (h1 : Rg w0 v0 l) (h2 : Bs w0 v1 key) (hK : KT w0) (hP : PT w0) (hl : now ≤ later)
    (p2 : ∀ w, Rg w v0 l → Bs w v1 key → KT w → PT w → Calls Tryd.prog 29 #[v0, v1, .int .i64 tenant, .agg (tokL t).toArray, .int .u8 (kind : Int), .int .u64 (now : Int)] w fun e w' => e = .returned (.int .i64 E1) ∧ Has w w' [])
    (p3 : ∀ w, Rg w v0 l → Calls Tryd.prog 35 #[v0, .int .u8 (role : Int), .int .u64 1, .int .u64 (now : Int)] w (MadeM3 w R N 0))
    (p4 : ∀ v w, Rg w v R → Bs w v1 key → KT w → PT w → Calls Tryd.prog 29 #[v, v1, .int .i64 tenant, .agg (tokL t).toArray, .int .u8 (kind : Int), .int .u64 (later : Int)] w fun e w' => e = .returned (.int .i64 E2) ∧ Has w w' [])
    (hE : E1 = 192 ∨ E1 = 193) (hE2 : E2 = if 4611686018427387904 < later then 2 else E1) :
    Calls Tryd.prog 11 #[v0, v1, .int .i64 tenant, .agg (tokL t).toArray, .int .u8 (kind : Int), .int .u64 (now : Int), .int .u64 (later : Int), .int .u8 (role : Int)] w0 fun e w' => e = .returned (.bool true) ∧ Has w0 w' [] := by
  have S := Has.start w0
  have p1 := fun w hK hP => alive_s w hK hP
  obtain ⟨a0, c0, rfl, k1, k2⟩ := Sl.shape h1
  obtain ⟨a1, c1, rfl, k3, k4⟩ := Sl.shape h2
  unfold maxLen at k2 k4
  have n1 : ¬ (later : Int) < (now : Int) := by omega
  clear hl
  by_cases hm : 4611686018427387904 < later
  · rw [if_pos hm] at hE2
    have n2 : (4611686018427387904 : Int) < (later : Int) := by omega
    clear hm
    subst hE2
    rcases hE with rfl | rfl
    all_goals
      have H1 := Lib.hid h1; have H2 := Lib.hid h2; have HK := Lib.hid hK; have HP := Lib.hid hP; have P1 := Lib.hid p1; have P2 := Lib.hid p2; have P3 := Lib.hid p3; have P4 := Lib.hid p4; clear h1 h2 hK hP p1 p2 p3 p4
      go_enter Tryd.func11, Tryd.ntmps11
      go_wp2_with (first | ((with_reducible show wpList _ _ _ (⟨some 11, .box 27 (.tmp 3), _, _, _, _⟩ :: _) _ _); refine step_boxA (dst := some 11) S 27 (.tmp 3) _ rfl gw ?_; clear S; intro g11 w S) | (go_at_call 31; (with_reducible refine (P1.out _ (S.kt (Hid.out (by assumption))) (S.pt HP.out)).mono ?_); rintro e w1 ⟨rfl, T⟩; replace S := S.call T; clear T; (try simp only [List.nil_append, List.cons_append] at S)) | ((with_reducible show wpList _ _ _ (⟨_, .load 27 _, _, _, _, _⟩ :: _) _ _); first | (refine step_load S 27 _ _ rfl _ _ _ pk _ Tryd.underlying27 rfl 36 (by kernel_rfl) (by first | rfl | (first | rfl | assumption | (exact Hid.out (by assumption)) | (exact tokL_size _) | (rw [arr8_size]; first | rfl | assumption | (exact Hid.out (by assumption)) | exact tokL_size _ | exact List.length_replicate ..) | (simp [arr8_size]; done))) gw ?_) | (refine step_loadO 27 _ _ rfl _ _ _ (S.old_heap (Hid.out (by assumption))) _ Tryd.underlying27 rfl 36 (by kernel_rfl) (by first | rfl | (first | rfl | assumption | (exact Hid.out (by assumption)) | (exact tokL_size _) | (rw [arr8_size]; first | rfl | assumption | (exact Hid.out (by assumption)) | exact tokL_size _ | exact List.length_replicate ..) | (simp [arr8_size]; done))) gw ?_) | (refine step_loadR 27 _ _ _ rfl _ (S.old_range hy) _ Tryd.underlying27 rfl 36 (by kernel_rfl) (by first | rfl | (first | rfl | assumption | (exact Hid.out (by assumption)) | (exact tokL_size _) | (rw [arr8_size]; first | rfl | assumption | (exact Hid.out (by assumption)) | exact tokL_size _ | exact List.length_replicate ..) | (simp [arr8_size]; done))) _ rfl gw ?_)) | (go_at_call 29; (with_reducible refine (P2.out _ (S.old H1.out) (S.oldB H2.out) (S.kt (Hid.out (by assumption))) (S.pt HP.out)).mono ?_); rintro e w1 ⟨rfl, T⟩; replace S := S.call T; clear T; (try simp only [List.nil_append, List.cons_append] at S)) | (go_at_call 29; (with_reducible refine (P4.out _ _ (by first | assumption | exact S.old (Hid.out (by assumption)) | exact S.sl pk | exact S.sl_rd pk) (S.oldB H2.out) (S.kt (Hid.out (by assumption))) (S.pt HP.out)).mono ?_); rintro e w1 ⟨rfl, T⟩; replace S := S.call T; clear T; (try simp only [List.nil_append, List.cons_append] at S)) | (go_at_call 35; (with_reducible refine (P3.out _ (S.old H1.out)).mono ?_); rintro e w1 ⟨v19, rfl, T⟩; replace S := S.call T; clear T; (try simp only [List.nil_append, List.cons_append] at S); obtain ⟨a19, c19, rfl, k5, k6⟩ := Sl.shape (S.sl (v := v19) pk); unfold maxLen at k6) | fail)
      go_ret
      exact ⟨rfl, S.nil⟩
  · rw [if_neg hm] at hE2
    have n2 : ¬ (4611686018427387904 : Int) < (later : Int) := by omega
    clear hm
    subst hE2
    rcases hE with rfl | rfl
    all_goals
      have H1 := Lib.hid h1; have H2 := Lib.hid h2; have HK := Lib.hid hK; have HP := Lib.hid hP; have P1 := Lib.hid p1; have P2 := Lib.hid p2; have P3 := Lib.hid p3; have P4 := Lib.hid p4; clear h1 h2 hK hP p1 p2 p3 p4
      go_enter Tryd.func11, Tryd.ntmps11
      go_wp2_with (first | ((with_reducible show wpList _ _ _ (⟨some 11, .box 27 (.tmp 3), _, _, _, _⟩ :: _) _ _); refine step_boxA (dst := some 11) S 27 (.tmp 3) _ rfl gw ?_; clear S; intro g11 w S) | (go_at_call 31; (with_reducible refine (P1.out _ (S.kt (Hid.out (by assumption))) (S.pt HP.out)).mono ?_); rintro e w1 ⟨rfl, T⟩; replace S := S.call T; clear T; (try simp only [List.nil_append, List.cons_append] at S)) | ((with_reducible show wpList _ _ _ (⟨_, .load 27 _, _, _, _, _⟩ :: _) _ _); first | (refine step_load S 27 _ _ rfl _ _ _ pk _ Tryd.underlying27 rfl 36 (by kernel_rfl) (by first | rfl | (first | rfl | assumption | (exact Hid.out (by assumption)) | (exact tokL_size _) | (rw [arr8_size]; first | rfl | assumption | (exact Hid.out (by assumption)) | exact tokL_size _ | exact List.length_replicate ..) | (simp [arr8_size]; done))) gw ?_) | (refine step_loadO 27 _ _ rfl _ _ _ (S.old_heap (Hid.out (by assumption))) _ Tryd.underlying27 rfl 36 (by kernel_rfl) (by first | rfl | (first | rfl | assumption | (exact Hid.out (by assumption)) | (exact tokL_size _) | (rw [arr8_size]; first | rfl | assumption | (exact Hid.out (by assumption)) | exact tokL_size _ | exact List.length_replicate ..) | (simp [arr8_size]; done))) gw ?_) | (refine step_loadR 27 _ _ _ rfl _ (S.old_range hy) _ Tryd.underlying27 rfl 36 (by kernel_rfl) (by first | rfl | (first | rfl | assumption | (exact Hid.out (by assumption)) | (exact tokL_size _) | (rw [arr8_size]; first | rfl | assumption | (exact Hid.out (by assumption)) | exact tokL_size _ | exact List.length_replicate ..) | (simp [arr8_size]; done))) _ rfl gw ?_)) | (go_at_call 29; (with_reducible refine (P2.out _ (S.old H1.out) (S.oldB H2.out) (S.kt (Hid.out (by assumption))) (S.pt HP.out)).mono ?_); rintro e w1 ⟨rfl, T⟩; replace S := S.call T; clear T; (try simp only [List.nil_append, List.cons_append] at S)) | (go_at_call 29; (with_reducible refine (P4.out _ _ (by first | assumption | exact S.old (Hid.out (by assumption)) | exact S.sl pk | exact S.sl_rd pk) (S.oldB H2.out) (S.kt (Hid.out (by assumption))) (S.pt HP.out)).mono ?_); rintro e w1 ⟨rfl, T⟩; replace S := S.call T; clear T; (try simp only [List.nil_append, List.cons_append] at S)) | (go_at_call 35; (with_reducible refine (P3.out _ (S.old H1.out)).mono ?_); rintro e w1 ⟨v19, rfl, T⟩; replace S := S.call T; clear T; (try simp only [List.nil_append, List.cons_append] at S); obtain ⟨a19, c19, rfl, k5, k6⟩ := Sl.shape (S.sl (v := v19) pk); unfold maxLen at k6) | fail)
      go_ret
      exact ⟨rfl, S.nil⟩

set_option maxRecDepth 100000 in
set_option maxHeartbeats 8000000 in
theorem never_nomint (v0 v1 : Value) (l : List Mnt) (key : List UInt8) (tenant : Int) (t : Tok) (kind now later role : Nat) (E1 E2 EM : Int) (w0 : World) (h1 : Rg w0 v0 l) (h2 : Bs w0 v1 key) (hK : KT w0) (hP : PT w0) (hl : now ≤ later)
    (p2 : ∀ w, Rg w v0 l → Bs w v1 key → KT w → PT w → Calls Tryd.prog 29 #[v0, v1, .int .i64 tenant, .agg (tokL t).toArray, .int .u8 (kind : Int), .int .u64 (now : Int)] w fun e w' => e = .returned (.int .i64 E1) ∧ Has w w' [])
    (p3 : ∀ w, Rg w v0 l → Calls Tryd.prog 35 #[v0, .int .u8 (role : Int), .int .u64 1, .int .u64 (now : Int)] w (MadeM3 w [] 0 EM))
    (p4 : ∀ w, Rg w v0 l → Bs w v1 key → KT w → PT w → Calls Tryd.prog 29 #[v0, v1, .int .i64 tenant, .agg (tokL t).toArray, .int .u8 (kind : Int), .int .u64 (later : Int)] w fun e w' => e = .returned (.int .i64 E2) ∧ Has w w' [])
    (hE : E1 = 192 ∨ E1 = 193) (hEM : EM ≠ 0) (hE2 : E2 = if 4611686018427387904 < later then 2 else E1) :
    Calls Tryd.prog 11 #[v0, v1, .int .i64 tenant, .agg (tokL t).toArray, .int .u8 (kind : Int), .int .u64 (now : Int), .int .u64 (later : Int), .int .u8 (role : Int)] w0 fun e w' => e = .returned (.bool true) ∧ Has w0 w' [] := by
  have S := Has.start w0
  have p1 := fun w hK hP => alive_s w hK hP
  obtain ⟨a0, c0, rfl, k1, k2⟩ := Sl.shape h1
  obtain ⟨a1, c1, rfl, k3, k4⟩ := Sl.shape h2
  unfold maxLen at k2 k4
  have n1 : ¬ (later : Int) < (now : Int) := by omega
  have n3 : (EM != 0) = true := by simpa using hEM
  clear hl hEM
  by_cases hm : 4611686018427387904 < later
  · rw [if_pos hm] at hE2
    have n2 : (4611686018427387904 : Int) < (later : Int) := by omega
    clear hm
    subst hE2
    rcases hE with rfl | rfl
    all_goals
      have H1 := Lib.hid h1; have H2 := Lib.hid h2; have HK := Lib.hid hK; have HP := Lib.hid hP; have P1 := Lib.hid p1; have P2 := Lib.hid p2; have P3 := Lib.hid p3; have P4 := Lib.hid p4; clear h1 h2 hK hP p1 p2 p3 p4
      go_enter Tryd.func11, Tryd.ntmps11
      go_wp2_with (first | ((with_reducible show wpList _ _ _ (⟨some 11, .box 27 (.tmp 3), _, _, _, _⟩ :: _) _ _); refine step_boxA (dst := some 11) S 27 (.tmp 3) _ rfl gw ?_; clear S; intro g11 w S) | (go_at_call 31; (with_reducible refine (P1.out _ (S.kt (Hid.out (by assumption))) (S.pt HP.out)).mono ?_); rintro e w1 ⟨rfl, T⟩; replace S := S.call T; clear T; (try simp only [List.nil_append, List.cons_append] at S)) | ((with_reducible show wpList _ _ _ (⟨_, .load 27 _, _, _, _, _⟩ :: _) _ _); first | (refine step_load S 27 _ _ rfl _ _ _ pk _ Tryd.underlying27 rfl 36 (by kernel_rfl) (by first | rfl | (first | rfl | assumption | (exact Hid.out (by assumption)) | (exact tokL_size _) | (rw [arr8_size]; first | rfl | assumption | (exact Hid.out (by assumption)) | exact tokL_size _ | exact List.length_replicate ..) | (simp [arr8_size]; done))) gw ?_) | (refine step_loadO 27 _ _ rfl _ _ _ (S.old_heap (Hid.out (by assumption))) _ Tryd.underlying27 rfl 36 (by kernel_rfl) (by first | rfl | (first | rfl | assumption | (exact Hid.out (by assumption)) | (exact tokL_size _) | (rw [arr8_size]; first | rfl | assumption | (exact Hid.out (by assumption)) | exact tokL_size _ | exact List.length_replicate ..) | (simp [arr8_size]; done))) gw ?_) | (refine step_loadR 27 _ _ _ rfl _ (S.old_range hy) _ Tryd.underlying27 rfl 36 (by kernel_rfl) (by first | rfl | (first | rfl | assumption | (exact Hid.out (by assumption)) | (exact tokL_size _) | (rw [arr8_size]; first | rfl | assumption | (exact Hid.out (by assumption)) | exact tokL_size _ | exact List.length_replicate ..) | (simp [arr8_size]; done))) _ rfl gw ?_)) | (go_at_call 29; (with_reducible refine (P2.out _ (S.old H1.out) (S.oldB H2.out) (S.kt (Hid.out (by assumption))) (S.pt HP.out)).mono ?_); rintro e w1 ⟨rfl, T⟩; replace S := S.call T; clear T; (try simp only [List.nil_append, List.cons_append] at S)) | (go_at_call 29; (with_reducible refine (P4.out _ (S.old H1.out) (S.oldB H2.out) (S.kt (Hid.out (by assumption))) (S.pt HP.out)).mono ?_); rintro e w1 ⟨rfl, T⟩; replace S := S.call T; clear T; (try simp only [List.nil_append, List.cons_append] at S)) | (go_at_call 35; (with_reducible refine (P3.out _ (S.old H1.out)).mono ?_); rintro e w1 ⟨v19, rfl, T⟩; replace S := S.call T; clear T; (try simp only [List.nil_append, List.cons_append] at S)) | fail)
      go_ret
      exact ⟨rfl, S.nil⟩
  · rw [if_neg hm] at hE2
    have n2 : ¬ (4611686018427387904 : Int) < (later : Int) := by omega
    clear hm
    subst hE2
    rcases hE with rfl | rfl
    all_goals
      have H1 := Lib.hid h1; have H2 := Lib.hid h2; have HK := Lib.hid hK; have HP := Lib.hid hP; have P1 := Lib.hid p1; have P2 := Lib.hid p2; have P3 := Lib.hid p3; have P4 := Lib.hid p4; clear h1 h2 hK hP p1 p2 p3 p4
      go_enter Tryd.func11, Tryd.ntmps11
      go_wp2_with (first | ((with_reducible show wpList _ _ _ (⟨some 11, .box 27 (.tmp 3), _, _, _, _⟩ :: _) _ _); refine step_boxA (dst := some 11) S 27 (.tmp 3) _ rfl gw ?_; clear S; intro g11 w S) | (go_at_call 31; (with_reducible refine (P1.out _ (S.kt (Hid.out (by assumption))) (S.pt HP.out)).mono ?_); rintro e w1 ⟨rfl, T⟩; replace S := S.call T; clear T; (try simp only [List.nil_append, List.cons_append] at S)) | ((with_reducible show wpList _ _ _ (⟨_, .load 27 _, _, _, _, _⟩ :: _) _ _); first | (refine step_load S 27 _ _ rfl _ _ _ pk _ Tryd.underlying27 rfl 36 (by kernel_rfl) (by first | rfl | (first | rfl | assumption | (exact Hid.out (by assumption)) | (exact tokL_size _) | (rw [arr8_size]; first | rfl | assumption | (exact Hid.out (by assumption)) | exact tokL_size _ | exact List.length_replicate ..) | (simp [arr8_size]; done))) gw ?_) | (refine step_loadO 27 _ _ rfl _ _ _ (S.old_heap (Hid.out (by assumption))) _ Tryd.underlying27 rfl 36 (by kernel_rfl) (by first | rfl | (first | rfl | assumption | (exact Hid.out (by assumption)) | (exact tokL_size _) | (rw [arr8_size]; first | rfl | assumption | (exact Hid.out (by assumption)) | exact tokL_size _ | exact List.length_replicate ..) | (simp [arr8_size]; done))) gw ?_) | (refine step_loadR 27 _ _ _ rfl _ (S.old_range hy) _ Tryd.underlying27 rfl 36 (by kernel_rfl) (by first | rfl | (first | rfl | assumption | (exact Hid.out (by assumption)) | (exact tokL_size _) | (rw [arr8_size]; first | rfl | assumption | (exact Hid.out (by assumption)) | exact tokL_size _ | exact List.length_replicate ..) | (simp [arr8_size]; done))) _ rfl gw ?_)) | (go_at_call 29; (with_reducible refine (P2.out _ (S.old H1.out) (S.oldB H2.out) (S.kt (Hid.out (by assumption))) (S.pt HP.out)).mono ?_); rintro e w1 ⟨rfl, T⟩; replace S := S.call T; clear T; (try simp only [List.nil_append, List.cons_append] at S)) | (go_at_call 29; (with_reducible refine (P4.out _ (S.old H1.out) (S.oldB H2.out) (S.kt (Hid.out (by assumption))) (S.pt HP.out)).mono ?_); rintro e w1 ⟨rfl, T⟩; replace S := S.call T; clear T; (try simp only [List.nil_append, List.cons_append] at S)) | (go_at_call 35; (with_reducible refine (P3.out _ (S.old H1.out)).mono ?_); rintro e w1 ⟨v19, rfl, T⟩; replace S := S.call T; clear T; (try simp only [List.nil_append, List.cons_append] at S)) | fail)
      go_ret
      exact ⟨rfl, S.nil⟩

set_option maxRecDepth 100000 in
set_option maxHeartbeats 8000000 in
theorem never_skip (v0 v1 : Value) (l : List Mnt) (key : List UInt8) (tenant : Int) (t : Tok) (kind now later role : Nat) (E1 : Int) (w0 : World) (h1 : Rg w0 v0 l) (h2 : Bs w0 v1 key) (hK : KT w0) (hP : PT w0)
    (p2 : ∀ w, Rg w v0 l → Bs w v1 key → KT w → PT w → Calls Tryd.prog 29 #[v0, v1, .int .i64 tenant, .agg (tokL t).toArray, .int .u8 (kind : Int), .int .u64 (now : Int)] w fun e w' => e = .returned (.int .i64 E1) ∧ Has w w' [])
    (hE : later < now ∨ (E1 ≠ 192 ∧ E1 ≠ 193)) :
    Calls Tryd.prog 11 #[v0, v1, .int .i64 tenant, .agg (tokL t).toArray, .int .u8 (kind : Int), .int .u64 (now : Int), .int .u64 (later : Int), .int .u8 (role : Int)] w0 fun e w' => e = .returned (.bool true) ∧ Has w0 w' [] := by
  have S := Has.start w0
  have p1 := fun w hK hP => alive_s w hK hP
  obtain ⟨a0, c0, rfl, k1, k2⟩ := Sl.shape h1
  obtain ⟨a1, c1, rfl, k3, k4⟩ := Sl.shape h2
  unfold maxLen at k2 k4
  by_cases hn : E1 ≠ 192 ∧ E1 ≠ 193
  · have n1 : (E1 != 192) = true := by simpa using hn.1
    have n2 : (E1 != 193) = true := by simpa using hn.2
    clear hE hn
    have H1 := Lib.hid h1; have H2 := Lib.hid h2; have HK := Lib.hid hK; have HP := Lib.hid hP; have P1 := Lib.hid p1; have P2 := Lib.hid p2; clear h1 h2 hK hP p1 p2
    go_enter Tryd.func11, Tryd.ntmps11
    go_wp2_with (first | ((with_reducible show wpList _ _ _ (⟨some 11, .box 27 (.tmp 3), _, _, _, _⟩ :: _) _ _); refine step_boxA (dst := some 11) S 27 (.tmp 3) _ rfl gw ?_; clear S; intro g11 w S) | (go_at_call 31; (with_reducible refine (P1.out _ (S.kt (Hid.out (by assumption))) (S.pt HP.out)).mono ?_); rintro e w1 ⟨rfl, T⟩; replace S := S.call T; clear T; (try simp only [List.nil_append, List.cons_append] at S)) | ((with_reducible show wpList _ _ _ (⟨_, .load 27 _, _, _, _, _⟩ :: _) _ _); first | (refine step_load S 27 _ _ rfl _ _ _ pk _ Tryd.underlying27 rfl 36 (by kernel_rfl) (by first | rfl | (first | rfl | assumption | (exact Hid.out (by assumption)) | (exact tokL_size _) | (rw [arr8_size]; first | rfl | assumption | (exact Hid.out (by assumption)) | exact tokL_size _ | exact List.length_replicate ..) | (simp [arr8_size]; done))) gw ?_) | (refine step_loadO 27 _ _ rfl _ _ _ (S.old_heap (Hid.out (by assumption))) _ Tryd.underlying27 rfl 36 (by kernel_rfl) (by first | rfl | (first | rfl | assumption | (exact Hid.out (by assumption)) | (exact tokL_size _) | (rw [arr8_size]; first | rfl | assumption | (exact Hid.out (by assumption)) | exact tokL_size _ | exact List.length_replicate ..) | (simp [arr8_size]; done))) gw ?_) | (refine step_loadR 27 _ _ _ rfl _ (S.old_range hy) _ Tryd.underlying27 rfl 36 (by kernel_rfl) (by first | rfl | (first | rfl | assumption | (exact Hid.out (by assumption)) | (exact tokL_size _) | (rw [arr8_size]; first | rfl | assumption | (exact Hid.out (by assumption)) | exact tokL_size _ | exact List.length_replicate ..) | (simp [arr8_size]; done))) _ rfl gw ?_)) | (go_at_call 29; (with_reducible refine (P2.out _ (S.old H1.out) (S.oldB H2.out) (S.kt (Hid.out (by assumption))) (S.pt HP.out)).mono ?_); rintro e w1 ⟨rfl, T⟩; replace S := S.call T; clear T; (try simp only [List.nil_append, List.cons_append] at S)) | fail)
    go_ret
    exact ⟨rfl, S.nil⟩
  · have n3 : (later : Int) < (now : Int) := by
      rcases hE with h | h
      · omega
      · exact absurd h hn
    have hc : E1 = 192 ∨ E1 = 193 := by omega
    clear hE hn
    rcases hc with rfl | rfl
    all_goals
      have H1 := Lib.hid h1; have H2 := Lib.hid h2; have HK := Lib.hid hK; have HP := Lib.hid hP; have P1 := Lib.hid p1; have P2 := Lib.hid p2; clear h1 h2 hK hP p1 p2
      go_enter Tryd.func11, Tryd.ntmps11
      go_wp2_with (first | ((with_reducible show wpList _ _ _ (⟨some 11, .box 27 (.tmp 3), _, _, _, _⟩ :: _) _ _); refine step_boxA (dst := some 11) S 27 (.tmp 3) _ rfl gw ?_; clear S; intro g11 w S) | (go_at_call 31; (with_reducible refine (P1.out _ (S.kt (Hid.out (by assumption))) (S.pt HP.out)).mono ?_); rintro e w1 ⟨rfl, T⟩; replace S := S.call T; clear T; (try simp only [List.nil_append, List.cons_append] at S)) | ((with_reducible show wpList _ _ _ (⟨_, .load 27 _, _, _, _, _⟩ :: _) _ _); first | (refine step_load S 27 _ _ rfl _ _ _ pk _ Tryd.underlying27 rfl 36 (by kernel_rfl) (by first | rfl | (first | rfl | assumption | (exact Hid.out (by assumption)) | (exact tokL_size _) | (rw [arr8_size]; first | rfl | assumption | (exact Hid.out (by assumption)) | exact tokL_size _ | exact List.length_replicate ..) | (simp [arr8_size]; done))) gw ?_) | (refine step_loadO 27 _ _ rfl _ _ _ (S.old_heap (Hid.out (by assumption))) _ Tryd.underlying27 rfl 36 (by kernel_rfl) (by first | rfl | (first | rfl | assumption | (exact Hid.out (by assumption)) | (exact tokL_size _) | (rw [arr8_size]; first | rfl | assumption | (exact Hid.out (by assumption)) | exact tokL_size _ | exact List.length_replicate ..) | (simp [arr8_size]; done))) gw ?_) | (refine step_loadR 27 _ _ _ rfl _ (S.old_range hy) _ Tryd.underlying27 rfl 36 (by kernel_rfl) (by first | rfl | (first | rfl | assumption | (exact Hid.out (by assumption)) | (exact tokL_size _) | (rw [arr8_size]; first | rfl | assumption | (exact Hid.out (by assumption)) | exact tokL_size _ | exact List.length_replicate ..) | (simp [arr8_size]; done))) _ rfl gw ?_)) | (go_at_call 29; (with_reducible refine (P2.out _ (S.old H1.out) (S.oldB H2.out) (S.kt (Hid.out (by assumption))) (S.pt HP.out)).mono ?_); rintro e w1 ⟨rfl, T⟩; replace S := S.call T; clear T; (try simp only [List.nil_append, List.cons_append] at S)) | fail)
      go_ret
      exact ⟨rfl, S.nil⟩

theorem authNever_walk (v0 v1 : Value) (l : List Mnt) (key : List UInt8) (tenant : Int) (t : Tok) (kind now later role : Nat) (w0 : World) (h1 : Rg w0 v0 l) (h2 : Bs w0 v1 key) (hK : KT w0) (hP : PT w0)
    (ht : -9223372036854775808 ≤ tenant ∧ tenant ≤ 9223372036854775807) (hk : kind < 256) (hn : now < 18446744073709551616) (hla : later < 18446744073709551616) (hr : role < 256) :
    Calls Tryd.prog 11 #[v0, v1, .int .i64 tenant, .agg (tokL t).toArray, .int .u8 (kind : Int), .int .u64 (now : Int), .int .u64 (later : Int), .int .u8 (role : Int)] w0 fun e w' => e = .returned (.bool true) ∧ Has w0 w' [] := by
  have p2 := fun w h1 h2 hK hP => authz_s v0 v1 l key tenant t kind now w h1 h2 hK hP ht hk hn
  by_cases hE : auzE l key tenant t kind now = 192 ∨ auzE l key tenant t kind now = 193
  · by_cases hl : now ≤ later
    · have hc := chk_of_auz l key tenant t kind now hE
      by_cases hm : mintE l role 1 now = 0
      · have p3 : ∀ w, Rg w v0 l → Calls Tryd.prog 35 #[v0, .int .u8 (role : Int), .int .u64 1, .int .u64 (now : Int)] w (MadeM3 w (l ++ [mintM role 1 now]) (l.length + 1) 0) := fun w h => by
          have := mint_r v0 l role 1 now w h hr (by decide) hn
          rw [hm, show mintR l role 1 now = l ++ [mintM role 1 now] from if_pos hm, show mintN l role 1 now = l.length + 1 from if_pos hm] at this
          exact this
        refine never_mint v0 v1 l (l ++ [mintM role 1 now]) key tenant t kind now later role (l.length + 1) _ _ w0 h1 h2 hK hP hl p2 p3 (fun v w h1 h2 hK hP => authz_s v v1 _ key tenant t kind later w h1 h2 hK hP ht hk hla) hE ?_
        refine auz_never l _ key tenant t kind now later (mint_chk l role 1 now hm) (fun x hx => ?_) hl hE
        rw [entR_append]
        · exact hx
        · have := entR_lt l _ x hx; omega
      · have p3 : ∀ w, Rg w v0 l → Calls Tryd.prog 35 #[v0, .int .u8 (role : Int), .int .u64 1, .int .u64 (now : Int)] w (MadeM3 w [] 0 (mintE l role 1 now)) := fun w h => by
          have := mint_r v0 l role 1 now w h hr (by decide) hn
          rw [show mintR l role 1 now = [] from if_neg hm, show mintN l role 1 now = 0 from if_neg hm] at this
          exact this
        refine never_nomint v0 v1 l key tenant t kind now later role _ _ _ w0 h1 h2 hK hP hl p2 p3 (fun w h1 h2 hK hP => authz_s v0 v1 l key tenant t kind later w h1 h2 hK hP ht hk hla) hE hm ?_
        exact auz_never l l key tenant t kind now later hc (fun x hx => hx) hl hE
    · exact never_skip v0 v1 l key tenant t kind now later role _ w0 h1 h2 hK hP p2 (.inl (by omega))
  · exact never_skip v0 v1 l key tenant t kind now later role _ w0 h1 h2 hK hP p2 (.inr ⟨fun h => hE (.inl h), fun h => hE (.inr h)⟩)
end Go.Proofs.YtioonimpobcglaaDoor
