/- AuthLive: its walk. No condition but the tables and the reach. -/
import Derived.Test.YtioonimpobcglaaDoorBd
import Derived.Test.YtioonimpobcglaaDoorAlv
import Derived.Test.YtioonimpobcglaaDoorIssue
import Derived.Test.YtioonimpobcglaaDoorRingF
set_option linter.unusedSimpArgs false
set_option linter.unusedVariables false
namespace Go.Proofs.YtioonimpobcglaaDoor
open Go.RowKit

theorem liveK_step (l : List Mnt) (now k : Nat) (x : Mnt) (hx : l[k]? = some x) : liveK l now (k + 1) = liveK l now k ++ (if liveB now x then [UInt32.ofNat (k + 1)] else []) := by
  show liveK l now k ++ (match l[k]? with | some m => if liveB now m then [UInt32.ofNat (k + 1)] else [] | none => []) = _
  rw [hx]

theorem liveK_at (l : List Mnt) (now k : Nat) (x : Mnt) (hx : l[k]? = some x) (hb : liveB now x = true) : ∀ n, k < n → (liveK l now n)[(liveK l now k).length]? = some (UInt32.ofNat (k + 1)) := by
  intro n
  induction n with
  | zero => intro h; omega
  | succ n ih =>
    intro h
    by_cases hk : k = n
    · subst hk
      rw [liveK_step l now k x hx, if_pos hb]
      simp
    · have := ih (by omega)
      show (liveK l now n ++ _)[(liveK l now k).length]? = _
      have hlt := (List.getElem?_eq_some_iff.1 this).1
      rw [List.getElem?_append_left hlt]
      exact this

set_option maxRecDepth 100000 in
set_option maxHeartbeats 8000000 in
theorem live_out (v0 v1 : Value) (l : List Mnt) (key : List UInt8) (tenant : Int) (now : Nat) (w0 : World) (h1 : Rg w0 v0 l) (h2 : Bs w0 v1 key) (hK : KT w0) (hP : PT w0) (hn : now < 18446744073709551616)
    (hno : ¬ (chkR l = 0 ∧ ArgsOk key tenant 4 now)) :
    Calls Tryd.prog 13 #[v0, v1, .int .i64 tenant, .int .u64 (now : Int)] w0 fun e w' => e = .returned (.bool true) ∧ Has w0 w' [] := by
  have S := Has.start w0
  have p1 := fun w hK hP => alive_s w hK hP
  have p2 := fun w h => live_r v0 l now w h hn
  have p3 := fun v w h => valid_s v l w h
  by_cases hL : liveE l now = 0
  · have hc : chkR l = 0 ∧ now ≤ 4611686018427387904 := by
      unfold liveE at hL
      split at hL
      · omega
      · split at hL
        · cases hL
        · exact ⟨by omega, by omega⟩
    have hbad : tenant < 0 ∨ 3 ≤ tenant ∨ key.length < 1 ∨ 64 < key.length := by
      by_cases g : tenant < 0 ∨ 3 ≤ tenant ∨ key.length < 1 ∨ 64 < key.length
      · exact g
      · exact absurd ⟨hc.1, by omega, by omega, by omega, by omega, hc.2, decide_eq_true (by omega)⟩ hno
    rw [hL] at p2
    rw [hc.1, show ((0 : Int) == 0) = true from rfl] at p3
    have n1 : ¬ (4611686018427387904 : Int) < (now : Int) := by omega
    have HX := Lib.hid hbad
    obtain ⟨a0, c0, rfl, k1, k2⟩ := Sl.shape h1
    obtain ⟨a1, c1, rfl, k3, k4⟩ := Sl.shape h2
    unfold maxLen at k2 k4
    clear hno hc hbad hL
    have H1 := Lib.hid h1; have H2 := Lib.hid h2; have HK := Lib.hid hK; have HP := Lib.hid hP; have P1 := Lib.hid p1; have P2 := Lib.hid p2; have P3 := Lib.hid p3; clear h1 h2 hK hP p1 p2 p3
    go_enter Tryd.func13, Tryd.ntmps13
    go_wp2_with (first | (go_at_call 31; (with_reducible refine (P1.out _ (S.kt (Hid.out (by assumption))) (S.pt HP.out)).mono ?_); rintro e w1 ⟨rfl, T⟩; replace S := S.call T; clear T; (try simp only [List.nil_append, List.cons_append] at S)) | (go_at_call 38; (with_reducible refine (P2.out _ (S.old H1.out)).mono ?_); rintro e w1 ⟨v10, rfl, T⟩; replace S := S.call T; clear T; (try simp only [List.nil_append, List.cons_append] at S)) | (go_at_call 33; (with_reducible refine (P3.out _ _ (by first | assumption | exact S.old (Hid.out (by assumption)) | exact S.sl pk | exact S.sl_rd pk)).mono ?_); rintro e w1 ⟨rfl, T⟩; replace S := S.call T; clear T; (try simp only [List.nil_append, List.cons_append] at S)) | ((with_reducible show wpList _ _ _ (⟨_, .load 5 _, _, _, _, _⟩ :: _) _ _); first | (refine step_load1 5 _ _ _ rfl (S.cell pk co) _ Tryd.underlying5 rfl gw ?_) | (refine step_load1 5 _ _ _ rfl (S.row_cell pk _ _ hyr) _ Tryd.underlying5 rfl gw ?_) | (refine step_load1 5 _ _ _ rfl (S.row_cellS pk _ _ hy) _ Tryd.underlying5 rfl gw ?_) | (refine step_load1 5 _ _ _ rfl (S.old_cell hy) _ Tryd.underlying5 rfl gw ?_)) | ((with_reducible show wpList _ _ _ (⟨_, .load 23 _, _, _, _, _⟩ :: _) _ _); first | (refine step_load1 23 _ _ _ rfl (S.cell pk co) _ Tryd.underlying23 rfl gw ?_) | (refine step_load1 23 _ _ _ rfl (S.row_cell pk _ _ hyr) _ Tryd.underlying23 rfl gw ?_) | (refine step_load1 23 _ _ _ rfl (S.row_cellS pk _ _ hy) _ Tryd.underlying23 rfl gw ?_) | (refine step_load1 23 _ _ _ rfl (S.old_cell hy) _ Tryd.underlying23 rfl gw ?_)) | ((with_reducible show wpList _ _ _ (⟨some 14, .alloc 27, _, _, _, _⟩ :: _) _ _); refine step_alloc (dst := some 14) S 27 (.agg ((tokL tokZ).toArray)) ((tokL tokZ).toArray) (by kernel_rfl) rfl gw ?_; clear S; intro g14 w S) | ((with_reducible show wpList _ _ _ (⟨none, .store 27 (.tmp 14) (.tmp 84), _, _, _, _⟩ :: _) _ _); refine step_store S 27 (.tmp 14) (.tmp 84) _ _ rfl rfl _ _ pk 36 (by kernel_rfl) (by first | rfl | (first | rfl | assumption | (exact Hid.out (by assumption)) | (exact tokL_size _) | (rw [arr8_size]; first | rfl | assumption | (exact Hid.out (by assumption)) | exact tokL_size _ | exact List.length_replicate ..) | (simp [arr8_size]; done))) (by first | rfl | (first | rfl | assumption | (exact Hid.out (by assumption)) | (exact tokL_size _) | (rw [arr8_size]; first | rfl | assumption | (exact Hid.out (by assumption)) | exact tokL_size _ | exact List.length_replicate ..) | (simp [arr8_size]; done))) on1 gw ?_; clear S; intro w S) | ((with_reducible show wpList _ _ _ (⟨_, .load 27 _, _, _, _, _⟩ :: _) _ _); first | (refine step_load S 27 _ _ rfl _ _ _ pk _ Tryd.underlying27 rfl 36 (by kernel_rfl) (by first | rfl | (first | rfl | assumption | (exact Hid.out (by assumption)) | (exact tokL_size _) | (rw [arr8_size]; first | rfl | assumption | (exact Hid.out (by assumption)) | exact tokL_size _ | exact List.length_replicate ..) | (simp [arr8_size]; done))) gw ?_) | (refine step_loadO 27 _ _ rfl _ _ _ (S.old_heap (Hid.out (by assumption))) _ Tryd.underlying27 rfl 36 (by kernel_rfl) (by first | rfl | (first | rfl | assumption | (exact Hid.out (by assumption)) | (exact tokL_size _) | (rw [arr8_size]; first | rfl | assumption | (exact Hid.out (by assumption)) | exact tokL_size _ | exact List.length_replicate ..) | (simp [arr8_size]; done))) gw ?_) | (refine step_loadR 27 _ _ _ rfl _ (S.old_range hy) _ Tryd.underlying27 rfl 36 (by kernel_rfl) (by first | rfl | (first | rfl | assumption | (exact Hid.out (by assumption)) | (exact tokL_size _) | (rw [arr8_size]; first | rfl | assumption | (exact Hid.out (by assumption)) | exact tokL_size _ | exact List.length_replicate ..) | (simp [arr8_size]; done))) _ rfl gw ?_)) | ((with_reducible show wpList _ _ _ (⟨_, .load 24 _, _, _, _, _⟩ :: _) _ _); first | (refine step_load1 24 _ _ _ rfl (S.cell pk co) _ Tryd.underlying24 rfl gw ?_) | (refine step_load1 24 _ _ _ rfl (S.row_cell pk _ _ hyr) _ Tryd.underlying24 rfl gw ?_) | (refine step_load1 24 _ _ _ rfl (S.row_cellS pk _ _ hy) _ Tryd.underlying24 rfl gw ?_) | (refine step_load1 24 _ _ _ rfl (S.old_cell hy) _ Tryd.underlying24 rfl gw ?_)) | fail)
    all_goals first
      | (go_ret; exact ⟨rfl, S.nil⟩)
      | (exfalso; have := HX.out; omega)
  · rw [show liveR l now = [] from if_neg hL] at p2
    have hv : (chkR l == 0) = false ∨ (chkR l == 0) = true ∧ 4611686018427387904 < now := by
      unfold liveE at hL
      by_cases hc : chkR l = 0
      · right
        rw [if_neg (by omega)] at hL
        refine ⟨by simpa using hc, ?_⟩
        by_cases g : 4611686018427387904 < now
        · exact g
        · rw [if_neg g] at hL; exact absurd rfl hL
      · left; simpa using hc
    obtain ⟨E, hE⟩ : ∃ E, E = liveE l now := ⟨_, rfl⟩
    rw [← hE] at p2 hL
    have n2 : (E != 0) = true := by simpa using hL
    obtain ⟨a0, c0, rfl, k1, k2⟩ := Sl.shape h1
    obtain ⟨a1, c1, rfl, k3, k4⟩ := Sl.shape h2
    unfold maxLen at k2 k4
    generalize (chkR l == 0) = CB at p3 hv
    clear hE hL hno
    rcases hv with rfl | ⟨rfl, hv⟩
    · have H1 := Lib.hid h1; have H2 := Lib.hid h2; have HK := Lib.hid hK; have HP := Lib.hid hP; have P1 := Lib.hid p1; have P2 := Lib.hid p2; have P3 := Lib.hid p3; clear h1 h2 hK hP p1 p2 p3
      go_enter Tryd.func13, Tryd.ntmps13
      go_wp2_with (first | (go_at_call 31; (with_reducible refine (P1.out _ (S.kt (Hid.out (by assumption))) (S.pt HP.out)).mono ?_); rintro e w1 ⟨rfl, T⟩; replace S := S.call T; clear T; (try simp only [List.nil_append, List.cons_append] at S)) | (go_at_call 38; (with_reducible refine (P2.out _ (S.old H1.out)).mono ?_); rintro e w1 ⟨v10, rfl, T⟩; replace S := S.call T; clear T; (try simp only [List.nil_append, List.cons_append] at S); obtain ⟨a10, c10, rfl, k10, k11⟩ := Sl.shape (S.sl (v := v10) pk)) | (go_at_call 33; (with_reducible refine (P3.out _ _ (by first | assumption | exact S.old (Hid.out (by assumption)) | exact S.sl pk | exact S.sl_rd pk)).mono ?_); rintro e w1 ⟨rfl, T⟩; replace S := S.call T; clear T; (try simp only [List.nil_append, List.cons_append] at S)) | ((with_reducible show wpList _ _ _ (⟨_, .load 5 _, _, _, _, _⟩ :: _) _ _); first | (refine step_load1 5 _ _ _ rfl (S.cell pk co) _ Tryd.underlying5 rfl gw ?_) | (refine step_load1 5 _ _ _ rfl (S.row_cell pk _ _ hyr) _ Tryd.underlying5 rfl gw ?_) | (refine step_load1 5 _ _ _ rfl (S.row_cellS pk _ _ hy) _ Tryd.underlying5 rfl gw ?_) | (refine step_load1 5 _ _ _ rfl (S.old_cell hy) _ Tryd.underlying5 rfl gw ?_)) | ((with_reducible show wpList _ _ _ (⟨_, .load 23 _, _, _, _, _⟩ :: _) _ _); first | (refine step_load1 23 _ _ _ rfl (S.cell pk co) _ Tryd.underlying23 rfl gw ?_) | (refine step_load1 23 _ _ _ rfl (S.row_cell pk _ _ hyr) _ Tryd.underlying23 rfl gw ?_) | (refine step_load1 23 _ _ _ rfl (S.row_cellS pk _ _ hy) _ Tryd.underlying23 rfl gw ?_) | (refine step_load1 23 _ _ _ rfl (S.old_cell hy) _ Tryd.underlying23 rfl gw ?_)) | ((with_reducible show wpList _ _ _ (⟨some 14, .alloc 27, _, _, _, _⟩ :: _) _ _); refine step_alloc (dst := some 14) S 27 (.agg ((tokL tokZ).toArray)) ((tokL tokZ).toArray) (by kernel_rfl) rfl gw ?_; clear S; intro g14 w S) | ((with_reducible show wpList _ _ _ (⟨none, .store 27 (.tmp 14) (.tmp 84), _, _, _, _⟩ :: _) _ _); refine step_store S 27 (.tmp 14) (.tmp 84) _ _ rfl rfl _ _ pk 36 (by kernel_rfl) (by first | rfl | (first | rfl | assumption | (exact Hid.out (by assumption)) | (exact tokL_size _) | (rw [arr8_size]; first | rfl | assumption | (exact Hid.out (by assumption)) | exact tokL_size _ | exact List.length_replicate ..) | (simp [arr8_size]; done))) (by first | rfl | (first | rfl | assumption | (exact Hid.out (by assumption)) | (exact tokL_size _) | (rw [arr8_size]; first | rfl | assumption | (exact Hid.out (by assumption)) | exact tokL_size _ | exact List.length_replicate ..) | (simp [arr8_size]; done))) on1 gw ?_; clear S; intro w S) | ((with_reducible show wpList _ _ _ (⟨_, .load 27 _, _, _, _, _⟩ :: _) _ _); first | (refine step_load S 27 _ _ rfl _ _ _ pk _ Tryd.underlying27 rfl 36 (by kernel_rfl) (by first | rfl | (first | rfl | assumption | (exact Hid.out (by assumption)) | (exact tokL_size _) | (rw [arr8_size]; first | rfl | assumption | (exact Hid.out (by assumption)) | exact tokL_size _ | exact List.length_replicate ..) | (simp [arr8_size]; done))) gw ?_) | (refine step_loadO 27 _ _ rfl _ _ _ (S.old_heap (Hid.out (by assumption))) _ Tryd.underlying27 rfl 36 (by kernel_rfl) (by first | rfl | (first | rfl | assumption | (exact Hid.out (by assumption)) | (exact tokL_size _) | (rw [arr8_size]; first | rfl | assumption | (exact Hid.out (by assumption)) | exact tokL_size _ | exact List.length_replicate ..) | (simp [arr8_size]; done))) gw ?_) | (refine step_loadR 27 _ _ _ rfl _ (S.old_range hy) _ Tryd.underlying27 rfl 36 (by kernel_rfl) (by first | rfl | (first | rfl | assumption | (exact Hid.out (by assumption)) | (exact tokL_size _) | (rw [arr8_size]; first | rfl | assumption | (exact Hid.out (by assumption)) | exact tokL_size _ | exact List.length_replicate ..) | (simp [arr8_size]; done))) _ rfl gw ?_)) | ((with_reducible show wpList _ _ _ (⟨_, .load 24 _, _, _, _, _⟩ :: _) _ _); first | (refine step_load1 24 _ _ _ rfl (S.cell pk co) _ Tryd.underlying24 rfl gw ?_) | (refine step_load1 24 _ _ _ rfl (S.row_cell pk _ _ hyr) _ Tryd.underlying24 rfl gw ?_) | (refine step_load1 24 _ _ _ rfl (S.row_cellS pk _ _ hy) _ Tryd.underlying24 rfl gw ?_) | (refine step_load1 24 _ _ _ rfl (S.old_cell hy) _ Tryd.underlying24 rfl gw ?_)) | fail)
      go_ret
      exact ⟨rfl, S.nil⟩
    · have n1 : (4611686018427387904 : Int) < (now : Int) := by omega
      clear hv
      have H1 := Lib.hid h1; have H2 := Lib.hid h2; have HK := Lib.hid hK; have HP := Lib.hid hP; have P1 := Lib.hid p1; have P2 := Lib.hid p2; have P3 := Lib.hid p3; clear h1 h2 hK hP p1 p2 p3
      go_enter Tryd.func13, Tryd.ntmps13
      go_wp2_with (first | (go_at_call 31; (with_reducible refine (P1.out _ (S.kt (Hid.out (by assumption))) (S.pt HP.out)).mono ?_); rintro e w1 ⟨rfl, T⟩; replace S := S.call T; clear T; (try simp only [List.nil_append, List.cons_append] at S)) | (go_at_call 38; (with_reducible refine (P2.out _ (S.old H1.out)).mono ?_); rintro e w1 ⟨v10, rfl, T⟩; replace S := S.call T; clear T; (try simp only [List.nil_append, List.cons_append] at S); obtain ⟨a10, c10, rfl, k10, k11⟩ := Sl.shape (S.sl (v := v10) pk)) | (go_at_call 33; (with_reducible refine (P3.out _ _ (by first | assumption | exact S.old (Hid.out (by assumption)) | exact S.sl pk | exact S.sl_rd pk)).mono ?_); rintro e w1 ⟨rfl, T⟩; replace S := S.call T; clear T; (try simp only [List.nil_append, List.cons_append] at S)) | ((with_reducible show wpList _ _ _ (⟨_, .load 5 _, _, _, _, _⟩ :: _) _ _); first | (refine step_load1 5 _ _ _ rfl (S.cell pk co) _ Tryd.underlying5 rfl gw ?_) | (refine step_load1 5 _ _ _ rfl (S.row_cell pk _ _ hyr) _ Tryd.underlying5 rfl gw ?_) | (refine step_load1 5 _ _ _ rfl (S.row_cellS pk _ _ hy) _ Tryd.underlying5 rfl gw ?_) | (refine step_load1 5 _ _ _ rfl (S.old_cell hy) _ Tryd.underlying5 rfl gw ?_)) | ((with_reducible show wpList _ _ _ (⟨_, .load 23 _, _, _, _, _⟩ :: _) _ _); first | (refine step_load1 23 _ _ _ rfl (S.cell pk co) _ Tryd.underlying23 rfl gw ?_) | (refine step_load1 23 _ _ _ rfl (S.row_cell pk _ _ hyr) _ Tryd.underlying23 rfl gw ?_) | (refine step_load1 23 _ _ _ rfl (S.row_cellS pk _ _ hy) _ Tryd.underlying23 rfl gw ?_) | (refine step_load1 23 _ _ _ rfl (S.old_cell hy) _ Tryd.underlying23 rfl gw ?_)) | ((with_reducible show wpList _ _ _ (⟨some 14, .alloc 27, _, _, _, _⟩ :: _) _ _); refine step_alloc (dst := some 14) S 27 (.agg ((tokL tokZ).toArray)) ((tokL tokZ).toArray) (by kernel_rfl) rfl gw ?_; clear S; intro g14 w S) | ((with_reducible show wpList _ _ _ (⟨none, .store 27 (.tmp 14) (.tmp 84), _, _, _, _⟩ :: _) _ _); refine step_store S 27 (.tmp 14) (.tmp 84) _ _ rfl rfl _ _ pk 36 (by kernel_rfl) (by first | rfl | (first | rfl | assumption | (exact Hid.out (by assumption)) | (exact tokL_size _) | (rw [arr8_size]; first | rfl | assumption | (exact Hid.out (by assumption)) | exact tokL_size _ | exact List.length_replicate ..) | (simp [arr8_size]; done))) (by first | rfl | (first | rfl | assumption | (exact Hid.out (by assumption)) | (exact tokL_size _) | (rw [arr8_size]; first | rfl | assumption | (exact Hid.out (by assumption)) | exact tokL_size _ | exact List.length_replicate ..) | (simp [arr8_size]; done))) on1 gw ?_; clear S; intro w S) | ((with_reducible show wpList _ _ _ (⟨_, .load 27 _, _, _, _, _⟩ :: _) _ _); first | (refine step_load S 27 _ _ rfl _ _ _ pk _ Tryd.underlying27 rfl 36 (by kernel_rfl) (by first | rfl | (first | rfl | assumption | (exact Hid.out (by assumption)) | (exact tokL_size _) | (rw [arr8_size]; first | rfl | assumption | (exact Hid.out (by assumption)) | exact tokL_size _ | exact List.length_replicate ..) | (simp [arr8_size]; done))) gw ?_) | (refine step_loadO 27 _ _ rfl _ _ _ (S.old_heap (Hid.out (by assumption))) _ Tryd.underlying27 rfl 36 (by kernel_rfl) (by first | rfl | (first | rfl | assumption | (exact Hid.out (by assumption)) | (exact tokL_size _) | (rw [arr8_size]; first | rfl | assumption | (exact Hid.out (by assumption)) | exact tokL_size _ | exact List.length_replicate ..) | (simp [arr8_size]; done))) gw ?_) | (refine step_loadR 27 _ _ _ rfl _ (S.old_range hy) _ Tryd.underlying27 rfl 36 (by kernel_rfl) (by first | rfl | (first | rfl | assumption | (exact Hid.out (by assumption)) | (exact tokL_size _) | (rw [arr8_size]; first | rfl | assumption | (exact Hid.out (by assumption)) | exact tokL_size _ | exact List.length_replicate ..) | (simp [arr8_size]; done))) _ rfl gw ?_)) | ((with_reducible show wpList _ _ _ (⟨_, .load 24 _, _, _, _, _⟩ :: _) _ _); first | (refine step_load1 24 _ _ _ rfl (S.cell pk co) _ Tryd.underlying24 rfl gw ?_) | (refine step_load1 24 _ _ _ rfl (S.row_cell pk _ _ hyr) _ Tryd.underlying24 rfl gw ?_) | (refine step_load1 24 _ _ _ rfl (S.row_cellS pk _ _ hy) _ Tryd.underlying24 rfl gw ?_) | (refine step_load1 24 _ _ _ rfl (S.old_cell hy) _ Tryd.underlying24 rfl gw ?_)) | fail)
      go_ret
      exact ⟨rfl, S.nil⟩

set_option maxRecDepth 100000 in
set_option maxHeartbeats 16000000 in
theorem live_in (v0 v1 : Value) (l : List Mnt) (key : List UInt8) (tenant : Int) (now : Nat) (w0 : World) (h1 : Rg w0 v0 l) (h2 : Bs w0 v1 key) (hK : KT w0) (hP : PT w0) (hn : now < 18446744073709551616)
    (hc : chkR l = 0) (ha : ArgsOk key tenant 4 now) (ht : -9223372036854775808 ≤ tenant ∧ tenant ≤ 9223372036854775807) :
    Calls Tryd.prog 13 #[v0, v1, .int .i64 tenant, .int .u64 (now : Int)] w0 fun e w' => e = .returned (.bool true) ∧ Has w0 w' [] := by
  have S := Has.start w0
  have hlen := chkR_len l hc
  have hL : liveE l now = 0 := by
    unfold liveE
    rw [if_neg (by omega), if_neg (by have := ha.2.2.2.2.1; omega)]
  have p1 := fun w hK hP => alive_s w hK hP
  have p2 := fun w h => live_r v0 l now w h hn
  rw [hL, show liveR l now = liveK l now l.length from if_pos hL] at p2
  have p3 := fun v w h => valid_s v l w h
  rw [hc, show ((0 : Int) == 0) = true from rfl] at p3
  have p4 := fun t w h => sign_s v1 key t w h
  simp only [show snE key = 0 from if_pos ha.2.2.2.2.2, show ∀ t, snT key t = sgT key t from fun t => if_pos ha.2.2.2.2.2] at p4
  have p5 : ∀ (t : Tok) w, Rg w v0 l → Bs w v1 key → KT w → PT w → Calls Tryd.prog 29 #[v0, v1, .int .i64 tenant, .agg (tokL t).toArray, .int .u8 4, .int .u64 (now : Int)] w fun e w' => e = .returned (.int .i64 (auzE l key tenant t 4 now)) ∧ Has w w' [] := fun t w h1 h2 h3 h4 => authz_s v0 v1 l key tenant t 4 now w h1 h2 h3 h4 ht (by decide) hn
  have hwatch := fun k x hx => auz_watch l key tenant now k x hc ha hx
  obtain ⟨i1, i2, i3, i4, i5, i6⟩ := ha
  have i7 := of_decide_eq_true i6
  have j1 : ¬ tenant < 0 := by omega
  have j2 : ¬ 3 ≤ tenant := by omega
  have j5 : ¬ (4611686018427387904 : Int) < (now : Int) := by omega
  have j6 : ¬ (key.length : Int) < 1 := by omega
  have j7 : ¬ (64 : Int) < (key.length : Int) := by omega
  have f0 : ((UInt8.ofNat tenant.toNat).toNat : Int) = tenant := by rw [UInt8.toNat_ofNat']; omega
  have hw8 : IntKind.u8.wrap tenant = tenant := by rw [IntKind.wrap_u8]; omega
  obtain ⟨a0, c0, rfl, k1, k2⟩ := Sl.shape h1
  obtain ⟨a1, c1, rfl, k3, k4⟩ := Sl.shape h2
  unfold maxLen at k2 k4
  clear i3 i4 i5 i6 i7 hc hL
  have hat := fun k x (hx : l[k]? = some x) hb => liveK_at l now k x hx hb l.length
  obtain ⟨X, hX⟩ : ∃ X, X = liveK l now l.length := ⟨_, rfl⟩
  have hXl := liveK_length l now l.length
  rw [← hX] at p2 hat hXl
  have H1 := Lib.hid h1; have H2 := Lib.hid h2; have HK := Lib.hid hK; have HP := Lib.hid hP; have P1 := Lib.hid p1; have P2 := Lib.hid p2; have P3 := Lib.hid p3; have P4 := Lib.hid p4; have P5 := Lib.hid p5; have HWATCH := Lib.hid hwatch; have F0 := Lib.hid f0; have HAT := Lib.hid hat; have HX := Lib.hid hX; clear h1 h2 hK hP p1 p2 p3 p4 p5 hwatch f0 hat hX
  go_enter Tryd.func13, Tryd.ntmps13
  go_wp2_with (first | (go_at_call 31; (with_reducible refine (P1.out _ (S.kt (Hid.out (by assumption))) (S.pt HP.out)).mono ?_); rintro e w1 ⟨rfl, T⟩; replace S := S.call T; clear T; (try simp only [List.nil_append, List.cons_append] at S)) | (go_at_call 38; (with_reducible refine (P2.out _ (S.old H1.out)).mono ?_); rintro e w1 ⟨v10, rfl, T⟩; replace S := S.call T; clear T; (try simp only [List.nil_append, List.cons_append] at S); obtain ⟨a10, c10, rfl, k10, k11⟩ := Sl.shape (S.sl (v := v10) pk)) | (go_at_call 33; (with_reducible refine (P3.out _ _ (by first | assumption | exact S.old (Hid.out (by assumption)) | exact S.sl pk | exact S.sl_rd pk)).mono ?_); rintro e w1 ⟨rfl, T⟩; replace S := S.call T; clear T; (try simp only [List.nil_append, List.cons_append] at S)) | ((with_reducible show wpList _ _ _ (⟨_, .load 5 _, _, _, _, _⟩ :: _) _ _); first | (refine step_load1 5 _ _ _ rfl (S.cell pk co) _ Tryd.underlying5 rfl gw ?_) | (refine step_load1 5 _ _ _ rfl (S.row_cell pk _ _ hyr) _ Tryd.underlying5 rfl gw ?_) | (refine step_load1 5 _ _ _ rfl (S.row_cellS pk _ _ hy) _ Tryd.underlying5 rfl gw ?_) | (refine step_load1 5 _ _ _ rfl (S.old_cell hy) _ Tryd.underlying5 rfl gw ?_)) | ((with_reducible show wpList _ _ _ (⟨_, .load 23 _, _, _, _, _⟩ :: _) _ _); first | (refine step_load1 23 _ _ _ rfl (S.cell pk co) _ Tryd.underlying23 rfl gw ?_) | (refine step_load1 23 _ _ _ rfl (S.row_cell pk _ _ hyr) _ Tryd.underlying23 rfl gw ?_) | (refine step_load1 23 _ _ _ rfl (S.row_cellS pk _ _ hy) _ Tryd.underlying23 rfl gw ?_) | (refine step_load1 23 _ _ _ rfl (S.old_cell hy) _ Tryd.underlying23 rfl gw ?_)) | ((with_reducible show wpList _ _ _ (⟨some 14, .alloc 27, _, _, _, _⟩ :: _) _ _); refine step_alloc (dst := some 14) S 27 (.agg ((tokL tokZ).toArray)) ((tokL tokZ).toArray) (by kernel_rfl) rfl gw ?_; clear S; intro g14 w S) | ((with_reducible show wpList _ _ _ (⟨none, .store 27 (.tmp 14) (.tmp 84), _, _, _, _⟩ :: _) _ _); refine step_store S 27 (.tmp 14) (.tmp 84) _ _ rfl rfl _ _ pk 36 (by kernel_rfl) (by first | rfl | (first | rfl | assumption | (exact Hid.out (by assumption)) | (exact tokL_size _) | (rw [arr8_size]; first | rfl | assumption | (exact Hid.out (by assumption)) | exact tokL_size _ | exact List.length_replicate ..) | (simp [arr8_size]; done))) (by first | rfl | (first | rfl | assumption | (exact Hid.out (by assumption)) | (exact tokL_size _) | (rw [arr8_size]; first | rfl | assumption | (exact Hid.out (by assumption)) | exact tokL_size _ | exact List.length_replicate ..) | (simp [arr8_size]; done))) on1 gw ?_; clear S; intro w S) | ((with_reducible show wpList _ _ _ (⟨_, .load 27 _, _, _, _, _⟩ :: _) _ _); first | (refine step_load S 27 _ _ rfl _ _ _ pk _ Tryd.underlying27 rfl 36 (by kernel_rfl) (by first | rfl | (first | rfl | assumption | (exact Hid.out (by assumption)) | (exact tokL_size _) | (rw [arr8_size]; first | rfl | assumption | (exact Hid.out (by assumption)) | exact tokL_size _ | exact List.length_replicate ..) | (simp [arr8_size]; done))) gw ?_) | (refine step_loadO 27 _ _ rfl _ _ _ (S.old_heap (Hid.out (by assumption))) _ Tryd.underlying27 rfl 36 (by kernel_rfl) (by first | rfl | (first | rfl | assumption | (exact Hid.out (by assumption)) | (exact tokL_size _) | (rw [arr8_size]; first | rfl | assumption | (exact Hid.out (by assumption)) | exact tokL_size _ | exact List.length_replicate ..) | (simp [arr8_size]; done))) gw ?_) | (refine step_loadR 27 _ _ _ rfl _ (S.old_range hy) _ Tryd.underlying27 rfl 36 (by kernel_rfl) (by first | rfl | (first | rfl | assumption | (exact Hid.out (by assumption)) | (exact tokL_size _) | (rw [arr8_size]; first | rfl | assumption | (exact Hid.out (by assumption)) | exact tokL_size _ | exact List.length_replicate ..) | (simp [arr8_size]; done))) _ rfl gw ?_)) | ((with_reducible show wpList _ _ _ (⟨_, .load 24 _, _, _, _, _⟩ :: _) _ _); first | (refine step_load1 24 _ _ _ rfl (S.cell pk co) _ Tryd.underlying24 rfl gw ?_) | (refine step_load1 24 _ _ _ rfl (S.row_cell pk _ _ hyr) _ Tryd.underlying24 rfl gw ?_) | (refine step_load1 24 _ _ _ rfl (S.row_cellS pk _ _ hy) _ Tryd.underlying24 rfl gw ?_) | (refine step_load1 24 _ _ _ rfl (S.old_cell hy) _ Tryd.underlying24 rfl gw ?_)) | fail)
  go_loopw [12, 13] (fun u v wr => ∃ (k : Nat), k ≤ l.length ∧ u = .int .i64 ((liveK l now k).length : Int) ∧ v = .int .i64 (k : Int) ∧ Has w0 wr [row32 (.slice a10 X.length c10) X]) (fun _ v _ => l.length - (intOf v).toNat)
  case atStart => exact ⟨0, Nat.zero_le _, rfl, rfl, S⟩
  case round =>
    obtain ⟨k, hk, rfl, rfl, S⟩ := hrel
    by_cases hlt : k < l.length
    · have hml := liveK_length l now k
      have hki : (k : Int) < (l.length : Int) := by omega
      have hk0 : (0 : Int) ≤ (k : Int) := by omega
      obtain ⟨x, hx⟩ : ∃ x, l[k]? = some x := ⟨_, List.getElem?_eq_getElem hlt⟩
      obtain ⟨b, off, hab, hr, g1, g2, g3⟩ := Rg.cells H1.out k x hx
      subst hab
      obtain ⟨T0, hT0⟩ : ∃ T0 : Tok, T0 = ⟨UInt8.ofNat tenant.toNat, x.role, x.expiry, UInt32.ofNat (k + 1), zs32, rfl⟩ := ⟨_, rfl⟩
      obtain ⟨T2, hT2⟩ : ∃ T2, T2 = entT key tenant k x := ⟨_, rfl⟩
      have f3 : ((UInt32.ofNat (k + 1)).toNat : Int) = (k : Int) + 1 := by rw [UInt32.toNat_ofNat']; omega
      have p6 := fun w h hk => P4.out T0 w h hk
      rw [show sgT key T0 = T2 by rw [hT2, hT0]; rfl] at p6
      have hstep := liveK_step l now k x hx
      have hA := HAT.out k x hx
      have hW := HWATCH.out k x hx
      rw [← hT2] at hW
      have p7 := fun w h1 h2 h3 h4 => P5.out T2 w h1 h2 h3 h4
      generalize auzE l key tenant T2 4 now = E at p7 hW
      obtain ⟨m, hm⟩ : ∃ m, m = (liveK l now k).length := ⟨_, rfl⟩
      rw [← hm] at hml hA ⊢
      cases hb : liveB now x with
      | false =>
        rw [hb] at hstep hW
        have hnext : (liveK l now (k + 1)).length = m := by rw [hstep, hm]; simp
        have n1 : (E != 0) = true := by simpa using hW
        clear hstep hm hA hW hb hT2 hx
        have HR := Lib.hid hr; have G1 := Lib.hid g1; have G2 := Lib.hid g2; have G3 := Lib.hid g3; have HT0 := Lib.hid hT0; have P6 := Lib.hid p6; have P7 := Lib.hid p7; have F3 := Lib.hid f3; have HNEXT := Lib.hid hnext; clear hr g1 g2 g3 hT0 p6 p7 f3 hnext
        go_wp2_with (first | ((with_reducible show wpList _ _ _ (⟨_, .load 5 _, _, _, _, _⟩ :: _) _ _); first | (refine step_load1 5 _ _ _ rfl (S.cell pk co) _ Tryd.underlying5 rfl gw ?_) | (refine step_load1 5 _ _ _ rfl (S.row_cell pk _ _ hyr) _ Tryd.underlying5 rfl gw ?_) | (refine step_load1 5 _ _ _ rfl (S.row_cellS pk _ _ hy) _ Tryd.underlying5 rfl gw ?_) | (refine step_load1 5 _ _ _ rfl (S.old_cell hy) _ Tryd.underlying5 rfl gw ?_)) | ((with_reducible show wpList _ _ _ (⟨_, .load 23 _, _, _, _, _⟩ :: _) _ _); first | (refine step_load1 23 _ _ _ rfl (S.cell pk co) _ Tryd.underlying23 rfl gw ?_) | (refine step_load1 23 _ _ _ rfl (S.row_cell pk _ _ hyr) _ Tryd.underlying23 rfl gw ?_) | (refine step_load1 23 _ _ _ rfl (S.row_cellS pk _ _ hy) _ Tryd.underlying23 rfl gw ?_) | (refine step_load1 23 _ _ _ rfl (S.old_cell hy) _ Tryd.underlying23 rfl gw ?_)) | ((with_reducible show wpList _ _ _ (⟨some 14, .alloc 27, _, _, _, _⟩ :: _) _ _); refine step_alloc (dst := some 14) S 27 (.agg ((tokL tokZ).toArray)) ((tokL tokZ).toArray) (by kernel_rfl) rfl gw ?_; clear S; intro g14 w S) | ((with_reducible show wpList _ _ _ (⟨none, .store 27 (.tmp 14) (.tmp 84), _, _, _, _⟩ :: _) _ _); refine step_store S 27 (.tmp 14) (.tmp 84) _ _ rfl rfl _ _ pk 36 (by kernel_rfl) (by first | rfl | (first | rfl | assumption | (exact Hid.out (by assumption)) | (exact tokL_size _) | (rw [arr8_size]; first | rfl | assumption | (exact Hid.out (by assumption)) | exact tokL_size _ | exact List.length_replicate ..) | (simp [arr8_size]; done))) (by first | rfl | (first | rfl | assumption | (exact Hid.out (by assumption)) | (exact tokL_size _) | (rw [arr8_size]; first | rfl | assumption | (exact Hid.out (by assumption)) | exact tokL_size _ | exact List.length_replicate ..) | (simp [arr8_size]; done))) on1 gw ?_; clear S; intro w S) | ((with_reducible show wpList _ _ _ (⟨_, .load 27 _, _, _, _, _⟩ :: _) _ _); first | (refine step_load S 27 _ _ rfl _ _ _ pk _ Tryd.underlying27 rfl 36 (by kernel_rfl) (by first | rfl | (first | rfl | assumption | (exact Hid.out (by assumption)) | (exact tokL_size _) | (rw [arr8_size]; first | rfl | assumption | (exact Hid.out (by assumption)) | exact tokL_size _ | exact List.length_replicate ..) | (simp [arr8_size]; done))) gw ?_) | (refine step_loadO 27 _ _ rfl _ _ _ (S.old_heap (Hid.out (by assumption))) _ Tryd.underlying27 rfl 36 (by kernel_rfl) (by first | rfl | (first | rfl | assumption | (exact Hid.out (by assumption)) | (exact tokL_size _) | (rw [arr8_size]; first | rfl | assumption | (exact Hid.out (by assumption)) | exact tokL_size _ | exact List.length_replicate ..) | (simp [arr8_size]; done))) gw ?_) | (refine step_loadR 27 _ _ _ rfl _ (S.old_range hy) _ Tryd.underlying27 rfl 36 (by kernel_rfl) (by first | rfl | (first | rfl | assumption | (exact Hid.out (by assumption)) | (exact tokL_size _) | (rw [arr8_size]; first | rfl | assumption | (exact Hid.out (by assumption)) | exact tokL_size _ | exact List.length_replicate ..) | (simp [arr8_size]; done))) _ rfl gw ?_)) | ((with_reducible show wpList _ _ _ (⟨_, .load 24 _, _, _, _, _⟩ :: _) _ _); first | (refine step_load1 24 _ _ _ rfl (S.cell pk co) _ Tryd.underlying24 rfl gw ?_) | (refine step_load1 24 _ _ _ rfl (S.row_cell pk _ _ hyr) _ Tryd.underlying24 rfl gw ?_) | (refine step_load1 24 _ _ _ rfl (S.row_cellS pk _ _ hy) _ Tryd.underlying24 rfl gw ?_) | (refine step_load1 24 _ _ _ rfl (S.old_cell hy) _ Tryd.underlying24 rfl gw ?_)) | fail)
        refine wp_rely S [⟨[], [], [], fun _ v => v = (.slice a1 key.length c1), fun _ v => []⟩, ⟨[], [], [], fun _ v => v = (.int .i64 tenant), fun _ v => []⟩, ⟨[1], [], [], fun _ v => v = .int .u8 tenant, fun _ v => []⟩, ⟨[], [], [], fun _ v => v = (.slice (some ⟨b, off, none⟩) l.length c0), fun _ v => []⟩, ⟨[], [], [], fun _ v => v = (.int .i64 (k : Int)), fun _ v => []⟩, ⟨[3, 4], [], [], fun _ v => v = .pointer (some ⟨b, off + k * 3, none⟩), fun _ v => []⟩, ⟨[3, 4, 5], [], [], fun _ v => v = .pointer (some ⟨b, off + k * 3, none⟩), fun _ v => []⟩, ⟨[3, 4, 5, 6], [], [], fun _ v => v = .int .u8 (x.role.toNat : Int), fun _ v => []⟩, ⟨[], [], [], fun _ v => v = (.slice (some ⟨b, off, none⟩) l.length c0), fun _ v => []⟩, ⟨[], [], [], fun _ v => v = (.int .i64 (k : Int)), fun _ v => []⟩, ⟨[8, 9], [], [], fun _ v => v = .pointer (some ⟨b, off + k * 3, none⟩), fun _ v => []⟩, ⟨[8, 9, 10], [], [], fun _ v => v = .pointer (some ⟨b, off + k * 3 + 1, none⟩), fun _ v => []⟩, ⟨[8, 9, 10, 11], [], [], fun _ v => v = .int .u64 (x.expiry.toNat : Int), fun _ v => []⟩, ⟨[], [], [], fun _ v => v = (.int .i64 (k : Int)), fun _ v => []⟩, ⟨[13], [], [], fun _ v => v = .int .i64 ((k : Int) + 1), fun _ v => []⟩, ⟨[13, 14], [], [], fun _ v => v = .int .u32 ((k : Int) + 1), fun _ v => []⟩, ⟨[1, 2, 3, 4, 5, 6, 7, 8, 9, 10, 11, 12, 13, 14, 15], [], [], fun _ v => v = .agg (tokL T0).toArray, fun _ v => []⟩, ⟨[0, 1, 2, 3, 4, 5, 6, 7, 8, 9, 10, 11, 12, 13, 14, 15, 16], [], [], fun _ v => v = .tuple #[.agg (tokL T2).toArray, .int .i64 0], fun _ v => []⟩, ⟨[0, 1, 2, 3, 4, 5, 6, 7, 8, 9, 10, 11, 12, 13, 14, 15, 16, 17], [], [], fun _ v => v = (.tuple #[.agg (tokL T2).toArray, .int .i64 0]), fun _ v => []⟩, ⟨[0, 1, 2, 3, 4, 5, 6, 7, 8, 9, 10, 11, 12, 13, 14, 15, 16, 17, 18], [], [], fun _ v => v = .agg (tokL T2).toArray, fun _ v => []⟩, ⟨[0, 1, 2, 3, 4, 5, 6, 7, 8, 9, 10, 11, 12, 13, 14, 15, 16, 17, 18], [], [], fun _ v => v = .int .i64 0, fun _ v => []⟩, ⟨[], [], [], fun _ v => ∃ g, v = .pointer (some ⟨g, 0, none⟩), fun _ v => [blk (ptrBlk v) (.cells ((tokL tokZ).toArray) 27 (0, 0))]⟩, ⟨[0, 1, 2, 3, 4, 5, 6, 7, 8, 9, 10, 11, 12, 13, 14, 15, 16, 17, 18, 19, 21], [21], [], fun _ v => True, fun d v => [blk (ptrBlk (d 21)) (.cells ((tokL T2).toArray) 27 (0, 0))]⟩, ⟨[0, 1, 2, 3, 4, 5, 6, 7, 8, 9, 10, 11, 12, 13, 14, 15, 16, 17, 18, 19, 20, 21, 22], [], [], fun _ v => v = (.int .i64 0), fun _ v => []⟩] ?A1 ?hA1 (by kernel_rfl) (by kernel_rfl) (by kernel_rfl) [0, 1, 2, 3, 4, 5, 6, 7, 8, 9, 10, 11, 12, 13, 14, 15, 16, 17, 18, 19, 20, 22, 23] (by kernel_rfl) ?hok1 ?fin1
        case hA1 => intro u; simp only [putAll, List.length_cons, List.length_nil, Nat.zero_add, Nat.reduceAdd, dstAt, List.getElem?_toArray, List.getElem?_cons_zero, List.getElem?_cons_succ, Option.bind_some, Act.put, List.setIfInBounds_toArray, List.set_cons_zero, List.set_cons_succ]; rfl
        case hok1 =>
          intro i hi
          obtain rfl | rfl | rfl | rfl | rfl | rfl | rfl | rfl | rfl | rfl | rfl | rfl | rfl | rfl | rfl | rfl | rfl | rfl | rfl | rfl | rfl | rfl | rfl | rfl : i = 0 ∨ i = 1 ∨ i = 2 ∨ i = 3 ∨ i = 4 ∨ i = 5 ∨ i = 6 ∨ i = 7 ∨ i = 8 ∨ i = 9 ∨ i = 10 ∨ i = 11 ∨ i = 12 ∨ i = 13 ∨ i = 14 ∨ i = 15 ∨ i = 16 ∨ i = 17 ∨ i = 18 ∨ i = 19 ∨ i = 20 ∨ i = 21 ∨ i = 22 ∨ i = 23 := by simp only [List.length_cons, List.length_nil, Nat.zero_add, Nat.reduceAdd] at hi; omega
          · clear hi
            refine step_of rfl rfl rfl ?_
            intro u G w hf S
            simp only [resOf, spec, RSpec.resAt, z0, z1, z2, z3, z4, z5, z6, z7, ptrBlk] at S ⊢
            simp only [does]
            go_simp
            try first | exact S | exact ⟨vv, S⟩ | exact vv
          · clear hi
            refine step_of rfl rfl rfl ?_
            intro u G w hf S
            simp only [resOf, spec, RSpec.resAt, z0, z1, z2, z3, z4, z5, z6, z7, ptrBlk] at S ⊢
            simp only [does]
            go_simp
            try first | exact S | exact ⟨vv, S⟩ | exact vv
          · clear hi
            refine step_of rfl rfl rfl ?_
            intro u G w hf S
            have f1 : u 1 = (.int .i64 tenant) := hf 1 (by simp)
            simp only [resOf, spec, RSpec.resAt, z0, z1, z2, z3, z4, z5, z6, z7, ptrBlk] at S ⊢
            simp only [f1]
            simp only [does]
            go_simp
            try first | exact S | exact ⟨vv, S⟩ | exact vv
          · clear hi
            refine step_of rfl rfl rfl ?_
            intro u G w hf S
            simp only [resOf, spec, RSpec.resAt, z0, z1, z2, z3, z4, z5, z6, z7, ptrBlk] at S ⊢
            simp only [does]
            go_simp
            try first | exact S | exact ⟨vv, S⟩ | exact vv
          · clear hi
            refine step_of rfl rfl rfl ?_
            intro u G w hf S
            simp only [resOf, spec, RSpec.resAt, z0, z1, z2, z3, z4, z5, z6, z7, ptrBlk] at S ⊢
            simp only [does]
            go_simp
            try first | exact S | exact ⟨vv, S⟩ | exact vv
          · clear hi
            refine step_of rfl rfl rfl ?_
            intro u G w hf S
            have f3 : u 3 = (.slice (some ⟨b, off, none⟩) l.length c0) := hf 3 (by simp)
            have f4 : u 4 = (.int .i64 (k : Int)) := hf 4 (by simp)
            simp only [resOf, spec, RSpec.resAt, z0, z1, z2, z3, z4, z5, z6, z7, ptrBlk] at S ⊢
            simp only [f3, f4]
            simp only [does]
            go_simp
            try first | exact S | exact ⟨vv, S⟩ | exact vv
          · clear hi
            refine step_of rfl rfl rfl ?_
            intro u G w hf S
            have f3 : u 3 = (.slice (some ⟨b, off, none⟩) l.length c0) := hf 3 (by simp)
            have f4 : u 4 = (.int .i64 (k : Int)) := hf 4 (by simp)
            have f5 : u 5 = .pointer (some ⟨b, off + k * 3, none⟩) := hf 5 (by simp)
            simp only [resOf, spec, RSpec.resAt, z0, z1, z2, z3, z4, z5, z6, z7, ptrBlk] at S ⊢
            simp only [f3, f4, f5]
            simp only [does]
            go_simp
            try first | exact S | exact ⟨vv, S⟩ | exact vv
          · clear hi
            refine step_of rfl rfl rfl ?_
            intro u G w hf S
            have f3 : u 3 = (.slice (some ⟨b, off, none⟩) l.length c0) := hf 3 (by simp)
            have f4 : u 4 = (.int .i64 (k : Int)) := hf 4 (by simp)
            have f5 : u 5 = .pointer (some ⟨b, off + k * 3, none⟩) := hf 5 (by simp)
            have f6 : u 6 = .pointer (some ⟨b, off + k * 3, none⟩) := hf 6 (by simp)
            simp only [resOf, spec, RSpec.resAt, z0, z1, z2, z3, z4, z5, z6, z7, ptrBlk] at S ⊢
            simp only [f3, f4, f5, f6]
            refine does_load1 5 (.tmp 72) _ _ rfl (S.old_cell hy) _ Tryd.underlying5 rfl ?_; exact ⟨rfl, S⟩
          · clear hi
            refine step_of rfl rfl rfl ?_
            intro u G w hf S
            simp only [resOf, spec, RSpec.resAt, z0, z1, z2, z3, z4, z5, z6, z7, ptrBlk] at S ⊢
            simp only [does]
            go_simp
            try first | exact S | exact ⟨vv, S⟩ | exact vv
          · clear hi
            refine step_of rfl rfl rfl ?_
            intro u G w hf S
            simp only [resOf, spec, RSpec.resAt, z0, z1, z2, z3, z4, z5, z6, z7, ptrBlk] at S ⊢
            simp only [does]
            go_simp
            try first | exact S | exact ⟨vv, S⟩ | exact vv
          · clear hi
            refine step_of rfl rfl rfl ?_
            intro u G w hf S
            have f8 : u 8 = (.slice (some ⟨b, off, none⟩) l.length c0) := hf 8 (by simp)
            have f9 : u 9 = (.int .i64 (k : Int)) := hf 9 (by simp)
            simp only [resOf, spec, RSpec.resAt, z0, z1, z2, z3, z4, z5, z6, z7, ptrBlk] at S ⊢
            simp only [f8, f9]
            simp only [does]
            go_simp
            try first | exact S | exact ⟨vv, S⟩ | exact vv
          · clear hi
            refine step_of rfl rfl rfl ?_
            intro u G w hf S
            have f8 : u 8 = (.slice (some ⟨b, off, none⟩) l.length c0) := hf 8 (by simp)
            have f9 : u 9 = (.int .i64 (k : Int)) := hf 9 (by simp)
            have f10 : u 10 = .pointer (some ⟨b, off + k * 3, none⟩) := hf 10 (by simp)
            simp only [resOf, spec, RSpec.resAt, z0, z1, z2, z3, z4, z5, z6, z7, ptrBlk] at S ⊢
            simp only [f8, f9, f10]
            simp only [does]
            go_simp
            try first | exact S | exact ⟨vv, S⟩ | exact vv
          · clear hi
            refine step_of rfl rfl rfl ?_
            intro u G w hf S
            have f8 : u 8 = (.slice (some ⟨b, off, none⟩) l.length c0) := hf 8 (by simp)
            have f9 : u 9 = (.int .i64 (k : Int)) := hf 9 (by simp)
            have f10 : u 10 = .pointer (some ⟨b, off + k * 3, none⟩) := hf 10 (by simp)
            have f11 : u 11 = .pointer (some ⟨b, off + k * 3 + 1, none⟩) := hf 11 (by simp)
            simp only [resOf, spec, RSpec.resAt, z0, z1, z2, z3, z4, z5, z6, z7, ptrBlk] at S ⊢
            simp only [f8, f9, f10, f11]
            refine does_load1 23 (.tmp 77) _ _ rfl (S.old_cell hy) _ Tryd.underlying23 rfl ?_; exact ⟨rfl, S⟩
          · clear hi
            refine step_of rfl rfl rfl ?_
            intro u G w hf S
            simp only [resOf, spec, RSpec.resAt, z0, z1, z2, z3, z4, z5, z6, z7, ptrBlk] at S ⊢
            simp only [does]
            go_simp
            try first | exact S | exact ⟨vv, S⟩ | exact vv
          · clear hi
            refine step_of rfl rfl rfl ?_
            intro u G w hf S
            have f13 : u 13 = (.int .i64 (k : Int)) := hf 13 (by simp)
            simp only [resOf, spec, RSpec.resAt, z0, z1, z2, z3, z4, z5, z6, z7, ptrBlk] at S ⊢
            simp only [f13]
            simp only [does]
            go_simp
            try first | exact S | exact ⟨vv, S⟩ | exact vv
          · clear hi
            refine step_of rfl rfl rfl ?_
            intro u G w hf S
            have f13 : u 13 = (.int .i64 (k : Int)) := hf 13 (by simp)
            have f14 : u 14 = .int .i64 ((k : Int) + 1) := hf 14 (by simp)
            simp only [resOf, spec, RSpec.resAt, z0, z1, z2, z3, z4, z5, z6, z7, ptrBlk] at S ⊢
            simp only [f13, f14]
            simp only [does]
            go_simp
            try first | exact S | exact ⟨vv, S⟩ | exact vv
          · clear hi
            refine step_of rfl rfl rfl ?_
            intro u G w hf S
            have f1 : u 1 = (.int .i64 tenant) := hf 1 (by simp)
            have f2 : u 2 = .int .u8 tenant := hf 2 (by simp)
            have f3 : u 3 = (.slice (some ⟨b, off, none⟩) l.length c0) := hf 3 (by simp)
            have f4 : u 4 = (.int .i64 (k : Int)) := hf 4 (by simp)
            have f5 : u 5 = .pointer (some ⟨b, off + k * 3, none⟩) := hf 5 (by simp)
            have f6 : u 6 = .pointer (some ⟨b, off + k * 3, none⟩) := hf 6 (by simp)
            have f7 : u 7 = .int .u8 (x.role.toNat : Int) := hf 7 (by simp)
            have f8 : u 8 = (.slice (some ⟨b, off, none⟩) l.length c0) := hf 8 (by simp)
            have f9 : u 9 = (.int .i64 (k : Int)) := hf 9 (by simp)
            have f10 : u 10 = .pointer (some ⟨b, off + k * 3, none⟩) := hf 10 (by simp)
            have f11 : u 11 = .pointer (some ⟨b, off + k * 3 + 1, none⟩) := hf 11 (by simp)
            have f12 : u 12 = .int .u64 (x.expiry.toNat : Int) := hf 12 (by simp)
            have f13 : u 13 = (.int .i64 (k : Int)) := hf 13 (by simp)
            have f14 : u 14 = .int .i64 ((k : Int) + 1) := hf 14 (by simp)
            have f15 : u 15 = .int .u32 ((k : Int) + 1) := hf 15 (by simp)
            simp only [resOf, spec, RSpec.resAt, z0, z1, z2, z3, z4, z5, z6, z7, ptrBlk] at S ⊢
            simp only [f1, f2, f3, f4, f5, f6, f7, f8, f9, f10, f11, f12, f13, f14, f15]
            rw [HT0.out]; refine does_buildT4 _ _ _ _ (UInt8.ofNat tenant.toNat) x.role x.expiry (UInt32.ofNat (k + 1)) (show Value.int IntKind.u8 _ = Value.int IntKind.u8 _ by rw [F0.out]) rfl rfl (show Value.int IntKind.u32 _ = Value.int IntKind.u32 _ by rw [F3.out]) ?_; exact ⟨rfl, S⟩
          · clear hi
            refine step_of rfl rfl rfl ?_
            intro u G w hf S
            have f0 : u 0 = (.slice a1 key.length c1) := hf 0 (by simp)
            have f1 : u 1 = (.int .i64 tenant) := hf 1 (by simp)
            have f2 : u 2 = .int .u8 tenant := hf 2 (by simp)
            have f3 : u 3 = (.slice (some ⟨b, off, none⟩) l.length c0) := hf 3 (by simp)
            have f4 : u 4 = (.int .i64 (k : Int)) := hf 4 (by simp)
            have f5 : u 5 = .pointer (some ⟨b, off + k * 3, none⟩) := hf 5 (by simp)
            have f6 : u 6 = .pointer (some ⟨b, off + k * 3, none⟩) := hf 6 (by simp)
            have f7 : u 7 = .int .u8 (x.role.toNat : Int) := hf 7 (by simp)
            have f8 : u 8 = (.slice (some ⟨b, off, none⟩) l.length c0) := hf 8 (by simp)
            have f9 : u 9 = (.int .i64 (k : Int)) := hf 9 (by simp)
            have f10 : u 10 = .pointer (some ⟨b, off + k * 3, none⟩) := hf 10 (by simp)
            have f11 : u 11 = .pointer (some ⟨b, off + k * 3 + 1, none⟩) := hf 11 (by simp)
            have f12 : u 12 = .int .u64 (x.expiry.toNat : Int) := hf 12 (by simp)
            have f13 : u 13 = (.int .i64 (k : Int)) := hf 13 (by simp)
            have f14 : u 14 = .int .i64 ((k : Int) + 1) := hf 14 (by simp)
            have f15 : u 15 = .int .u32 ((k : Int) + 1) := hf 15 (by simp)
            have f16 : u 16 = .agg (tokL T0).toArray := hf 16 (by simp)
            simp only [resOf, spec, RSpec.resAt, z0, z1, z2, z3, z4, z5, z6, z7, ptrBlk] at S ⊢
            simp only [f0, f1, f2, f3, f4, f5, f6, f7, f8, f9, f10, f11, f12, f13, f14, f15, f16]
            refine does_fn (args := [((.slice a1 key.length c1)), (.agg (tokL T0).toArray)]) Tryd.func20 (by kernel_rfl) (by kernel_rfl) (P6.out w (S.oldB H2.out) (S.kt HK.out)) rfl ?_
            rintro e w1 ⟨rfl, T⟩
            exact ⟨_, rfl, rfl, S.call T⟩
          · clear hi
            refine step_of rfl rfl rfl ?_
            intro u G w hf S
            have f0 : u 0 = (.slice a1 key.length c1) := hf 0 (by simp)
            have f1 : u 1 = (.int .i64 tenant) := hf 1 (by simp)
            have f2 : u 2 = .int .u8 tenant := hf 2 (by simp)
            have f3 : u 3 = (.slice (some ⟨b, off, none⟩) l.length c0) := hf 3 (by simp)
            have f4 : u 4 = (.int .i64 (k : Int)) := hf 4 (by simp)
            have f5 : u 5 = .pointer (some ⟨b, off + k * 3, none⟩) := hf 5 (by simp)
            have f6 : u 6 = .pointer (some ⟨b, off + k * 3, none⟩) := hf 6 (by simp)
            have f7 : u 7 = .int .u8 (x.role.toNat : Int) := hf 7 (by simp)
            have f8 : u 8 = (.slice (some ⟨b, off, none⟩) l.length c0) := hf 8 (by simp)
            have f9 : u 9 = (.int .i64 (k : Int)) := hf 9 (by simp)
            have f10 : u 10 = .pointer (some ⟨b, off + k * 3, none⟩) := hf 10 (by simp)
            have f11 : u 11 = .pointer (some ⟨b, off + k * 3 + 1, none⟩) := hf 11 (by simp)
            have f12 : u 12 = .int .u64 (x.expiry.toNat : Int) := hf 12 (by simp)
            have f13 : u 13 = (.int .i64 (k : Int)) := hf 13 (by simp)
            have f14 : u 14 = .int .i64 ((k : Int) + 1) := hf 14 (by simp)
            have f15 : u 15 = .int .u32 ((k : Int) + 1) := hf 15 (by simp)
            have f16 : u 16 = .agg (tokL T0).toArray := hf 16 (by simp)
            have f17 : u 17 = .tuple #[.agg (tokL T2).toArray, .int .i64 0] := hf 17 (by simp)
            simp only [resOf, spec, RSpec.resAt, z0, z1, z2, z3, z4, z5, z6, z7, ptrBlk] at S ⊢
            simp only [f0, f1, f2, f3, f4, f5, f6, f7, f8, f9, f10, f11, f12, f13, f14, f15, f16, f17]
            simp only [does]
            go_simp
            try first | exact S | exact ⟨vv, S⟩ | exact vv
          · clear hi
            refine step_of rfl rfl rfl ?_
            intro u G w hf S
            have f0 : u 0 = (.slice a1 key.length c1) := hf 0 (by simp)
            have f1 : u 1 = (.int .i64 tenant) := hf 1 (by simp)
            have f2 : u 2 = .int .u8 tenant := hf 2 (by simp)
            have f3 : u 3 = (.slice (some ⟨b, off, none⟩) l.length c0) := hf 3 (by simp)
            have f4 : u 4 = (.int .i64 (k : Int)) := hf 4 (by simp)
            have f5 : u 5 = .pointer (some ⟨b, off + k * 3, none⟩) := hf 5 (by simp)
            have f6 : u 6 = .pointer (some ⟨b, off + k * 3, none⟩) := hf 6 (by simp)
            have f7 : u 7 = .int .u8 (x.role.toNat : Int) := hf 7 (by simp)
            have f8 : u 8 = (.slice (some ⟨b, off, none⟩) l.length c0) := hf 8 (by simp)
            have f9 : u 9 = (.int .i64 (k : Int)) := hf 9 (by simp)
            have f10 : u 10 = .pointer (some ⟨b, off + k * 3, none⟩) := hf 10 (by simp)
            have f11 : u 11 = .pointer (some ⟨b, off + k * 3 + 1, none⟩) := hf 11 (by simp)
            have f12 : u 12 = .int .u64 (x.expiry.toNat : Int) := hf 12 (by simp)
            have f13 : u 13 = (.int .i64 (k : Int)) := hf 13 (by simp)
            have f14 : u 14 = .int .i64 ((k : Int) + 1) := hf 14 (by simp)
            have f15 : u 15 = .int .u32 ((k : Int) + 1) := hf 15 (by simp)
            have f16 : u 16 = .agg (tokL T0).toArray := hf 16 (by simp)
            have f17 : u 17 = .tuple #[.agg (tokL T2).toArray, .int .i64 0] := hf 17 (by simp)
            have f18 : u 18 = (.tuple #[.agg (tokL T2).toArray, .int .i64 0]) := hf 18 (by simp)
            simp only [resOf, spec, RSpec.resAt, z0, z1, z2, z3, z4, z5, z6, z7, ptrBlk] at S ⊢
            simp only [f0, f1, f2, f3, f4, f5, f6, f7, f8, f9, f10, f11, f12, f13, f14, f15, f16, f17, f18]
            simp only [does]
            go_simp
            try first | exact S | exact ⟨vv, S⟩ | exact vv
          · clear hi
            refine step_of rfl rfl rfl ?_
            intro u G w hf S
            have f0 : u 0 = (.slice a1 key.length c1) := hf 0 (by simp)
            have f1 : u 1 = (.int .i64 tenant) := hf 1 (by simp)
            have f2 : u 2 = .int .u8 tenant := hf 2 (by simp)
            have f3 : u 3 = (.slice (some ⟨b, off, none⟩) l.length c0) := hf 3 (by simp)
            have f4 : u 4 = (.int .i64 (k : Int)) := hf 4 (by simp)
            have f5 : u 5 = .pointer (some ⟨b, off + k * 3, none⟩) := hf 5 (by simp)
            have f6 : u 6 = .pointer (some ⟨b, off + k * 3, none⟩) := hf 6 (by simp)
            have f7 : u 7 = .int .u8 (x.role.toNat : Int) := hf 7 (by simp)
            have f8 : u 8 = (.slice (some ⟨b, off, none⟩) l.length c0) := hf 8 (by simp)
            have f9 : u 9 = (.int .i64 (k : Int)) := hf 9 (by simp)
            have f10 : u 10 = .pointer (some ⟨b, off + k * 3, none⟩) := hf 10 (by simp)
            have f11 : u 11 = .pointer (some ⟨b, off + k * 3 + 1, none⟩) := hf 11 (by simp)
            have f12 : u 12 = .int .u64 (x.expiry.toNat : Int) := hf 12 (by simp)
            have f13 : u 13 = (.int .i64 (k : Int)) := hf 13 (by simp)
            have f14 : u 14 = .int .i64 ((k : Int) + 1) := hf 14 (by simp)
            have f15 : u 15 = .int .u32 ((k : Int) + 1) := hf 15 (by simp)
            have f16 : u 16 = .agg (tokL T0).toArray := hf 16 (by simp)
            have f17 : u 17 = .tuple #[.agg (tokL T2).toArray, .int .i64 0] := hf 17 (by simp)
            have f18 : u 18 = (.tuple #[.agg (tokL T2).toArray, .int .i64 0]) := hf 18 (by simp)
            simp only [resOf, spec, RSpec.resAt, z0, z1, z2, z3, z4, z5, z6, z7, ptrBlk] at S ⊢
            simp only [f0, f1, f2, f3, f4, f5, f6, f7, f8, f9, f10, f11, f12, f13, f14, f15, f16, f17, f18]
            simp only [does]
            go_simp
            try first | exact S | exact ⟨vv, S⟩ | exact vv
          · clear hi
            refine step_of rfl rfl rfl ?_
            intro u G w hf S
            simp only [resOf, spec, RSpec.resAt, z0, z1, z2, z3, z4, z5, z6, z7, ptrBlk] at S ⊢
            refine does_alloc S 27 (.agg ((tokL tokZ).toArray)) ((tokL tokZ).toArray) (by kernel_rfl) rfl ?_; intro g w1 S; exact ⟨⟨g, rfl⟩, S⟩
          · clear hi
            refine step_of rfl rfl rfl ?_
            intro u G w hf S
            have f0 : u 0 = (.slice a1 key.length c1) := hf 0 (by simp)
            have f1 : u 1 = (.int .i64 tenant) := hf 1 (by simp)
            have f2 : u 2 = .int .u8 tenant := hf 2 (by simp)
            have f3 : u 3 = (.slice (some ⟨b, off, none⟩) l.length c0) := hf 3 (by simp)
            have f4 : u 4 = (.int .i64 (k : Int)) := hf 4 (by simp)
            have f5 : u 5 = .pointer (some ⟨b, off + k * 3, none⟩) := hf 5 (by simp)
            have f6 : u 6 = .pointer (some ⟨b, off + k * 3, none⟩) := hf 6 (by simp)
            have f7 : u 7 = .int .u8 (x.role.toNat : Int) := hf 7 (by simp)
            have f8 : u 8 = (.slice (some ⟨b, off, none⟩) l.length c0) := hf 8 (by simp)
            have f9 : u 9 = (.int .i64 (k : Int)) := hf 9 (by simp)
            have f10 : u 10 = .pointer (some ⟨b, off + k * 3, none⟩) := hf 10 (by simp)
            have f11 : u 11 = .pointer (some ⟨b, off + k * 3 + 1, none⟩) := hf 11 (by simp)
            have f12 : u 12 = .int .u64 (x.expiry.toNat : Int) := hf 12 (by simp)
            have f13 : u 13 = (.int .i64 (k : Int)) := hf 13 (by simp)
            have f14 : u 14 = .int .i64 ((k : Int) + 1) := hf 14 (by simp)
            have f15 : u 15 = .int .u32 ((k : Int) + 1) := hf 15 (by simp)
            have f16 : u 16 = .agg (tokL T0).toArray := hf 16 (by simp)
            have f17 : u 17 = .tuple #[.agg (tokL T2).toArray, .int .i64 0] := hf 17 (by simp)
            have f18 : u 18 = (.tuple #[.agg (tokL T2).toArray, .int .i64 0]) := hf 18 (by simp)
            have f19 : u 19 = .agg (tokL T2).toArray := hf 19 (by simp)
            have f21 : ∃ g, u 21 = .pointer (some ⟨g, 0, none⟩) := hf 21 (by simp)
            obtain ⟨g14, f21⟩ := f21
            have m21 : mask [0, 1, 2, 3, 4, 5, 6, 7, 8, 9, 10, 11, 12, 13, 14, 15, 16, 17, 18, 19, 21] u 21 = u 21 := rfl
            simp only [resOf, spec, RSpec.resAt, List.getD_cons_zero, List.getD_cons_succ, List.flatMap_cons, List.flatMap_nil, List.nil_append, List.cons_append, List.append_nil, List.append_assoc, m21, ptrBlk] at S ⊢
            simp only [m21, f0, f1, f2, f3, f4, f5, f6, f7, f8, f9, f10, f11, f12, f13, f14, f15, f16, f17, f18, f19, f21] at S ⊢
            try simp only [ptrBlk] at S
            refine does_store S 27 (.tmp 14) (.tmp 84) _ rfl rfl 36 (by kernel_rfl) (by first | rfl | (first | rfl | assumption | (exact Hid.out (by assumption)) | (exact tokL_size _) | (rw [arr8_size]; first | rfl | assumption | (exact Hid.out (by assumption)) | exact tokL_size _ | exact List.length_replicate ..) | (simp [arr8_size]; done))) (by first | rfl | (first | rfl | assumption | (exact Hid.out (by assumption)) | (exact tokL_size _) | (rw [arr8_size]; first | rfl | assumption | (exact Hid.out (by assumption)) | exact tokL_size _ | exact List.length_replicate ..) | (simp [arr8_size]; done))) on1 ?_; intro w1 S; exact ⟨trivial, S⟩
          · clear hi
            refine step_of rfl rfl rfl ?_
            intro u G w hf S
            have f0 : u 0 = (.slice a1 key.length c1) := hf 0 (by simp)
            have f1 : u 1 = (.int .i64 tenant) := hf 1 (by simp)
            have f2 : u 2 = .int .u8 tenant := hf 2 (by simp)
            have f3 : u 3 = (.slice (some ⟨b, off, none⟩) l.length c0) := hf 3 (by simp)
            have f4 : u 4 = (.int .i64 (k : Int)) := hf 4 (by simp)
            have f5 : u 5 = .pointer (some ⟨b, off + k * 3, none⟩) := hf 5 (by simp)
            have f6 : u 6 = .pointer (some ⟨b, off + k * 3, none⟩) := hf 6 (by simp)
            have f7 : u 7 = .int .u8 (x.role.toNat : Int) := hf 7 (by simp)
            have f8 : u 8 = (.slice (some ⟨b, off, none⟩) l.length c0) := hf 8 (by simp)
            have f9 : u 9 = (.int .i64 (k : Int)) := hf 9 (by simp)
            have f10 : u 10 = .pointer (some ⟨b, off + k * 3, none⟩) := hf 10 (by simp)
            have f11 : u 11 = .pointer (some ⟨b, off + k * 3 + 1, none⟩) := hf 11 (by simp)
            have f12 : u 12 = .int .u64 (x.expiry.toNat : Int) := hf 12 (by simp)
            have f13 : u 13 = (.int .i64 (k : Int)) := hf 13 (by simp)
            have f14 : u 14 = .int .i64 ((k : Int) + 1) := hf 14 (by simp)
            have f15 : u 15 = .int .u32 ((k : Int) + 1) := hf 15 (by simp)
            have f16 : u 16 = .agg (tokL T0).toArray := hf 16 (by simp)
            have f17 : u 17 = .tuple #[.agg (tokL T2).toArray, .int .i64 0] := hf 17 (by simp)
            have f18 : u 18 = (.tuple #[.agg (tokL T2).toArray, .int .i64 0]) := hf 18 (by simp)
            have f19 : u 19 = .agg (tokL T2).toArray := hf 19 (by simp)
            have f20 : u 20 = .int .i64 0 := hf 20 (by simp)
            have f21 : ∃ g, u 21 = .pointer (some ⟨g, 0, none⟩) := hf 21 (by simp)
            obtain ⟨g14, f21⟩ := f21
            simp only [resOf, spec, RSpec.resAt, z0, z1, z2, z3, z4, z5, z6, z7, ptrBlk] at S ⊢
            simp only [f0, f1, f2, f3, f4, f5, f6, f7, f8, f9, f10, f11, f12, f13, f14, f15, f16, f17, f18, f19, f20, f21]
            simp only [does]
            go_simp
            try first | exact S | exact ⟨vv, S⟩ | exact vv
        case fin1 =>
          intro u w hf S
          have f0 : u 0 = (.slice a1 key.length c1) := hf 0 (by simp)
          have f1 : u 1 = (.int .i64 tenant) := hf 1 (by simp)
          have f2 : u 2 = .int .u8 tenant := hf 2 (by simp)
          have f3 : u 3 = (.slice (some ⟨b, off, none⟩) l.length c0) := hf 3 (by simp)
          have f4 : u 4 = (.int .i64 (k : Int)) := hf 4 (by simp)
          have f5 : u 5 = .pointer (some ⟨b, off + k * 3, none⟩) := hf 5 (by simp)
          have f6 : u 6 = .pointer (some ⟨b, off + k * 3, none⟩) := hf 6 (by simp)
          have f7 : u 7 = .int .u8 (x.role.toNat : Int) := hf 7 (by simp)
          have f8 : u 8 = (.slice (some ⟨b, off, none⟩) l.length c0) := hf 8 (by simp)
          have f9 : u 9 = (.int .i64 (k : Int)) := hf 9 (by simp)
          have f10 : u 10 = .pointer (some ⟨b, off + k * 3, none⟩) := hf 10 (by simp)
          have f11 : u 11 = .pointer (some ⟨b, off + k * 3 + 1, none⟩) := hf 11 (by simp)
          have f12 : u 12 = .int .u64 (x.expiry.toNat : Int) := hf 12 (by simp)
          have f13 : u 13 = (.int .i64 (k : Int)) := hf 13 (by simp)
          have f14 : u 14 = .int .i64 ((k : Int) + 1) := hf 14 (by simp)
          have f15 : u 15 = .int .u32 ((k : Int) + 1) := hf 15 (by simp)
          have f16 : u 16 = .agg (tokL T0).toArray := hf 16 (by simp)
          have f17 : u 17 = .tuple #[.agg (tokL T2).toArray, .int .i64 0] := hf 17 (by simp)
          have f18 : u 18 = (.tuple #[.agg (tokL T2).toArray, .int .i64 0]) := hf 18 (by simp)
          have f19 : u 19 = .agg (tokL T2).toArray := hf 19 (by simp)
          have f20 : u 20 = .int .i64 0 := hf 20 (by simp)
          have f21 : ∃ g, u 21 = .pointer (some ⟨g, 0, none⟩) := hf 21 (by simp)
          obtain ⟨g14, f21⟩ := f21
          have f23 : u 23 = (.int .i64 0) := hf 23 (by simp)
          have m22_21 : mask [0, 1, 2, 3, 4, 5, 6, 7, 8, 9, 10, 11, 12, 13, 14, 15, 16, 17, 18, 19, 21] u 21 = u 21 := rfl
          simp only [resOf, spec, RSpec.resAt, List.getD_cons_zero, List.getD_cons_succ, List.flatMap_cons, List.flatMap_nil, List.nil_append, List.cons_append, List.append_nil, List.append_assoc, m22_21, ptrBlk] at S
          clear hf
          simp only [List.length_cons, List.length_nil, Nat.zero_add, Nat.reduceAdd, List.drop_succ_cons, List.drop_zero, f0, f1, f2, f3, f4, f5, f6, f7, f8, f9, f10, f11, f12, f13, f14, f15, f16, f17, f18, f19, f20, f21, f23]
          try simp only [f0, f1, f2, f3, f4, f5, f6, f7, f8, f9, f10, f11, f12, f13, f14, f15, f16, f17, f18, f19, f20, f21, f23, ptrBlk] at S
          clear f0 f1 f2 f3 f4 f5 f6 f7 f8 f9 f10 f11 f12 f13 f14 f15 f16 f17 f18 f19 f20 f21 f23 m22_21
          go_wp2_with (first | ((with_reducible show wpList _ _ _ (⟨_, .load 5 _, _, _, _, _⟩ :: _) _ _); first | (refine step_load1 5 _ _ _ rfl (S.cell pk co) _ Tryd.underlying5 rfl gw ?_) | (refine step_load1 5 _ _ _ rfl (S.row_cell pk _ _ hyr) _ Tryd.underlying5 rfl gw ?_) | (refine step_load1 5 _ _ _ rfl (S.row_cellS pk _ _ hy) _ Tryd.underlying5 rfl gw ?_) | (refine step_load1 5 _ _ _ rfl (S.old_cell hy) _ Tryd.underlying5 rfl gw ?_)) | ((with_reducible show wpList _ _ _ (⟨_, .load 23 _, _, _, _, _⟩ :: _) _ _); first | (refine step_load1 23 _ _ _ rfl (S.cell pk co) _ Tryd.underlying23 rfl gw ?_) | (refine step_load1 23 _ _ _ rfl (S.row_cell pk _ _ hyr) _ Tryd.underlying23 rfl gw ?_) | (refine step_load1 23 _ _ _ rfl (S.row_cellS pk _ _ hy) _ Tryd.underlying23 rfl gw ?_) | (refine step_load1 23 _ _ _ rfl (S.old_cell hy) _ Tryd.underlying23 rfl gw ?_)) | ((with_reducible show wpList _ _ _ (⟨some 14, .alloc 27, _, _, _, _⟩ :: _) _ _); refine step_alloc (dst := some 14) S 27 (.agg ((tokL tokZ).toArray)) ((tokL tokZ).toArray) (by kernel_rfl) rfl gw ?_; clear S; intro g14 w S) | ((with_reducible show wpList _ _ _ (⟨none, .store 27 (.tmp 14) (.tmp 84), _, _, _, _⟩ :: _) _ _); refine step_store S 27 (.tmp 14) (.tmp 84) _ _ rfl rfl _ _ pk 36 (by kernel_rfl) (by first | rfl | (first | rfl | assumption | (exact Hid.out (by assumption)) | (exact tokL_size _) | (rw [arr8_size]; first | rfl | assumption | (exact Hid.out (by assumption)) | exact tokL_size _ | exact List.length_replicate ..) | (simp [arr8_size]; done))) (by first | rfl | (first | rfl | assumption | (exact Hid.out (by assumption)) | (exact tokL_size _) | (rw [arr8_size]; first | rfl | assumption | (exact Hid.out (by assumption)) | exact tokL_size _ | exact List.length_replicate ..) | (simp [arr8_size]; done))) on1 gw ?_; clear S; intro w S) | ((with_reducible show wpList _ _ _ (⟨_, .load 27 _, _, _, _, _⟩ :: _) _ _); first | (refine step_load S 27 _ _ rfl _ _ _ pk _ Tryd.underlying27 rfl 36 (by kernel_rfl) (by first | rfl | (first | rfl | assumption | (exact Hid.out (by assumption)) | (exact tokL_size _) | (rw [arr8_size]; first | rfl | assumption | (exact Hid.out (by assumption)) | exact tokL_size _ | exact List.length_replicate ..) | (simp [arr8_size]; done))) gw ?_) | (refine step_loadO 27 _ _ rfl _ _ _ (S.old_heap (Hid.out (by assumption))) _ Tryd.underlying27 rfl 36 (by kernel_rfl) (by first | rfl | (first | rfl | assumption | (exact Hid.out (by assumption)) | (exact tokL_size _) | (rw [arr8_size]; first | rfl | assumption | (exact Hid.out (by assumption)) | exact tokL_size _ | exact List.length_replicate ..) | (simp [arr8_size]; done))) gw ?_) | (refine step_loadR 27 _ _ _ rfl _ (S.old_range hy) _ Tryd.underlying27 rfl 36 (by kernel_rfl) (by first | rfl | (first | rfl | assumption | (exact Hid.out (by assumption)) | (exact tokL_size _) | (rw [arr8_size]; first | rfl | assumption | (exact Hid.out (by assumption)) | exact tokL_size _ | exact List.length_replicate ..) | (simp [arr8_size]; done))) _ rfl gw ?_)) | (go_at_call 29; (with_reducible refine (P7.out _ (S.old H1.out) (S.oldB H2.out) (S.kt HK.out) (S.pt HP.out)).mono ?_); rintro e w1 ⟨rfl, T⟩; replace S := S.call T; clear T; (try simp only [List.nil_append, List.cons_append] at S)) | ((with_reducible show wpList _ _ _ (⟨_, .load 24 _, _, _, _, _⟩ :: _) _ _); first | (refine step_load1 24 _ _ _ rfl (S.cell pk co) _ Tryd.underlying24 rfl gw ?_) | (refine step_load1 24 _ _ _ rfl (S.row_cell pk _ _ hyr) _ Tryd.underlying24 rfl gw ?_) | (refine step_load1 24 _ _ _ rfl (S.row_cellS pk _ _ hy) _ Tryd.underlying24 rfl gw ?_) | (refine step_load1 24 _ _ _ rfl (S.old_cell hy) _ Tryd.underlying24 rfl gw ?_)) | fail)
          go_roundw
          case rel => exact ⟨k + 1, by omega, by rw [HNEXT.out], by go_num, S.sub (by repeat (first | exact Sub.nil _ | refine Sub.cons pk ?_))⟩
          all_goals first | omega | (simp only [intOf]; omega)
      | true =>
        rw [hb] at hstep hW
        have hnext : (liveK l now (k + 1)).length = m + 1 := by rw [hstep, hm]; simp
        have hE0 : E = 0 := by simpa using hW
        subst hE0
        have hA2 := hA hb hlt
        have hmX : m < X.length := (List.getElem?_eq_some_iff.1 hA2).1
        have hXm : (X.map fun x => Value.int .u32 (x.toNat : Int))[m]? = some (.int .u32 ((k : Int) + 1)) := by rw [List.getElem?_map, hA2]; simp only [Option.map_some]; rw [f3]
        have hmi : ¬ (X.length : Int) ≤ (m : Int) := by omega
        have hmi2 : (m : Int) < (X.length : Int) := by omega
        obtain ⟨g10, cc, hg10, _⟩ := S.row_at (v := .slice a10 X.length c10) pk (by omega)
        simp only [Value.slice.injEq, true_and] at hg10
        obtain ⟨rfl, rfl⟩ := hg10
        clear hstep hm hA hA2 hW hb hT2 hx
        have HR := Lib.hid hr; have G1 := Lib.hid g1; have G2 := Lib.hid g2; have G3 := Lib.hid g3; have HT0 := Lib.hid hT0; have P6 := Lib.hid p6; have P7 := Lib.hid p7; have F3 := Lib.hid f3; have HNEXT := Lib.hid hnext; have HXM := Lib.hid hXm; clear hr g1 g2 g3 hT0 p6 p7 f3 hnext hXm
        go_wp2_with (first | ((with_reducible show wpList _ _ _ (⟨_, .load 5 _, _, _, _, _⟩ :: _) _ _); first | (refine step_load1 5 _ _ _ rfl (S.cell pk co) _ Tryd.underlying5 rfl gw ?_) | (refine step_load1 5 _ _ _ rfl (S.row_cell pk _ _ hyr) _ Tryd.underlying5 rfl gw ?_) | (refine step_load1 5 _ _ _ rfl (S.row_cellS pk _ _ hy) _ Tryd.underlying5 rfl gw ?_) | (refine step_load1 5 _ _ _ rfl (S.old_cell hy) _ Tryd.underlying5 rfl gw ?_)) | ((with_reducible show wpList _ _ _ (⟨_, .load 23 _, _, _, _, _⟩ :: _) _ _); first | (refine step_load1 23 _ _ _ rfl (S.cell pk co) _ Tryd.underlying23 rfl gw ?_) | (refine step_load1 23 _ _ _ rfl (S.row_cell pk _ _ hyr) _ Tryd.underlying23 rfl gw ?_) | (refine step_load1 23 _ _ _ rfl (S.row_cellS pk _ _ hy) _ Tryd.underlying23 rfl gw ?_) | (refine step_load1 23 _ _ _ rfl (S.old_cell hy) _ Tryd.underlying23 rfl gw ?_)) | ((with_reducible show wpList _ _ _ (⟨some 14, .alloc 27, _, _, _, _⟩ :: _) _ _); refine step_alloc (dst := some 14) S 27 (.agg ((tokL tokZ).toArray)) ((tokL tokZ).toArray) (by kernel_rfl) rfl gw ?_; clear S; intro g14 w S) | ((with_reducible show wpList _ _ _ (⟨none, .store 27 (.tmp 14) (.tmp 84), _, _, _, _⟩ :: _) _ _); refine step_store S 27 (.tmp 14) (.tmp 84) _ _ rfl rfl _ _ pk 36 (by kernel_rfl) (by first | rfl | (first | rfl | assumption | (exact Hid.out (by assumption)) | (exact tokL_size _) | (rw [arr8_size]; first | rfl | assumption | (exact Hid.out (by assumption)) | exact tokL_size _ | exact List.length_replicate ..) | (simp [arr8_size]; done))) (by first | rfl | (first | rfl | assumption | (exact Hid.out (by assumption)) | (exact tokL_size _) | (rw [arr8_size]; first | rfl | assumption | (exact Hid.out (by assumption)) | exact tokL_size _ | exact List.length_replicate ..) | (simp [arr8_size]; done))) on1 gw ?_; clear S; intro w S) | ((with_reducible show wpList _ _ _ (⟨_, .load 27 _, _, _, _, _⟩ :: _) _ _); first | (refine step_load S 27 _ _ rfl _ _ _ pk _ Tryd.underlying27 rfl 36 (by kernel_rfl) (by first | rfl | (first | rfl | assumption | (exact Hid.out (by assumption)) | (exact tokL_size _) | (rw [arr8_size]; first | rfl | assumption | (exact Hid.out (by assumption)) | exact tokL_size _ | exact List.length_replicate ..) | (simp [arr8_size]; done))) gw ?_) | (refine step_loadO 27 _ _ rfl _ _ _ (S.old_heap (Hid.out (by assumption))) _ Tryd.underlying27 rfl 36 (by kernel_rfl) (by first | rfl | (first | rfl | assumption | (exact Hid.out (by assumption)) | (exact tokL_size _) | (rw [arr8_size]; first | rfl | assumption | (exact Hid.out (by assumption)) | exact tokL_size _ | exact List.length_replicate ..) | (simp [arr8_size]; done))) gw ?_) | (refine step_loadR 27 _ _ _ rfl _ (S.old_range hy) _ Tryd.underlying27 rfl 36 (by kernel_rfl) (by first | rfl | (first | rfl | assumption | (exact Hid.out (by assumption)) | (exact tokL_size _) | (rw [arr8_size]; first | rfl | assumption | (exact Hid.out (by assumption)) | exact tokL_size _ | exact List.length_replicate ..) | (simp [arr8_size]; done))) _ rfl gw ?_)) | ((with_reducible show wpList _ _ _ (⟨_, .load 24 _, _, _, _, _⟩ :: _) _ _); first | (refine step_load1 24 _ _ _ rfl (S.cell pk co) _ Tryd.underlying24 rfl gw ?_) | (refine step_load1 24 _ _ _ rfl (S.row_cell pk _ _ hyr) _ Tryd.underlying24 rfl gw ?_) | (refine step_load1 24 _ _ _ rfl (S.row_cellS pk _ _ hy) _ Tryd.underlying24 rfl gw ?_) | (refine step_load1 24 _ _ _ rfl (S.old_cell hy) _ Tryd.underlying24 rfl gw ?_)) | fail)
        refine wp_rely S [⟨[], [], [], fun _ v => v = (.slice a1 key.length c1), fun _ v => []⟩, ⟨[], [], [], fun _ v => v = (.int .i64 tenant), fun _ v => []⟩, ⟨[1], [], [], fun _ v => v = .int .u8 tenant, fun _ v => []⟩, ⟨[], [], [], fun _ v => v = (.slice (some ⟨b, off, none⟩) l.length c0), fun _ v => []⟩, ⟨[], [], [], fun _ v => v = (.int .i64 (k : Int)), fun _ v => []⟩, ⟨[3, 4], [], [], fun _ v => v = .pointer (some ⟨b, off + k * 3, none⟩), fun _ v => []⟩, ⟨[3, 4, 5], [], [], fun _ v => v = .pointer (some ⟨b, off + k * 3, none⟩), fun _ v => []⟩, ⟨[3, 4, 5, 6], [], [], fun _ v => v = .int .u8 (x.role.toNat : Int), fun _ v => []⟩, ⟨[], [], [], fun _ v => v = (.slice (some ⟨b, off, none⟩) l.length c0), fun _ v => []⟩, ⟨[], [], [], fun _ v => v = (.int .i64 (k : Int)), fun _ v => []⟩, ⟨[8, 9], [], [], fun _ v => v = .pointer (some ⟨b, off + k * 3, none⟩), fun _ v => []⟩, ⟨[8, 9, 10], [], [], fun _ v => v = .pointer (some ⟨b, off + k * 3 + 1, none⟩), fun _ v => []⟩, ⟨[8, 9, 10, 11], [], [], fun _ v => v = .int .u64 (x.expiry.toNat : Int), fun _ v => []⟩, ⟨[], [], [], fun _ v => v = (.int .i64 (k : Int)), fun _ v => []⟩, ⟨[13], [], [], fun _ v => v = .int .i64 ((k : Int) + 1), fun _ v => []⟩, ⟨[13, 14], [], [], fun _ v => v = .int .u32 ((k : Int) + 1), fun _ v => []⟩, ⟨[1, 2, 3, 4, 5, 6, 7, 8, 9, 10, 11, 12, 13, 14, 15], [], [], fun _ v => v = .agg (tokL T0).toArray, fun _ v => []⟩, ⟨[0, 1, 2, 3, 4, 5, 6, 7, 8, 9, 10, 11, 12, 13, 14, 15, 16], [], [], fun _ v => v = .tuple #[.agg (tokL T2).toArray, .int .i64 0], fun _ v => []⟩, ⟨[0, 1, 2, 3, 4, 5, 6, 7, 8, 9, 10, 11, 12, 13, 14, 15, 16, 17], [], [], fun _ v => v = (.tuple #[.agg (tokL T2).toArray, .int .i64 0]), fun _ v => []⟩, ⟨[0, 1, 2, 3, 4, 5, 6, 7, 8, 9, 10, 11, 12, 13, 14, 15, 16, 17, 18], [], [], fun _ v => v = .agg (tokL T2).toArray, fun _ v => []⟩, ⟨[0, 1, 2, 3, 4, 5, 6, 7, 8, 9, 10, 11, 12, 13, 14, 15, 16, 17, 18], [], [], fun _ v => v = .int .i64 0, fun _ v => []⟩, ⟨[], [], [], fun _ v => ∃ g, v = .pointer (some ⟨g, 0, none⟩), fun _ v => [blk (ptrBlk v) (.cells ((tokL tokZ).toArray) 27 (0, 0))]⟩, ⟨[0, 1, 2, 3, 4, 5, 6, 7, 8, 9, 10, 11, 12, 13, 14, 15, 16, 17, 18, 19, 21], [21], [], fun _ v => True, fun d v => [blk (ptrBlk (d 21)) (.cells ((tokL T2).toArray) 27 (0, 0))]⟩, ⟨[0, 1, 2, 3, 4, 5, 6, 7, 8, 9, 10, 11, 12, 13, 14, 15, 16, 17, 18, 19, 20, 21, 22], [], [], fun _ v => v = (.int .i64 0), fun _ v => []⟩] ?A2 ?hA2 (by kernel_rfl) (by kernel_rfl) (by kernel_rfl) [0, 1, 2, 3, 4, 5, 6, 7, 8, 9, 10, 11, 12, 13, 14, 15, 16, 17, 18, 19, 20, 22, 23] (by kernel_rfl) ?hok2 ?fin2
        case hA2 => intro u; simp only [putAll, List.length_cons, List.length_nil, Nat.zero_add, Nat.reduceAdd, dstAt, List.getElem?_toArray, List.getElem?_cons_zero, List.getElem?_cons_succ, Option.bind_some, Act.put, List.setIfInBounds_toArray, List.set_cons_zero, List.set_cons_succ]; rfl
        case hok2 =>
          intro i hi
          obtain rfl | rfl | rfl | rfl | rfl | rfl | rfl | rfl | rfl | rfl | rfl | rfl | rfl | rfl | rfl | rfl | rfl | rfl | rfl | rfl | rfl | rfl | rfl | rfl : i = 0 ∨ i = 1 ∨ i = 2 ∨ i = 3 ∨ i = 4 ∨ i = 5 ∨ i = 6 ∨ i = 7 ∨ i = 8 ∨ i = 9 ∨ i = 10 ∨ i = 11 ∨ i = 12 ∨ i = 13 ∨ i = 14 ∨ i = 15 ∨ i = 16 ∨ i = 17 ∨ i = 18 ∨ i = 19 ∨ i = 20 ∨ i = 21 ∨ i = 22 ∨ i = 23 := by simp only [List.length_cons, List.length_nil, Nat.zero_add, Nat.reduceAdd] at hi; omega
          · clear hi
            refine step_of rfl rfl rfl ?_
            intro u G w hf S
            simp only [resOf, spec, RSpec.resAt, z0, z1, z2, z3, z4, z5, z6, z7, ptrBlk] at S ⊢
            simp only [does]
            go_simp
            try first | exact S | exact ⟨vv, S⟩ | exact vv
          · clear hi
            refine step_of rfl rfl rfl ?_
            intro u G w hf S
            simp only [resOf, spec, RSpec.resAt, z0, z1, z2, z3, z4, z5, z6, z7, ptrBlk] at S ⊢
            simp only [does]
            go_simp
            try first | exact S | exact ⟨vv, S⟩ | exact vv
          · clear hi
            refine step_of rfl rfl rfl ?_
            intro u G w hf S
            have f1 : u 1 = (.int .i64 tenant) := hf 1 (by simp)
            simp only [resOf, spec, RSpec.resAt, z0, z1, z2, z3, z4, z5, z6, z7, ptrBlk] at S ⊢
            simp only [f1]
            simp only [does]
            go_simp
            try first | exact S | exact ⟨vv, S⟩ | exact vv
          · clear hi
            refine step_of rfl rfl rfl ?_
            intro u G w hf S
            simp only [resOf, spec, RSpec.resAt, z0, z1, z2, z3, z4, z5, z6, z7, ptrBlk] at S ⊢
            simp only [does]
            go_simp
            try first | exact S | exact ⟨vv, S⟩ | exact vv
          · clear hi
            refine step_of rfl rfl rfl ?_
            intro u G w hf S
            simp only [resOf, spec, RSpec.resAt, z0, z1, z2, z3, z4, z5, z6, z7, ptrBlk] at S ⊢
            simp only [does]
            go_simp
            try first | exact S | exact ⟨vv, S⟩ | exact vv
          · clear hi
            refine step_of rfl rfl rfl ?_
            intro u G w hf S
            have f3 : u 3 = (.slice (some ⟨b, off, none⟩) l.length c0) := hf 3 (by simp)
            have f4 : u 4 = (.int .i64 (k : Int)) := hf 4 (by simp)
            simp only [resOf, spec, RSpec.resAt, z0, z1, z2, z3, z4, z5, z6, z7, ptrBlk] at S ⊢
            simp only [f3, f4]
            simp only [does]
            go_simp
            try first | exact S | exact ⟨vv, S⟩ | exact vv
          · clear hi
            refine step_of rfl rfl rfl ?_
            intro u G w hf S
            have f3 : u 3 = (.slice (some ⟨b, off, none⟩) l.length c0) := hf 3 (by simp)
            have f4 : u 4 = (.int .i64 (k : Int)) := hf 4 (by simp)
            have f5 : u 5 = .pointer (some ⟨b, off + k * 3, none⟩) := hf 5 (by simp)
            simp only [resOf, spec, RSpec.resAt, z0, z1, z2, z3, z4, z5, z6, z7, ptrBlk] at S ⊢
            simp only [f3, f4, f5]
            simp only [does]
            go_simp
            try first | exact S | exact ⟨vv, S⟩ | exact vv
          · clear hi
            refine step_of rfl rfl rfl ?_
            intro u G w hf S
            have f3 : u 3 = (.slice (some ⟨b, off, none⟩) l.length c0) := hf 3 (by simp)
            have f4 : u 4 = (.int .i64 (k : Int)) := hf 4 (by simp)
            have f5 : u 5 = .pointer (some ⟨b, off + k * 3, none⟩) := hf 5 (by simp)
            have f6 : u 6 = .pointer (some ⟨b, off + k * 3, none⟩) := hf 6 (by simp)
            simp only [resOf, spec, RSpec.resAt, z0, z1, z2, z3, z4, z5, z6, z7, ptrBlk] at S ⊢
            simp only [f3, f4, f5, f6]
            refine does_load1 5 (.tmp 72) _ _ rfl (S.old_cell hy) _ Tryd.underlying5 rfl ?_; exact ⟨rfl, S⟩
          · clear hi
            refine step_of rfl rfl rfl ?_
            intro u G w hf S
            simp only [resOf, spec, RSpec.resAt, z0, z1, z2, z3, z4, z5, z6, z7, ptrBlk] at S ⊢
            simp only [does]
            go_simp
            try first | exact S | exact ⟨vv, S⟩ | exact vv
          · clear hi
            refine step_of rfl rfl rfl ?_
            intro u G w hf S
            simp only [resOf, spec, RSpec.resAt, z0, z1, z2, z3, z4, z5, z6, z7, ptrBlk] at S ⊢
            simp only [does]
            go_simp
            try first | exact S | exact ⟨vv, S⟩ | exact vv
          · clear hi
            refine step_of rfl rfl rfl ?_
            intro u G w hf S
            have f8 : u 8 = (.slice (some ⟨b, off, none⟩) l.length c0) := hf 8 (by simp)
            have f9 : u 9 = (.int .i64 (k : Int)) := hf 9 (by simp)
            simp only [resOf, spec, RSpec.resAt, z0, z1, z2, z3, z4, z5, z6, z7, ptrBlk] at S ⊢
            simp only [f8, f9]
            simp only [does]
            go_simp
            try first | exact S | exact ⟨vv, S⟩ | exact vv
          · clear hi
            refine step_of rfl rfl rfl ?_
            intro u G w hf S
            have f8 : u 8 = (.slice (some ⟨b, off, none⟩) l.length c0) := hf 8 (by simp)
            have f9 : u 9 = (.int .i64 (k : Int)) := hf 9 (by simp)
            have f10 : u 10 = .pointer (some ⟨b, off + k * 3, none⟩) := hf 10 (by simp)
            simp only [resOf, spec, RSpec.resAt, z0, z1, z2, z3, z4, z5, z6, z7, ptrBlk] at S ⊢
            simp only [f8, f9, f10]
            simp only [does]
            go_simp
            try first | exact S | exact ⟨vv, S⟩ | exact vv
          · clear hi
            refine step_of rfl rfl rfl ?_
            intro u G w hf S
            have f8 : u 8 = (.slice (some ⟨b, off, none⟩) l.length c0) := hf 8 (by simp)
            have f9 : u 9 = (.int .i64 (k : Int)) := hf 9 (by simp)
            have f10 : u 10 = .pointer (some ⟨b, off + k * 3, none⟩) := hf 10 (by simp)
            have f11 : u 11 = .pointer (some ⟨b, off + k * 3 + 1, none⟩) := hf 11 (by simp)
            simp only [resOf, spec, RSpec.resAt, z0, z1, z2, z3, z4, z5, z6, z7, ptrBlk] at S ⊢
            simp only [f8, f9, f10, f11]
            refine does_load1 23 (.tmp 77) _ _ rfl (S.old_cell hy) _ Tryd.underlying23 rfl ?_; exact ⟨rfl, S⟩
          · clear hi
            refine step_of rfl rfl rfl ?_
            intro u G w hf S
            simp only [resOf, spec, RSpec.resAt, z0, z1, z2, z3, z4, z5, z6, z7, ptrBlk] at S ⊢
            simp only [does]
            go_simp
            try first | exact S | exact ⟨vv, S⟩ | exact vv
          · clear hi
            refine step_of rfl rfl rfl ?_
            intro u G w hf S
            have f13 : u 13 = (.int .i64 (k : Int)) := hf 13 (by simp)
            simp only [resOf, spec, RSpec.resAt, z0, z1, z2, z3, z4, z5, z6, z7, ptrBlk] at S ⊢
            simp only [f13]
            simp only [does]
            go_simp
            try first | exact S | exact ⟨vv, S⟩ | exact vv
          · clear hi
            refine step_of rfl rfl rfl ?_
            intro u G w hf S
            have f13 : u 13 = (.int .i64 (k : Int)) := hf 13 (by simp)
            have f14 : u 14 = .int .i64 ((k : Int) + 1) := hf 14 (by simp)
            simp only [resOf, spec, RSpec.resAt, z0, z1, z2, z3, z4, z5, z6, z7, ptrBlk] at S ⊢
            simp only [f13, f14]
            simp only [does]
            go_simp
            try first | exact S | exact ⟨vv, S⟩ | exact vv
          · clear hi
            refine step_of rfl rfl rfl ?_
            intro u G w hf S
            have f1 : u 1 = (.int .i64 tenant) := hf 1 (by simp)
            have f2 : u 2 = .int .u8 tenant := hf 2 (by simp)
            have f3 : u 3 = (.slice (some ⟨b, off, none⟩) l.length c0) := hf 3 (by simp)
            have f4 : u 4 = (.int .i64 (k : Int)) := hf 4 (by simp)
            have f5 : u 5 = .pointer (some ⟨b, off + k * 3, none⟩) := hf 5 (by simp)
            have f6 : u 6 = .pointer (some ⟨b, off + k * 3, none⟩) := hf 6 (by simp)
            have f7 : u 7 = .int .u8 (x.role.toNat : Int) := hf 7 (by simp)
            have f8 : u 8 = (.slice (some ⟨b, off, none⟩) l.length c0) := hf 8 (by simp)
            have f9 : u 9 = (.int .i64 (k : Int)) := hf 9 (by simp)
            have f10 : u 10 = .pointer (some ⟨b, off + k * 3, none⟩) := hf 10 (by simp)
            have f11 : u 11 = .pointer (some ⟨b, off + k * 3 + 1, none⟩) := hf 11 (by simp)
            have f12 : u 12 = .int .u64 (x.expiry.toNat : Int) := hf 12 (by simp)
            have f13 : u 13 = (.int .i64 (k : Int)) := hf 13 (by simp)
            have f14 : u 14 = .int .i64 ((k : Int) + 1) := hf 14 (by simp)
            have f15 : u 15 = .int .u32 ((k : Int) + 1) := hf 15 (by simp)
            simp only [resOf, spec, RSpec.resAt, z0, z1, z2, z3, z4, z5, z6, z7, ptrBlk] at S ⊢
            simp only [f1, f2, f3, f4, f5, f6, f7, f8, f9, f10, f11, f12, f13, f14, f15]
            rw [HT0.out]; refine does_buildT4 _ _ _ _ (UInt8.ofNat tenant.toNat) x.role x.expiry (UInt32.ofNat (k + 1)) (show Value.int IntKind.u8 _ = Value.int IntKind.u8 _ by rw [F0.out]) rfl rfl (show Value.int IntKind.u32 _ = Value.int IntKind.u32 _ by rw [F3.out]) ?_; exact ⟨rfl, S⟩
          · clear hi
            refine step_of rfl rfl rfl ?_
            intro u G w hf S
            have f0 : u 0 = (.slice a1 key.length c1) := hf 0 (by simp)
            have f1 : u 1 = (.int .i64 tenant) := hf 1 (by simp)
            have f2 : u 2 = .int .u8 tenant := hf 2 (by simp)
            have f3 : u 3 = (.slice (some ⟨b, off, none⟩) l.length c0) := hf 3 (by simp)
            have f4 : u 4 = (.int .i64 (k : Int)) := hf 4 (by simp)
            have f5 : u 5 = .pointer (some ⟨b, off + k * 3, none⟩) := hf 5 (by simp)
            have f6 : u 6 = .pointer (some ⟨b, off + k * 3, none⟩) := hf 6 (by simp)
            have f7 : u 7 = .int .u8 (x.role.toNat : Int) := hf 7 (by simp)
            have f8 : u 8 = (.slice (some ⟨b, off, none⟩) l.length c0) := hf 8 (by simp)
            have f9 : u 9 = (.int .i64 (k : Int)) := hf 9 (by simp)
            have f10 : u 10 = .pointer (some ⟨b, off + k * 3, none⟩) := hf 10 (by simp)
            have f11 : u 11 = .pointer (some ⟨b, off + k * 3 + 1, none⟩) := hf 11 (by simp)
            have f12 : u 12 = .int .u64 (x.expiry.toNat : Int) := hf 12 (by simp)
            have f13 : u 13 = (.int .i64 (k : Int)) := hf 13 (by simp)
            have f14 : u 14 = .int .i64 ((k : Int) + 1) := hf 14 (by simp)
            have f15 : u 15 = .int .u32 ((k : Int) + 1) := hf 15 (by simp)
            have f16 : u 16 = .agg (tokL T0).toArray := hf 16 (by simp)
            simp only [resOf, spec, RSpec.resAt, z0, z1, z2, z3, z4, z5, z6, z7, ptrBlk] at S ⊢
            simp only [f0, f1, f2, f3, f4, f5, f6, f7, f8, f9, f10, f11, f12, f13, f14, f15, f16]
            refine does_fn (args := [((.slice a1 key.length c1)), (.agg (tokL T0).toArray)]) Tryd.func20 (by kernel_rfl) (by kernel_rfl) (P6.out w (S.oldB H2.out) (S.kt HK.out)) rfl ?_
            rintro e w1 ⟨rfl, T⟩
            exact ⟨_, rfl, rfl, S.call T⟩
          · clear hi
            refine step_of rfl rfl rfl ?_
            intro u G w hf S
            have f0 : u 0 = (.slice a1 key.length c1) := hf 0 (by simp)
            have f1 : u 1 = (.int .i64 tenant) := hf 1 (by simp)
            have f2 : u 2 = .int .u8 tenant := hf 2 (by simp)
            have f3 : u 3 = (.slice (some ⟨b, off, none⟩) l.length c0) := hf 3 (by simp)
            have f4 : u 4 = (.int .i64 (k : Int)) := hf 4 (by simp)
            have f5 : u 5 = .pointer (some ⟨b, off + k * 3, none⟩) := hf 5 (by simp)
            have f6 : u 6 = .pointer (some ⟨b, off + k * 3, none⟩) := hf 6 (by simp)
            have f7 : u 7 = .int .u8 (x.role.toNat : Int) := hf 7 (by simp)
            have f8 : u 8 = (.slice (some ⟨b, off, none⟩) l.length c0) := hf 8 (by simp)
            have f9 : u 9 = (.int .i64 (k : Int)) := hf 9 (by simp)
            have f10 : u 10 = .pointer (some ⟨b, off + k * 3, none⟩) := hf 10 (by simp)
            have f11 : u 11 = .pointer (some ⟨b, off + k * 3 + 1, none⟩) := hf 11 (by simp)
            have f12 : u 12 = .int .u64 (x.expiry.toNat : Int) := hf 12 (by simp)
            have f13 : u 13 = (.int .i64 (k : Int)) := hf 13 (by simp)
            have f14 : u 14 = .int .i64 ((k : Int) + 1) := hf 14 (by simp)
            have f15 : u 15 = .int .u32 ((k : Int) + 1) := hf 15 (by simp)
            have f16 : u 16 = .agg (tokL T0).toArray := hf 16 (by simp)
            have f17 : u 17 = .tuple #[.agg (tokL T2).toArray, .int .i64 0] := hf 17 (by simp)
            simp only [resOf, spec, RSpec.resAt, z0, z1, z2, z3, z4, z5, z6, z7, ptrBlk] at S ⊢
            simp only [f0, f1, f2, f3, f4, f5, f6, f7, f8, f9, f10, f11, f12, f13, f14, f15, f16, f17]
            simp only [does]
            go_simp
            try first | exact S | exact ⟨vv, S⟩ | exact vv
          · clear hi
            refine step_of rfl rfl rfl ?_
            intro u G w hf S
            have f0 : u 0 = (.slice a1 key.length c1) := hf 0 (by simp)
            have f1 : u 1 = (.int .i64 tenant) := hf 1 (by simp)
            have f2 : u 2 = .int .u8 tenant := hf 2 (by simp)
            have f3 : u 3 = (.slice (some ⟨b, off, none⟩) l.length c0) := hf 3 (by simp)
            have f4 : u 4 = (.int .i64 (k : Int)) := hf 4 (by simp)
            have f5 : u 5 = .pointer (some ⟨b, off + k * 3, none⟩) := hf 5 (by simp)
            have f6 : u 6 = .pointer (some ⟨b, off + k * 3, none⟩) := hf 6 (by simp)
            have f7 : u 7 = .int .u8 (x.role.toNat : Int) := hf 7 (by simp)
            have f8 : u 8 = (.slice (some ⟨b, off, none⟩) l.length c0) := hf 8 (by simp)
            have f9 : u 9 = (.int .i64 (k : Int)) := hf 9 (by simp)
            have f10 : u 10 = .pointer (some ⟨b, off + k * 3, none⟩) := hf 10 (by simp)
            have f11 : u 11 = .pointer (some ⟨b, off + k * 3 + 1, none⟩) := hf 11 (by simp)
            have f12 : u 12 = .int .u64 (x.expiry.toNat : Int) := hf 12 (by simp)
            have f13 : u 13 = (.int .i64 (k : Int)) := hf 13 (by simp)
            have f14 : u 14 = .int .i64 ((k : Int) + 1) := hf 14 (by simp)
            have f15 : u 15 = .int .u32 ((k : Int) + 1) := hf 15 (by simp)
            have f16 : u 16 = .agg (tokL T0).toArray := hf 16 (by simp)
            have f17 : u 17 = .tuple #[.agg (tokL T2).toArray, .int .i64 0] := hf 17 (by simp)
            have f18 : u 18 = (.tuple #[.agg (tokL T2).toArray, .int .i64 0]) := hf 18 (by simp)
            simp only [resOf, spec, RSpec.resAt, z0, z1, z2, z3, z4, z5, z6, z7, ptrBlk] at S ⊢
            simp only [f0, f1, f2, f3, f4, f5, f6, f7, f8, f9, f10, f11, f12, f13, f14, f15, f16, f17, f18]
            simp only [does]
            go_simp
            try first | exact S | exact ⟨vv, S⟩ | exact vv
          · clear hi
            refine step_of rfl rfl rfl ?_
            intro u G w hf S
            have f0 : u 0 = (.slice a1 key.length c1) := hf 0 (by simp)
            have f1 : u 1 = (.int .i64 tenant) := hf 1 (by simp)
            have f2 : u 2 = .int .u8 tenant := hf 2 (by simp)
            have f3 : u 3 = (.slice (some ⟨b, off, none⟩) l.length c0) := hf 3 (by simp)
            have f4 : u 4 = (.int .i64 (k : Int)) := hf 4 (by simp)
            have f5 : u 5 = .pointer (some ⟨b, off + k * 3, none⟩) := hf 5 (by simp)
            have f6 : u 6 = .pointer (some ⟨b, off + k * 3, none⟩) := hf 6 (by simp)
            have f7 : u 7 = .int .u8 (x.role.toNat : Int) := hf 7 (by simp)
            have f8 : u 8 = (.slice (some ⟨b, off, none⟩) l.length c0) := hf 8 (by simp)
            have f9 : u 9 = (.int .i64 (k : Int)) := hf 9 (by simp)
            have f10 : u 10 = .pointer (some ⟨b, off + k * 3, none⟩) := hf 10 (by simp)
            have f11 : u 11 = .pointer (some ⟨b, off + k * 3 + 1, none⟩) := hf 11 (by simp)
            have f12 : u 12 = .int .u64 (x.expiry.toNat : Int) := hf 12 (by simp)
            have f13 : u 13 = (.int .i64 (k : Int)) := hf 13 (by simp)
            have f14 : u 14 = .int .i64 ((k : Int) + 1) := hf 14 (by simp)
            have f15 : u 15 = .int .u32 ((k : Int) + 1) := hf 15 (by simp)
            have f16 : u 16 = .agg (tokL T0).toArray := hf 16 (by simp)
            have f17 : u 17 = .tuple #[.agg (tokL T2).toArray, .int .i64 0] := hf 17 (by simp)
            have f18 : u 18 = (.tuple #[.agg (tokL T2).toArray, .int .i64 0]) := hf 18 (by simp)
            simp only [resOf, spec, RSpec.resAt, z0, z1, z2, z3, z4, z5, z6, z7, ptrBlk] at S ⊢
            simp only [f0, f1, f2, f3, f4, f5, f6, f7, f8, f9, f10, f11, f12, f13, f14, f15, f16, f17, f18]
            simp only [does]
            go_simp
            try first | exact S | exact ⟨vv, S⟩ | exact vv
          · clear hi
            refine step_of rfl rfl rfl ?_
            intro u G w hf S
            simp only [resOf, spec, RSpec.resAt, z0, z1, z2, z3, z4, z5, z6, z7, ptrBlk] at S ⊢
            refine does_alloc S 27 (.agg ((tokL tokZ).toArray)) ((tokL tokZ).toArray) (by kernel_rfl) rfl ?_; intro g w1 S; exact ⟨⟨g, rfl⟩, S⟩
          · clear hi
            refine step_of rfl rfl rfl ?_
            intro u G w hf S
            have f0 : u 0 = (.slice a1 key.length c1) := hf 0 (by simp)
            have f1 : u 1 = (.int .i64 tenant) := hf 1 (by simp)
            have f2 : u 2 = .int .u8 tenant := hf 2 (by simp)
            have f3 : u 3 = (.slice (some ⟨b, off, none⟩) l.length c0) := hf 3 (by simp)
            have f4 : u 4 = (.int .i64 (k : Int)) := hf 4 (by simp)
            have f5 : u 5 = .pointer (some ⟨b, off + k * 3, none⟩) := hf 5 (by simp)
            have f6 : u 6 = .pointer (some ⟨b, off + k * 3, none⟩) := hf 6 (by simp)
            have f7 : u 7 = .int .u8 (x.role.toNat : Int) := hf 7 (by simp)
            have f8 : u 8 = (.slice (some ⟨b, off, none⟩) l.length c0) := hf 8 (by simp)
            have f9 : u 9 = (.int .i64 (k : Int)) := hf 9 (by simp)
            have f10 : u 10 = .pointer (some ⟨b, off + k * 3, none⟩) := hf 10 (by simp)
            have f11 : u 11 = .pointer (some ⟨b, off + k * 3 + 1, none⟩) := hf 11 (by simp)
            have f12 : u 12 = .int .u64 (x.expiry.toNat : Int) := hf 12 (by simp)
            have f13 : u 13 = (.int .i64 (k : Int)) := hf 13 (by simp)
            have f14 : u 14 = .int .i64 ((k : Int) + 1) := hf 14 (by simp)
            have f15 : u 15 = .int .u32 ((k : Int) + 1) := hf 15 (by simp)
            have f16 : u 16 = .agg (tokL T0).toArray := hf 16 (by simp)
            have f17 : u 17 = .tuple #[.agg (tokL T2).toArray, .int .i64 0] := hf 17 (by simp)
            have f18 : u 18 = (.tuple #[.agg (tokL T2).toArray, .int .i64 0]) := hf 18 (by simp)
            have f19 : u 19 = .agg (tokL T2).toArray := hf 19 (by simp)
            have f21 : ∃ g, u 21 = .pointer (some ⟨g, 0, none⟩) := hf 21 (by simp)
            obtain ⟨g14, f21⟩ := f21
            have m21 : mask [0, 1, 2, 3, 4, 5, 6, 7, 8, 9, 10, 11, 12, 13, 14, 15, 16, 17, 18, 19, 21] u 21 = u 21 := rfl
            simp only [resOf, spec, RSpec.resAt, List.getD_cons_zero, List.getD_cons_succ, List.flatMap_cons, List.flatMap_nil, List.nil_append, List.cons_append, List.append_nil, List.append_assoc, m21, ptrBlk] at S ⊢
            simp only [m21, f0, f1, f2, f3, f4, f5, f6, f7, f8, f9, f10, f11, f12, f13, f14, f15, f16, f17, f18, f19, f21] at S ⊢
            try simp only [ptrBlk] at S
            refine does_store S 27 (.tmp 14) (.tmp 84) _ rfl rfl 36 (by kernel_rfl) (by first | rfl | (first | rfl | assumption | (exact Hid.out (by assumption)) | (exact tokL_size _) | (rw [arr8_size]; first | rfl | assumption | (exact Hid.out (by assumption)) | exact tokL_size _ | exact List.length_replicate ..) | (simp [arr8_size]; done))) (by first | rfl | (first | rfl | assumption | (exact Hid.out (by assumption)) | (exact tokL_size _) | (rw [arr8_size]; first | rfl | assumption | (exact Hid.out (by assumption)) | exact tokL_size _ | exact List.length_replicate ..) | (simp [arr8_size]; done))) on1 ?_; intro w1 S; exact ⟨trivial, S⟩
          · clear hi
            refine step_of rfl rfl rfl ?_
            intro u G w hf S
            have f0 : u 0 = (.slice a1 key.length c1) := hf 0 (by simp)
            have f1 : u 1 = (.int .i64 tenant) := hf 1 (by simp)
            have f2 : u 2 = .int .u8 tenant := hf 2 (by simp)
            have f3 : u 3 = (.slice (some ⟨b, off, none⟩) l.length c0) := hf 3 (by simp)
            have f4 : u 4 = (.int .i64 (k : Int)) := hf 4 (by simp)
            have f5 : u 5 = .pointer (some ⟨b, off + k * 3, none⟩) := hf 5 (by simp)
            have f6 : u 6 = .pointer (some ⟨b, off + k * 3, none⟩) := hf 6 (by simp)
            have f7 : u 7 = .int .u8 (x.role.toNat : Int) := hf 7 (by simp)
            have f8 : u 8 = (.slice (some ⟨b, off, none⟩) l.length c0) := hf 8 (by simp)
            have f9 : u 9 = (.int .i64 (k : Int)) := hf 9 (by simp)
            have f10 : u 10 = .pointer (some ⟨b, off + k * 3, none⟩) := hf 10 (by simp)
            have f11 : u 11 = .pointer (some ⟨b, off + k * 3 + 1, none⟩) := hf 11 (by simp)
            have f12 : u 12 = .int .u64 (x.expiry.toNat : Int) := hf 12 (by simp)
            have f13 : u 13 = (.int .i64 (k : Int)) := hf 13 (by simp)
            have f14 : u 14 = .int .i64 ((k : Int) + 1) := hf 14 (by simp)
            have f15 : u 15 = .int .u32 ((k : Int) + 1) := hf 15 (by simp)
            have f16 : u 16 = .agg (tokL T0).toArray := hf 16 (by simp)
            have f17 : u 17 = .tuple #[.agg (tokL T2).toArray, .int .i64 0] := hf 17 (by simp)
            have f18 : u 18 = (.tuple #[.agg (tokL T2).toArray, .int .i64 0]) := hf 18 (by simp)
            have f19 : u 19 = .agg (tokL T2).toArray := hf 19 (by simp)
            have f20 : u 20 = .int .i64 0 := hf 20 (by simp)
            have f21 : ∃ g, u 21 = .pointer (some ⟨g, 0, none⟩) := hf 21 (by simp)
            obtain ⟨g14, f21⟩ := f21
            simp only [resOf, spec, RSpec.resAt, z0, z1, z2, z3, z4, z5, z6, z7, ptrBlk] at S ⊢
            simp only [f0, f1, f2, f3, f4, f5, f6, f7, f8, f9, f10, f11, f12, f13, f14, f15, f16, f17, f18, f19, f20, f21]
            simp only [does]
            go_simp
            try first | exact S | exact ⟨vv, S⟩ | exact vv
        case fin2 =>
          intro u w hf S
          have f0 : u 0 = (.slice a1 key.length c1) := hf 0 (by simp)
          have f1 : u 1 = (.int .i64 tenant) := hf 1 (by simp)
          have f2 : u 2 = .int .u8 tenant := hf 2 (by simp)
          have f3 : u 3 = (.slice (some ⟨b, off, none⟩) l.length c0) := hf 3 (by simp)
          have f4 : u 4 = (.int .i64 (k : Int)) := hf 4 (by simp)
          have f5 : u 5 = .pointer (some ⟨b, off + k * 3, none⟩) := hf 5 (by simp)
          have f6 : u 6 = .pointer (some ⟨b, off + k * 3, none⟩) := hf 6 (by simp)
          have f7 : u 7 = .int .u8 (x.role.toNat : Int) := hf 7 (by simp)
          have f8 : u 8 = (.slice (some ⟨b, off, none⟩) l.length c0) := hf 8 (by simp)
          have f9 : u 9 = (.int .i64 (k : Int)) := hf 9 (by simp)
          have f10 : u 10 = .pointer (some ⟨b, off + k * 3, none⟩) := hf 10 (by simp)
          have f11 : u 11 = .pointer (some ⟨b, off + k * 3 + 1, none⟩) := hf 11 (by simp)
          have f12 : u 12 = .int .u64 (x.expiry.toNat : Int) := hf 12 (by simp)
          have f13 : u 13 = (.int .i64 (k : Int)) := hf 13 (by simp)
          have f14 : u 14 = .int .i64 ((k : Int) + 1) := hf 14 (by simp)
          have f15 : u 15 = .int .u32 ((k : Int) + 1) := hf 15 (by simp)
          have f16 : u 16 = .agg (tokL T0).toArray := hf 16 (by simp)
          have f17 : u 17 = .tuple #[.agg (tokL T2).toArray, .int .i64 0] := hf 17 (by simp)
          have f18 : u 18 = (.tuple #[.agg (tokL T2).toArray, .int .i64 0]) := hf 18 (by simp)
          have f19 : u 19 = .agg (tokL T2).toArray := hf 19 (by simp)
          have f20 : u 20 = .int .i64 0 := hf 20 (by simp)
          have f21 : ∃ g, u 21 = .pointer (some ⟨g, 0, none⟩) := hf 21 (by simp)
          obtain ⟨g14, f21⟩ := f21
          have f23 : u 23 = (.int .i64 0) := hf 23 (by simp)
          have m22_21 : mask [0, 1, 2, 3, 4, 5, 6, 7, 8, 9, 10, 11, 12, 13, 14, 15, 16, 17, 18, 19, 21] u 21 = u 21 := rfl
          simp only [resOf, spec, RSpec.resAt, List.getD_cons_zero, List.getD_cons_succ, List.flatMap_cons, List.flatMap_nil, List.nil_append, List.cons_append, List.append_nil, List.append_assoc, m22_21, ptrBlk] at S
          clear hf
          simp only [List.length_cons, List.length_nil, Nat.zero_add, Nat.reduceAdd, List.drop_succ_cons, List.drop_zero, f0, f1, f2, f3, f4, f5, f6, f7, f8, f9, f10, f11, f12, f13, f14, f15, f16, f17, f18, f19, f20, f21, f23]
          try simp only [f0, f1, f2, f3, f4, f5, f6, f7, f8, f9, f10, f11, f12, f13, f14, f15, f16, f17, f18, f19, f20, f21, f23, ptrBlk] at S
          clear f0 f1 f2 f3 f4 f5 f6 f7 f8 f9 f10 f11 f12 f13 f14 f15 f16 f17 f18 f19 f20 f21 f23 m22_21
          go_wp2_with (first | ((with_reducible show wpList _ _ _ (⟨_, .load 5 _, _, _, _, _⟩ :: _) _ _); first | (refine step_load1 5 _ _ _ rfl (S.cell pk co) _ Tryd.underlying5 rfl gw ?_) | (refine step_load1 5 _ _ _ rfl (S.row_cell pk _ _ hyr) _ Tryd.underlying5 rfl gw ?_) | (refine step_load1 5 _ _ _ rfl (S.row_cellS pk _ _ hy) _ Tryd.underlying5 rfl gw ?_) | (refine step_load1 5 _ _ _ rfl (S.old_cell hy) _ Tryd.underlying5 rfl gw ?_)) | ((with_reducible show wpList _ _ _ (⟨_, .load 23 _, _, _, _, _⟩ :: _) _ _); first | (refine step_load1 23 _ _ _ rfl (S.cell pk co) _ Tryd.underlying23 rfl gw ?_) | (refine step_load1 23 _ _ _ rfl (S.row_cell pk _ _ hyr) _ Tryd.underlying23 rfl gw ?_) | (refine step_load1 23 _ _ _ rfl (S.row_cellS pk _ _ hy) _ Tryd.underlying23 rfl gw ?_) | (refine step_load1 23 _ _ _ rfl (S.old_cell hy) _ Tryd.underlying23 rfl gw ?_)) | ((with_reducible show wpList _ _ _ (⟨some 14, .alloc 27, _, _, _, _⟩ :: _) _ _); refine step_alloc (dst := some 14) S 27 (.agg ((tokL tokZ).toArray)) ((tokL tokZ).toArray) (by kernel_rfl) rfl gw ?_; clear S; intro g14 w S) | ((with_reducible show wpList _ _ _ (⟨none, .store 27 (.tmp 14) (.tmp 84), _, _, _, _⟩ :: _) _ _); refine step_store S 27 (.tmp 14) (.tmp 84) _ _ rfl rfl _ _ pk 36 (by kernel_rfl) (by first | rfl | (first | rfl | assumption | (exact Hid.out (by assumption)) | (exact tokL_size _) | (rw [arr8_size]; first | rfl | assumption | (exact Hid.out (by assumption)) | exact tokL_size _ | exact List.length_replicate ..) | (simp [arr8_size]; done))) (by first | rfl | (first | rfl | assumption | (exact Hid.out (by assumption)) | (exact tokL_size _) | (rw [arr8_size]; first | rfl | assumption | (exact Hid.out (by assumption)) | exact tokL_size _ | exact List.length_replicate ..) | (simp [arr8_size]; done))) on1 gw ?_; clear S; intro w S) | ((with_reducible show wpList _ _ _ (⟨_, .load 27 _, _, _, _, _⟩ :: _) _ _); first | (refine step_load S 27 _ _ rfl _ _ _ pk _ Tryd.underlying27 rfl 36 (by kernel_rfl) (by first | rfl | (first | rfl | assumption | (exact Hid.out (by assumption)) | (exact tokL_size _) | (rw [arr8_size]; first | rfl | assumption | (exact Hid.out (by assumption)) | exact tokL_size _ | exact List.length_replicate ..) | (simp [arr8_size]; done))) gw ?_) | (refine step_loadO 27 _ _ rfl _ _ _ (S.old_heap (Hid.out (by assumption))) _ Tryd.underlying27 rfl 36 (by kernel_rfl) (by first | rfl | (first | rfl | assumption | (exact Hid.out (by assumption)) | (exact tokL_size _) | (rw [arr8_size]; first | rfl | assumption | (exact Hid.out (by assumption)) | exact tokL_size _ | exact List.length_replicate ..) | (simp [arr8_size]; done))) gw ?_) | (refine step_loadR 27 _ _ _ rfl _ (S.old_range hy) _ Tryd.underlying27 rfl 36 (by kernel_rfl) (by first | rfl | (first | rfl | assumption | (exact Hid.out (by assumption)) | (exact tokL_size _) | (rw [arr8_size]; first | rfl | assumption | (exact Hid.out (by assumption)) | exact tokL_size _ | exact List.length_replicate ..) | (simp [arr8_size]; done))) _ rfl gw ?_)) | (go_at_call 29; (with_reducible refine (P7.out _ (S.old H1.out) (S.oldB H2.out) (S.kt HK.out) (S.pt HP.out)).mono ?_); rintro e w1 ⟨rfl, T⟩; replace S := S.call T; clear T; (try simp only [List.nil_append, List.cons_append] at S)) | ((with_reducible show wpList _ _ _ (⟨_, .load 24 _, _, _, _, _⟩ :: _) _ _); first | (refine step_load1 24 _ _ _ rfl (S.cell pk co) _ Tryd.underlying24 rfl gw ?_) | (refine step_load1 24 _ _ _ rfl (S.row_cell pk _ _ hyr) _ Tryd.underlying24 rfl gw ?_) | (refine step_load1 24 _ _ _ rfl (S.row_cellS pk _ _ hy) _ Tryd.underlying24 rfl gw ?_) | (refine step_load1 24 _ _ _ rfl (S.old_cell hy) _ Tryd.underlying24 rfl gw ?_)) | fail)
          go_roundw
          case rel => exact ⟨k + 1, by omega, by rw [HNEXT.out]; go_num, by go_num, S.sub (by repeat (first | exact Sub.nil _ | refine Sub.cons pk ?_))⟩
          all_goals first | omega | (simp only [intOf]; omega)
    · have hke : k = l.length := by omega
      subst hke
      rw [← HX.out]
      have hkl : ¬ (l.length : Int) < (l.length : Int) := by omega
      go_wp2_with (first | ((with_reducible show wpList _ _ _ (⟨_, .load 5 _, _, _, _, _⟩ :: _) _ _); first | (refine step_load1 5 _ _ _ rfl (S.cell pk co) _ Tryd.underlying5 rfl gw ?_) | (refine step_load1 5 _ _ _ rfl (S.row_cell pk _ _ hyr) _ Tryd.underlying5 rfl gw ?_) | (refine step_load1 5 _ _ _ rfl (S.row_cellS pk _ _ hy) _ Tryd.underlying5 rfl gw ?_) | (refine step_load1 5 _ _ _ rfl (S.old_cell hy) _ Tryd.underlying5 rfl gw ?_)) | ((with_reducible show wpList _ _ _ (⟨_, .load 23 _, _, _, _, _⟩ :: _) _ _); first | (refine step_load1 23 _ _ _ rfl (S.cell pk co) _ Tryd.underlying23 rfl gw ?_) | (refine step_load1 23 _ _ _ rfl (S.row_cell pk _ _ hyr) _ Tryd.underlying23 rfl gw ?_) | (refine step_load1 23 _ _ _ rfl (S.row_cellS pk _ _ hy) _ Tryd.underlying23 rfl gw ?_) | (refine step_load1 23 _ _ _ rfl (S.old_cell hy) _ Tryd.underlying23 rfl gw ?_)) | ((with_reducible show wpList _ _ _ (⟨some 14, .alloc 27, _, _, _, _⟩ :: _) _ _); refine step_alloc (dst := some 14) S 27 (.agg ((tokL tokZ).toArray)) ((tokL tokZ).toArray) (by kernel_rfl) rfl gw ?_; clear S; intro g14 w S) | ((with_reducible show wpList _ _ _ (⟨none, .store 27 (.tmp 14) (.tmp 84), _, _, _, _⟩ :: _) _ _); refine step_store S 27 (.tmp 14) (.tmp 84) _ _ rfl rfl _ _ pk 36 (by kernel_rfl) (by first | rfl | (first | rfl | assumption | (exact Hid.out (by assumption)) | (exact tokL_size _) | (rw [arr8_size]; first | rfl | assumption | (exact Hid.out (by assumption)) | exact tokL_size _ | exact List.length_replicate ..) | (simp [arr8_size]; done))) (by first | rfl | (first | rfl | assumption | (exact Hid.out (by assumption)) | (exact tokL_size _) | (rw [arr8_size]; first | rfl | assumption | (exact Hid.out (by assumption)) | exact tokL_size _ | exact List.length_replicate ..) | (simp [arr8_size]; done))) on1 gw ?_; clear S; intro w S) | ((with_reducible show wpList _ _ _ (⟨_, .load 27 _, _, _, _, _⟩ :: _) _ _); first | (refine step_load S 27 _ _ rfl _ _ _ pk _ Tryd.underlying27 rfl 36 (by kernel_rfl) (by first | rfl | (first | rfl | assumption | (exact Hid.out (by assumption)) | (exact tokL_size _) | (rw [arr8_size]; first | rfl | assumption | (exact Hid.out (by assumption)) | exact tokL_size _ | exact List.length_replicate ..) | (simp [arr8_size]; done))) gw ?_) | (refine step_loadO 27 _ _ rfl _ _ _ (S.old_heap (Hid.out (by assumption))) _ Tryd.underlying27 rfl 36 (by kernel_rfl) (by first | rfl | (first | rfl | assumption | (exact Hid.out (by assumption)) | (exact tokL_size _) | (rw [arr8_size]; first | rfl | assumption | (exact Hid.out (by assumption)) | exact tokL_size _ | exact List.length_replicate ..) | (simp [arr8_size]; done))) gw ?_) | (refine step_loadR 27 _ _ _ rfl _ (S.old_range hy) _ Tryd.underlying27 rfl 36 (by kernel_rfl) (by first | rfl | (first | rfl | assumption | (exact Hid.out (by assumption)) | (exact tokL_size _) | (rw [arr8_size]; first | rfl | assumption | (exact Hid.out (by assumption)) | exact tokL_size _ | exact List.length_replicate ..) | (simp [arr8_size]; done))) _ rfl gw ?_)) | (go_at_call 29; (with_reducible refine (P7.out _ (S.old H1.out) (S.oldB H2.out) (S.kt HK.out) (S.pt HP.out)).mono ?_); rintro e w1 ⟨rfl, T⟩; replace S := S.call T; clear T; (try simp only [List.nil_append, List.cons_append] at S)) | ((with_reducible show wpList _ _ _ (⟨_, .load 24 _, _, _, _, _⟩ :: _) _ _); first | (refine step_load1 24 _ _ _ rfl (S.cell pk co) _ Tryd.underlying24 rfl gw ?_) | (refine step_load1 24 _ _ _ rfl (S.row_cell pk _ _ hyr) _ Tryd.underlying24 rfl gw ?_) | (refine step_load1 24 _ _ _ rfl (S.row_cellS pk _ _ hy) _ Tryd.underlying24 rfl gw ?_) | (refine step_load1 24 _ _ _ rfl (S.old_cell hy) _ Tryd.underlying24 rfl gw ?_)) | fail)
      go_ret
      exact ⟨by simp, S.nil⟩

theorem authLive_walk (v0 v1 : Value) (l : List Mnt) (key : List UInt8) (tenant : Int) (now : Nat) (w0 : World) (h1 : Rg w0 v0 l) (h2 : Bs w0 v1 key) (hK : KT w0) (hP : PT w0) (hn : now < 18446744073709551616)
    (ht : -9223372036854775808 ≤ tenant ∧ tenant ≤ 9223372036854775807) :
    Calls Tryd.prog 13 #[v0, v1, .int .i64 tenant, .int .u64 (now : Int)] w0 fun e w' => e = .returned (.bool true) ∧ Has w0 w' [] := by
  by_cases h : chkR l = 0 ∧ ArgsOk key tenant 4 now
  · exact live_in v0 v1 l key tenant now w0 h1 h2 hK hP hn h.1 h.2 ht
  · exact live_out v0 v1 l key tenant now w0 h1 h2 hK hP hn h
end Go.Proofs.YtioonimpobcglaaDoor
