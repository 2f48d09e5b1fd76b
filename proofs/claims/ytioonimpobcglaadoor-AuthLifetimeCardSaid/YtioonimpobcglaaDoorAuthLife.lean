/- AuthLifetime: its walk. No condition but the tables and the reach. -/
import Derived.Test.YtioonimpobcglaaDoorBd
import Derived.Test.YtioonimpobcglaaDoorAlv
import Derived.Test.YtioonimpobcglaaDoorRingE
set_option linter.unusedSimpArgs false
set_option linter.unusedVariables false
namespace Go.Proofs.YtioonimpobcglaaDoor
open Go.RowKit

set_option maxRecDepth 100000 in
set_option maxHeartbeats 8000000 in
theorem life_no (v0 v1 : Value) (l R : List Mnt) (key : List UInt8) (tenant : Int) (role life now kind later : Nat) (T : Tok) (E : Int) (w0 : World) (h1 : Rg w0 v0 l) (h2 : Bs w0 v1 key) (hK : KT w0) (hP : PT w0)
    (p2 : ∀ w, Rg w v0 l → Bs w v1 key → KT w → Calls Tryd.prog 24 #[v0, v1, .int .i64 tenant, .int .u8 (role : Int), .int .u64 (life : Int), .int .u64 (now : Int)] w (MadeMT w R T E))
    (p3 : ∀ w, Rg w v0 l → Bs w v1 key → Calls Tryd.prog 25 #[v0, v1, .int .i64 tenant, .int .u8 (role : Int), .int .u64 (life : Int), .int .u64 (now : Int)] w (MadeMT w R T E)) (hE : E ≠ 0) :
    Calls Tryd.prog 9 #[v0, v1, .int .i64 tenant, .int .u8 (role : Int), .int .u64 (life : Int), .int .u64 (now : Int), .int .u8 (kind : Int), .int .u64 (later : Int)] w0 fun e w' => e = .returned (.bool true) ∧ Has w0 w' [] := by
  have S := Has.start w0
  have p1 := fun w hK hP => alive_s w hK hP
  obtain ⟨a0, c0, rfl, k1, k2⟩ := Sl.shape h1
  obtain ⟨a1, c1, rfl, k3, k4⟩ := Sl.shape h2
  unfold maxLen at k2 k4
  have n1 : (E != 0) = true := by simpa using hE
  clear hE
  have H1 := Lib.hid h1; have H2 := Lib.hid h2; have HK := Lib.hid hK; have HP := Lib.hid hP; have P1 := Lib.hid p1; have P2 := Lib.hid p2; have P3 := Lib.hid p3; clear h1 h2 hK hP p1 p2 p3
  go_enter Tryd.func9, Tryd.ntmps9
  go_wp2_with (first | (go_at_call 31; (with_reducible refine (P1.out _ (S.kt (Hid.out (by assumption))) (S.pt HP.out)).mono ?_); rintro e w1 ⟨rfl, T⟩; replace S := S.call T; clear T; (try simp only [List.nil_append, List.cons_append] at S)) | (go_at_call 24; (with_reducible refine (P2.out _ (S.old H1.out) (S.oldB H2.out) (S.kt (Hid.out (by assumption)))).mono ?_); rintro e w1 ⟨v18, rfl, T⟩; replace S := S.call T; clear T; (try simp only [List.nil_append, List.cons_append] at S)) | ((with_reducible show wpList _ _ _ (⟨some 19, .alloc 27, _, _, _, _⟩ :: _) _ _); refine step_alloc (dst := some 19) S 27 (.agg ((tokL tokZ).toArray)) ((tokL tokZ).toArray) (by kernel_rfl) rfl gw ?_; clear S; intro g19 w S) | ((with_reducible show wpList _ _ _ (⟨none, .store 27 (.tmp 19) (.tmp 37), _, _, _, _⟩ :: _) _ _); refine step_store S 27 (.tmp 19) (.tmp 37) _ _ rfl rfl _ _ pk 36 (by kernel_rfl) (by first | rfl | (first | rfl | assumption | (exact Hid.out (by assumption)) | (exact tokL_size _) | (rw [arr8_size]; first | rfl | assumption | (exact Hid.out (by assumption)) | exact tokL_size _ | exact List.length_replicate ..) | (simp [arr8_size]; done))) (by first | rfl | (first | rfl | assumption | (exact Hid.out (by assumption)) | (exact tokL_size _) | (rw [arr8_size]; first | rfl | assumption | (exact Hid.out (by assumption)) | exact tokL_size _ | exact List.length_replicate ..) | (simp [arr8_size]; done))) on1 gw ?_; clear S; intro w S) | (go_at_call 25; (with_reducible refine (P3.out _ (S.old H1.out) (S.oldB H2.out)).mono ?_); rintro e w1 ⟨v21, rfl, T⟩; replace S := S.call T; clear T; (try simp only [List.nil_append, List.cons_append] at S)) | ((with_reducible show wpList _ _ _ (⟨some 22, .alloc 27, _, _, _, _⟩ :: _) _ _); refine step_alloc (dst := some 22) S 27 (.agg ((tokL tokZ).toArray)) ((tokL tokZ).toArray) (by kernel_rfl) rfl gw ?_; clear S; intro g22 w S) | ((with_reducible show wpList _ _ _ (⟨none, .store 27 (.tmp 22) (.tmp 48), _, _, _, _⟩ :: _) _ _); refine step_store S 27 (.tmp 22) (.tmp 48) _ _ rfl rfl _ _ pk 36 (by kernel_rfl) (by first | rfl | (first | rfl | assumption | (exact Hid.out (by assumption)) | (exact tokL_size _) | (rw [arr8_size]; first | rfl | assumption | (exact Hid.out (by assumption)) | exact tokL_size _ | exact List.length_replicate ..) | (simp [arr8_size]; done))) (by first | rfl | (first | rfl | assumption | (exact Hid.out (by assumption)) | (exact tokL_size _) | (rw [arr8_size]; first | rfl | assumption | (exact Hid.out (by assumption)) | exact tokL_size _ | exact List.length_replicate ..) | (simp [arr8_size]; done))) on1 gw ?_; clear S; intro w S) | ((with_reducible show wpList _ _ _ (⟨_, .slice 41 _ _ _ _, _, _, _, _⟩ :: _) _ _); refine step_cutH 41 58 3 _ _ _ _ _ _ _ _ rfl rfl (by first | rfl | omega) (by first | (first | omega | assumption | (exact Hid.out (by assumption)) | (simp only [List.length_append, List.length_cons, List.length_nil]; omega)) | decide) Tryd.underlying41 (by kernel_rfl) gw ?_) | ((with_reducible show wpList _ _ _ (⟨_, .load 24 _, _, _, _, _⟩ :: _) _ _); first | (refine step_load1 24 _ _ _ rfl (S.cell pk co) _ Tryd.underlying24 rfl gw ?_) | (refine step_load1 24 _ _ _ rfl (S.row_cell pk _ _ hyr) _ Tryd.underlying24 rfl gw ?_) | (refine step_load1 24 _ _ _ rfl (S.row_cellS pk _ _ hy) _ Tryd.underlying24 rfl gw ?_) | (refine step_load1 24 _ _ _ rfl (S.old_cell hy) _ Tryd.underlying24 rfl gw ?_)) | ((with_reducible show wpList _ _ _ (⟨_, .load 5 _, _, _, _, _⟩ :: _) _ _); first | (refine step_load1 5 _ _ _ rfl (S.cell pk co) _ Tryd.underlying5 rfl gw ?_) | (refine step_load1 5 _ _ _ rfl (S.row_cell pk _ _ hyr) _ Tryd.underlying5 rfl gw ?_) | (refine step_load1 5 _ _ _ rfl (S.row_cellS pk _ _ hy) _ Tryd.underlying5 rfl gw ?_) | (refine step_load1 5 _ _ _ rfl (S.old_cell hy) _ Tryd.underlying5 rfl gw ?_)) | ((with_reducible show wpList _ _ _ (⟨_, .load 23 _, _, _, _, _⟩ :: _) _ _); first | (refine step_load1 23 _ _ _ rfl (S.cell pk co) _ Tryd.underlying23 rfl gw ?_) | (refine step_load1 23 _ _ _ rfl (S.row_cell pk _ _ hyr) _ Tryd.underlying23 rfl gw ?_) | (refine step_load1 23 _ _ _ rfl (S.row_cellS pk _ _ hy) _ Tryd.underlying23 rfl gw ?_) | (refine step_load1 23 _ _ _ rfl (S.old_cell hy) _ Tryd.underlying23 rfl gw ?_)) | ((with_reducible show wpList _ _ _ (⟨_, .load 27 _, _, _, _, _⟩ :: _) _ _); first | (refine step_load S 27 _ _ rfl _ _ _ pk _ Tryd.underlying27 rfl 36 (by kernel_rfl) (by first | rfl | (first | rfl | assumption | (exact Hid.out (by assumption)) | (exact tokL_size _) | (rw [arr8_size]; first | rfl | assumption | (exact Hid.out (by assumption)) | exact tokL_size _ | exact List.length_replicate ..) | (simp [arr8_size]; done))) gw ?_) | (refine step_loadO 27 _ _ rfl _ _ _ (S.old_heap (Hid.out (by assumption))) _ Tryd.underlying27 rfl 36 (by kernel_rfl) (by first | rfl | (first | rfl | assumption | (exact Hid.out (by assumption)) | (exact tokL_size _) | (rw [arr8_size]; first | rfl | assumption | (exact Hid.out (by assumption)) | exact tokL_size _ | exact List.length_replicate ..) | (simp [arr8_size]; done))) gw ?_) | (refine step_loadR 27 _ _ _ rfl _ (S.old_range hy) _ Tryd.underlying27 rfl 36 (by kernel_rfl) (by first | rfl | (first | rfl | assumption | (exact Hid.out (by assumption)) | (exact tokL_size _) | (rw [arr8_size]; first | rfl | assumption | (exact Hid.out (by assumption)) | exact tokL_size _ | exact List.length_replicate ..) | (simp [arr8_size]; done))) _ rfl gw ?_)) | fail)
  go_ret
  exact ⟨rfl, S.nil⟩

/-- The new ring's beginning is the old ring. -/
theorem flat_lenM (l : List Mnt) : (l.flatMap mintL).length = l.length * 3 := by
  induction l with
  | nil => rfl
  | cons x l ih =>
    show (mintL x ++ l.flatMap mintL).length = (l.length + 1) * 3
    rw [List.length_append, ih, mintL_length]; omega

theorem Rg.cutH {w : World} {a : Option Addr} {c n : Nat} {l : List Mnt} (m : Mnt) (hn : n = l.length + 1) (h : Sl w 3 (.slice a n c) n ((l ++ [m]).flatMap mintL)) : Rg w (.slice (cutA a c 0 3) l.length c) l := by
  subst hn
  have := h.cut 0 l.length (by omega)
  have e : (((l ++ [m]).flatMap mintL).drop (0 * 3)).take (l.length * 3) = l.flatMap mintL := by
    rw [Nat.zero_mul, List.drop_zero, List.flatMap_append]
    exact List.take_left' (flat_lenM l)
  rw [e, Nat.sub_zero] at this
  exact this

set_option maxRecDepth 100000 in
set_option maxHeartbeats 16000000 in
theorem life_out (v0 v1 : Value) (l RR : List Mnt) (key : List UInt8) (tenant other : Int) (role life now kind later : Nat) (T : Tok) (M : Mnt) (PB : Bool) (w0 : World) (h1 : Rg w0 v0 l) (h2 : Bs w0 v1 key) (hK : KT w0) (hP : PT w0) (hl : l.length < 32)
    (p2 : ∀ w, Rg w v0 l → Bs w v1 key → KT w → Calls Tryd.prog 24 #[v0, v1, .int .i64 tenant, .int .u8 (role : Int), .int .u64 (life : Int), .int .u64 (now : Int)] w (MadeMT w (l ++ [M]) T 0))
    (p3 : ∀ w, Rg w v0 l → Bs w v1 key → Calls Tryd.prog 25 #[v0, v1, .int .i64 tenant, .int .u8 (role : Int), .int .u64 (life : Int), .int .u64 (now : Int)] w (MadeMT w (l ++ [M]) T 0))
    (g0 : (T.tenant.toNat : Int) = tenant) (g1 : (T.role.toNat : Int) = (role : Int)) (g2 : T.expiry.toNat = expM now life) (g3 : (T.serial.toNat : Int) = (l.length : Int) + 1)
    (hlife : life ≤ 4611686018427387904) (hnow : now ≤ 4611686018427387904) (hto : (tenant + 1) % 3 = other) (ht0 : 0 ≤ tenant) (ht3 : tenant < 3)
    (p8 : ∀ w, PT w → Calls Tryd.prog 27 #[.int .u8 (role : Int), .int .u8 (kind : Int)] w fun e w' => e = .returned (.bool PB) ∧ Has w w' [])
    (hout : kind < 1 ∨ 6 < kind ∨ later < now ∨ 4611686018427387904 < later)
    : Calls Tryd.prog 9 #[v0, v1, .int .i64 tenant, .int .u8 (role : Int), .int .u64 (life : Int), .int .u64 (now : Int), .int .u8 (kind : Int), .int .u64 (later : Int)] w0 fun e w' => e = .returned (.bool true) ∧ Has w0 w' [] := by
  have S := Has.start w0
  have p1 := fun w hK hP => alive_s w hK hP
  obtain ⟨a0, c0, rfl, k1, k2⟩ := Sl.shape h1
  obtain ⟨a1, c1, rfl, k3, k4⟩ := Sl.shape h2
  unfold maxLen at k2 k4
  have hx := expM_le now life
  have n1 : ((T.serial.toNat : Int) != (l.length : Int) + 1) = false := by rw [g3]; simp
  have n2 : ((T.tenant.toNat : Int) != tenant) = false := by rw [g0]; simp
  have n3 : ((T.role.toNat : Int) != (role : Int)) = false := by rw [g1]; simp
  have e4 : (T.expiry.toNat : Int) = min ((now : Int) + (life : Int)) 4611686018427387904 := by rw [g2]; unfold expM; split <;> omega
  have n4 : ((T.expiry.toNat : Int) != min ((now : Int) + (life : Int)) 4611686018427387904) = false := by rw [e4]; simp
  have w1 : IntKind.u64.wrap ((now : Int) + (life : Int)) = (now : Int) + (life : Int) := by rw [IntKind.wrap_u64]; omega
  have w2 : IntKind.i64.wrap (T.tenant.toNat : Int) = (T.tenant.toNat : Int) := IntWalk.i64_in _ (by omega)
  have hll : (l ++ [M]).length = l.length + 1 := by simp
  obtain ⟨R, hR⟩ : ∃ R, R = l ++ [M] := ⟨_, rfl⟩
  rw [← hR] at p2 p3 hll
  have HX := Lib.hid hout
  have hcut : ∀ w a c, Sl w 3 (.slice a (l.length + 1) c) R.length (R.flatMap mintL) → Rg w (.slice (cutA a c 0 3) l.length c) l := fun w a c h => by
    rw [hll, hR] at h
    exact Rg.cutH M rfl h
  clear g0 g1 g2 g3 e4 hx hout hR hto
  have H1 := Lib.hid h1; have H2 := Lib.hid h2; have HK := Lib.hid hK; have HP := Lib.hid hP; have P1 := Lib.hid p1; have P2 := Lib.hid p2; have P3 := Lib.hid p3; have P8 := Lib.hid p8; have HCUT := Lib.hid hcut; have HLL := Lib.hid hll; clear h1 h2 hK hP p1 p2 p3 p8 hcut hll
  go_enter Tryd.func9, Tryd.ntmps9
  go_wp2_with (first | (go_at_call 31; (with_reducible refine (P1.out _ (S.kt (Hid.out (by assumption))) (S.pt HP.out)).mono ?_); rintro e w1 ⟨rfl, T⟩; replace S := S.call T; clear T; (try simp only [List.nil_append, List.cons_append] at S)) | (go_at_call 24; (with_reducible refine (P2.out _ (S.old H1.out) (S.oldB H2.out) (S.kt (Hid.out (by assumption)))).mono ?_); rintro e w1 ⟨v18, rfl, T⟩; replace S := S.call T; clear T; (try simp only [List.nil_append, List.cons_append] at S); obtain ⟨a18, c18, hv18, k5, k6⟩ := Sl.shape (S.sl (v := v18) pk); rw [HLL.out] at hv18 k5; subst hv18; unfold maxLen at k6) | ((with_reducible show wpList _ _ _ (⟨some 19, .alloc 27, _, _, _, _⟩ :: _) _ _); refine step_alloc (dst := some 19) S 27 (.agg ((tokL tokZ).toArray)) ((tokL tokZ).toArray) (by kernel_rfl) rfl gw ?_; clear S; intro g19 w S) | ((with_reducible show wpList _ _ _ (⟨none, .store 27 (.tmp 19) (.tmp 37), _, _, _, _⟩ :: _) _ _); refine step_store S 27 (.tmp 19) (.tmp 37) _ _ rfl rfl _ _ pk 36 (by kernel_rfl) (by first | rfl | (first | rfl | assumption | (exact Hid.out (by assumption)) | (exact tokL_size _) | (rw [arr8_size]; first | rfl | assumption | (exact Hid.out (by assumption)) | exact tokL_size _ | exact List.length_replicate ..) | (simp [arr8_size]; done))) (by first | rfl | (first | rfl | assumption | (exact Hid.out (by assumption)) | (exact tokL_size _) | (rw [arr8_size]; first | rfl | assumption | (exact Hid.out (by assumption)) | exact tokL_size _ | exact List.length_replicate ..) | (simp [arr8_size]; done))) on1 gw ?_; clear S; intro w S) | (go_at_call 25; (with_reducible refine (P3.out _ (S.old H1.out) (S.oldB H2.out)).mono ?_); rintro e w1 ⟨v21, rfl, T⟩; replace S := S.call T; clear T; (try simp only [List.nil_append, List.cons_append] at S)) | ((with_reducible show wpList _ _ _ (⟨some 22, .alloc 27, _, _, _, _⟩ :: _) _ _); refine step_alloc (dst := some 22) S 27 (.agg ((tokL tokZ).toArray)) ((tokL tokZ).toArray) (by kernel_rfl) rfl gw ?_; clear S; intro g22 w S) | ((with_reducible show wpList _ _ _ (⟨none, .store 27 (.tmp 22) (.tmp 48), _, _, _, _⟩ :: _) _ _); refine step_store S 27 (.tmp 22) (.tmp 48) _ _ rfl rfl _ _ pk 36 (by kernel_rfl) (by first | rfl | (first | rfl | assumption | (exact Hid.out (by assumption)) | (exact tokL_size _) | (rw [arr8_size]; first | rfl | assumption | (exact Hid.out (by assumption)) | exact tokL_size _ | exact List.length_replicate ..) | (simp [arr8_size]; done))) (by first | rfl | (first | rfl | assumption | (exact Hid.out (by assumption)) | (exact tokL_size _) | (rw [arr8_size]; first | rfl | assumption | (exact Hid.out (by assumption)) | exact tokL_size _ | exact List.length_replicate ..) | (simp [arr8_size]; done))) on1 gw ?_; clear S; intro w S) | ((with_reducible show wpList _ _ _ (⟨_, .slice 41 _ _ _ _, _, _, _, _⟩ :: _) _ _); refine step_cutH 41 58 3 _ _ _ _ _ _ _ _ rfl rfl (by first | rfl | omega) (by first | (first | omega | assumption | (exact Hid.out (by assumption)) | (simp only [List.length_append, List.length_cons, List.length_nil]; omega)) | decide) Tryd.underlying41 (by kernel_rfl) gw ?_) | (go_at_call 26; (with_reducible refine (same_r _ _ l _ (HCUT.out _ _ _ (by first | assumption | exact S.old (Hid.out (by assumption)) | exact S.sl pk | exact S.sl_rd pk)) (S.old H1.out)).mono ?_); rintro e w1 ⟨rfl, T⟩; replace S := S.call T; clear T; (try simp only [List.nil_append, List.cons_append] at S)) | ((with_reducible show wpList _ _ _ (⟨_, .load 24 _, _, _, _, _⟩ :: _) _ _); first | (refine step_load1 24 _ _ _ rfl (S.cell pk co) _ Tryd.underlying24 rfl gw ?_) | (refine step_load1 24 _ _ _ rfl (S.row_cell pk _ _ hyr) _ Tryd.underlying24 rfl gw ?_) | (refine step_load1 24 _ _ _ rfl (S.row_cellS pk _ _ hy) _ Tryd.underlying24 rfl gw ?_) | (refine step_load1 24 _ _ _ rfl (S.old_cell hy) _ Tryd.underlying24 rfl gw ?_)) | ((with_reducible show wpList _ _ _ (⟨_, .load 5 _, _, _, _, _⟩ :: _) _ _); first | (refine step_load1 5 _ _ _ rfl (S.cell pk co) _ Tryd.underlying5 rfl gw ?_) | (refine step_load1 5 _ _ _ rfl (S.row_cell pk _ _ hyr) _ Tryd.underlying5 rfl gw ?_) | (refine step_load1 5 _ _ _ rfl (S.row_cellS pk _ _ hy) _ Tryd.underlying5 rfl gw ?_) | (refine step_load1 5 _ _ _ rfl (S.old_cell hy) _ Tryd.underlying5 rfl gw ?_)) | ((with_reducible show wpList _ _ _ (⟨_, .load 23 _, _, _, _, _⟩ :: _) _ _); first | (refine step_load1 23 _ _ _ rfl (S.cell pk co) _ Tryd.underlying23 rfl gw ?_) | (refine step_load1 23 _ _ _ rfl (S.row_cell pk _ _ hyr) _ Tryd.underlying23 rfl gw ?_) | (refine step_load1 23 _ _ _ rfl (S.row_cellS pk _ _ hy) _ Tryd.underlying23 rfl gw ?_) | (refine step_load1 23 _ _ _ rfl (S.old_cell hy) _ Tryd.underlying23 rfl gw ?_)) | ((with_reducible show wpList _ _ _ (⟨_, .load 27 _, _, _, _, _⟩ :: _) _ _); first | (refine step_load S 27 _ _ rfl _ _ _ pk _ Tryd.underlying27 rfl 36 (by kernel_rfl) (by first | rfl | (first | rfl | assumption | (exact Hid.out (by assumption)) | (exact tokL_size _) | (rw [arr8_size]; first | rfl | assumption | (exact Hid.out (by assumption)) | exact tokL_size _ | exact List.length_replicate ..) | (simp [arr8_size]; done))) gw ?_) | (refine step_loadO 27 _ _ rfl _ _ _ (S.old_heap (Hid.out (by assumption))) _ Tryd.underlying27 rfl 36 (by kernel_rfl) (by first | rfl | (first | rfl | assumption | (exact Hid.out (by assumption)) | (exact tokL_size _) | (rw [arr8_size]; first | rfl | assumption | (exact Hid.out (by assumption)) | exact tokL_size _ | exact List.length_replicate ..) | (simp [arr8_size]; done))) gw ?_) | (refine step_loadR 27 _ _ _ rfl _ (S.old_range hy) _ Tryd.underlying27 rfl 36 (by kernel_rfl) (by first | rfl | (first | rfl | assumption | (exact Hid.out (by assumption)) | (exact tokL_size _) | (rw [arr8_size]; first | rfl | assumption | (exact Hid.out (by assumption)) | exact tokL_size _ | exact List.length_replicate ..) | (simp [arr8_size]; done))) _ rfl gw ?_)) | fail)
  all_goals first
    | (go_ret; exact ⟨rfl, S.nil⟩)
    | (exfalso; have := HX.out; omega)
set_option maxRecDepth 100000 in
set_option maxHeartbeats 16000000 in
theorem life_in (v0 v1 : Value) (l RR : List Mnt) (key : List UInt8) (tenant other : Int) (role life now kind later : Nat) (T : Tok) (M : Mnt) (PB : Bool) (w0 : World) (h1 : Rg w0 v0 l) (h2 : Bs w0 v1 key) (hK : KT w0) (hP : PT w0) (hl : l.length < 32)
    (p2 : ∀ w, Rg w v0 l → Bs w v1 key → KT w → Calls Tryd.prog 24 #[v0, v1, .int .i64 tenant, .int .u8 (role : Int), .int .u64 (life : Int), .int .u64 (now : Int)] w (MadeMT w (l ++ [M]) T 0))
    (p3 : ∀ w, Rg w v0 l → Bs w v1 key → Calls Tryd.prog 25 #[v0, v1, .int .i64 tenant, .int .u8 (role : Int), .int .u64 (life : Int), .int .u64 (now : Int)] w (MadeMT w (l ++ [M]) T 0))
    (g0 : (T.tenant.toNat : Int) = tenant) (g1 : (T.role.toNat : Int) = (role : Int)) (g2 : T.expiry.toNat = expM now life) (g3 : (T.serial.toNat : Int) = (l.length : Int) + 1)
    (hlife : life ≤ 4611686018427387904) (hnow : now ≤ 4611686018427387904) (hto : (tenant + 1).tmod 3 = other) (ht0 : 0 ≤ tenant) (ht3 : tenant < 3)
    (p8 : ∀ w, PT w → Calls Tryd.prog 27 #[.int .u8 (role : Int), .int .u8 (kind : Int)] w fun e w' => e = .returned (.bool PB) ∧ Has w w' [])
    (hin : 1 ≤ kind ∧ kind ≤ 6 ∧ now ≤ later ∧ later ≤ 4611686018427387904) (E2 : Int) (hE2 : E2 = if expM now life ≤ later then 193 else if PB = false then 194 else 0)
    (p4 : ∀ v w, Rg w v (l ++ [M]) → Bs w v1 key → KT w → PT w → Calls Tryd.prog 29 #[v, v1, .int .i64 tenant, .agg (tokL T).toArray, .int .u8 (kind : Int), .int .u64 (later : Int)] w fun e w' => e = .returned (.int .i64 E2) ∧ Has w w' [])
    (p5 : ∀ v w, Rg w v RR → Bs w v1 key → KT w → PT w → Calls Tryd.prog 29 #[v, v1, .int .i64 tenant, .agg (tokL T).toArray, .int .u8 (kind : Int), .int .u64 (later : Int)] w fun e w' => e = .returned (.int .i64 192) ∧ Has w w' [])
    (p6 : ∀ v w, Rg w v (l ++ [M]) → Bs w v1 key → KT w → PT w → Calls Tryd.prog 29 #[v, v1, .int .i64 other, .agg (tokL T).toArray, .int .u8 (kind : Int), .int .u64 (later : Int)] w fun e w' => e = .returned (.int .i64 190) ∧ Has w w' [])
    (p7 : ∀ v w, Rg w v (l ++ [M]) → Calls Tryd.prog 34 #[v, .int .u32 (T.serial.toNat : Int)] w (MadeM2 w RR 0))
    : Calls Tryd.prog 9 #[v0, v1, .int .i64 tenant, .int .u8 (role : Int), .int .u64 (life : Int), .int .u64 (now : Int), .int .u8 (kind : Int), .int .u64 (later : Int)] w0 fun e w' => e = .returned (.bool true) ∧ Has w0 w' [] := by
  have S := Has.start w0
  have p1 := fun w hK hP => alive_s w hK hP
  obtain ⟨a0, c0, rfl, k1, k2⟩ := Sl.shape h1
  obtain ⟨a1, c1, rfl, k3, k4⟩ := Sl.shape h2
  unfold maxLen at k2 k4
  have hx := expM_le now life
  have n1 : ((T.serial.toNat : Int) != (l.length : Int) + 1) = false := by rw [g3]; simp
  have n2 : ((T.tenant.toNat : Int) != tenant) = false := by rw [g0]; simp
  have n3 : ((T.role.toNat : Int) != (role : Int)) = false := by rw [g1]; simp
  have e4 : (T.expiry.toNat : Int) = min ((now : Int) + (life : Int)) 4611686018427387904 := by rw [g2]; unfold expM; split <;> omega
  have n4 : ((T.expiry.toNat : Int) != min ((now : Int) + (life : Int)) 4611686018427387904) = false := by rw [e4]; simp
  have w1 : IntKind.u64.wrap ((now : Int) + (life : Int)) = (now : Int) + (life : Int) := by rw [IntKind.wrap_u64]; omega
  have w2 : IntKind.i64.wrap (T.tenant.toNat : Int) = (T.tenant.toNat : Int) := IntWalk.i64_in _ (by omega)
  have hll : (l ++ [M]).length = l.length + 1 := by simp
  obtain ⟨R, hR⟩ : ∃ R, R = l ++ [M] := ⟨_, rfl⟩
  rw [← hR] at p2 p3 hll p4 p6 p7
  obtain ⟨q1, q2, q3, q4⟩ := hin
  have m1 : ¬ (kind : Int) < 1 := by omega
  have m2 : ¬ (6 : Int) < (kind : Int) := by omega
  have m3 : ¬ (later : Int) < (now : Int) := by omega
  have m4 : ¬ (4611686018427387904 : Int) < (later : Int) := by omega
  have hcut : ∀ w a c, Sl w 3 (.slice a (l.length + 1) c) R.length (R.flatMap mintL) → Rg w (.slice (cutA a c 0 3) l.length c) l := fun w a c h => by
    rw [hll, hR] at h
    exact Rg.cutH M rfl h
  have hrow : ∀ w a c, Sl w 3 (.slice a (l.length + 1) c) R.length (R.flatMap mintL) → Rg w (.slice a (l.length + 1) c) R := fun w a c h => h
  have he : E2 = 193 ∧ (T.expiry.toNat : Int) ≤ (later : Int) ∨ E2 = 194 ∧ ¬ (T.expiry.toNat : Int) ≤ (later : Int) ∧ PB = false ∨ E2 = 0 ∧ ¬ (T.expiry.toNat : Int) ≤ (later : Int) ∧ PB = true := by
    rw [hE2, g2]
    by_cases g : expM now life ≤ later
    · left; rw [if_pos g]; exact ⟨rfl, by omega⟩
    · right; rw [if_neg g]
      cases PB
      · left; exact ⟨rfl, by omega, rfl⟩
      · right; exact ⟨rfl, by omega, rfl⟩
  clear g0 g1 g2 g3 e4 hx hR q1 q2 q3 q4 hE2
  rcases he with ⟨rfl, m5⟩ | ⟨rfl, m5, rfl⟩ | ⟨rfl, m5, rfl⟩
  all_goals
    have H1 := Lib.hid h1; have H2 := Lib.hid h2; have HK := Lib.hid hK; have HP := Lib.hid hP; have P1 := Lib.hid p1; have P2 := Lib.hid p2; have P3 := Lib.hid p3; have P4 := Lib.hid p4; have P5 := Lib.hid p5; have P6 := Lib.hid p6; have P7 := Lib.hid p7; have P8 := Lib.hid p8; have HCUT := Lib.hid hcut; have HLL := Lib.hid hll; clear h1 h2 hK hP p1 p2 p3 p4 p5 p6 p7 p8 hcut hll
    go_enter Tryd.func9, Tryd.ntmps9
    go_wp2_with (first | (go_at_call 31; (with_reducible refine (P1.out _ (S.kt (Hid.out (by assumption))) (S.pt HP.out)).mono ?_); rintro e w1 ⟨rfl, T⟩; replace S := S.call T; clear T; (try simp only [List.nil_append, List.cons_append] at S)) | (go_at_call 24; (with_reducible refine (P2.out _ (S.old H1.out) (S.oldB H2.out) (S.kt (Hid.out (by assumption)))).mono ?_); rintro e w1 ⟨v18, rfl, T⟩; replace S := S.call T; clear T; (try simp only [List.nil_append, List.cons_append] at S); obtain ⟨a18, c18, hv18, k5, k6⟩ := Sl.shape (S.sl (v := v18) pk); rw [HLL.out] at hv18 k5; subst hv18; unfold maxLen at k6) | ((with_reducible show wpList _ _ _ (⟨some 19, .alloc 27, _, _, _, _⟩ :: _) _ _); refine step_alloc (dst := some 19) S 27 (.agg ((tokL tokZ).toArray)) ((tokL tokZ).toArray) (by kernel_rfl) rfl gw ?_; clear S; intro g19 w S) | ((with_reducible show wpList _ _ _ (⟨none, .store 27 (.tmp 19) (.tmp 37), _, _, _, _⟩ :: _) _ _); refine step_store S 27 (.tmp 19) (.tmp 37) _ _ rfl rfl _ _ pk 36 (by kernel_rfl) (by first | rfl | (first | rfl | assumption | (exact Hid.out (by assumption)) | (exact tokL_size _) | (rw [arr8_size]; first | rfl | assumption | (exact Hid.out (by assumption)) | exact tokL_size _ | exact List.length_replicate ..) | (simp [arr8_size]; done))) (by first | rfl | (first | rfl | assumption | (exact Hid.out (by assumption)) | (exact tokL_size _) | (rw [arr8_size]; first | rfl | assumption | (exact Hid.out (by assumption)) | exact tokL_size _ | exact List.length_replicate ..) | (simp [arr8_size]; done))) on1 gw ?_; clear S; intro w S) | (go_at_call 25; (with_reducible refine (P3.out _ (S.old H1.out) (S.oldB H2.out)).mono ?_); rintro e w1 ⟨v21, rfl, T⟩; replace S := S.call T; clear T; (try simp only [List.nil_append, List.cons_append] at S)) | ((with_reducible show wpList _ _ _ (⟨some 22, .alloc 27, _, _, _, _⟩ :: _) _ _); refine step_alloc (dst := some 22) S 27 (.agg ((tokL tokZ).toArray)) ((tokL tokZ).toArray) (by kernel_rfl) rfl gw ?_; clear S; intro g22 w S) | ((with_reducible show wpList _ _ _ (⟨none, .store 27 (.tmp 22) (.tmp 48), _, _, _, _⟩ :: _) _ _); refine step_store S 27 (.tmp 22) (.tmp 48) _ _ rfl rfl _ _ pk 36 (by kernel_rfl) (by first | rfl | (first | rfl | assumption | (exact Hid.out (by assumption)) | (exact tokL_size _) | (rw [arr8_size]; first | rfl | assumption | (exact Hid.out (by assumption)) | exact tokL_size _ | exact List.length_replicate ..) | (simp [arr8_size]; done))) (by first | rfl | (first | rfl | assumption | (exact Hid.out (by assumption)) | (exact tokL_size _) | (rw [arr8_size]; first | rfl | assumption | (exact Hid.out (by assumption)) | exact tokL_size _ | exact List.length_replicate ..) | (simp [arr8_size]; done))) on1 gw ?_; clear S; intro w S) | ((with_reducible show wpList _ _ _ (⟨_, .slice 41 _ _ _ _, _, _, _, _⟩ :: _) _ _); refine step_cutH 41 58 3 _ _ _ _ _ _ _ _ rfl rfl (by first | rfl | omega) (by first | (first | omega | assumption | (exact Hid.out (by assumption)) | (simp only [List.length_append, List.length_cons, List.length_nil]; omega)) | decide) Tryd.underlying41 (by kernel_rfl) gw ?_) | (go_at_call 26; (with_reducible refine (same_r _ _ l _ (HCUT.out _ _ _ (by first | assumption | exact S.old (Hid.out (by assumption)) | exact S.sl pk | exact S.sl_rd pk)) (S.old H1.out)).mono ?_); rintro e w1 ⟨rfl, T⟩; replace S := S.call T; clear T; (try simp only [List.nil_append, List.cons_append] at S)) | ((with_reducible show wpList _ _ _ (⟨_, .load 24 _, _, _, _, _⟩ :: _) _ _); first | (refine step_load1 24 _ _ _ rfl (S.cell pk co) _ Tryd.underlying24 rfl gw ?_) | (refine step_load1 24 _ _ _ rfl (S.row_cell pk _ _ hyr) _ Tryd.underlying24 rfl gw ?_) | (refine step_load1 24 _ _ _ rfl (S.row_cellS pk _ _ hy) _ Tryd.underlying24 rfl gw ?_) | (refine step_load1 24 _ _ _ rfl (S.old_cell hy) _ Tryd.underlying24 rfl gw ?_)) | ((with_reducible show wpList _ _ _ (⟨_, .load 5 _, _, _, _, _⟩ :: _) _ _); first | (refine step_load1 5 _ _ _ rfl (S.cell pk co) _ Tryd.underlying5 rfl gw ?_) | (refine step_load1 5 _ _ _ rfl (S.row_cell pk _ _ hyr) _ Tryd.underlying5 rfl gw ?_) | (refine step_load1 5 _ _ _ rfl (S.row_cellS pk _ _ hy) _ Tryd.underlying5 rfl gw ?_) | (refine step_load1 5 _ _ _ rfl (S.old_cell hy) _ Tryd.underlying5 rfl gw ?_)) | ((with_reducible show wpList _ _ _ (⟨_, .load 23 _, _, _, _, _⟩ :: _) _ _); first | (refine step_load1 23 _ _ _ rfl (S.cell pk co) _ Tryd.underlying23 rfl gw ?_) | (refine step_load1 23 _ _ _ rfl (S.row_cell pk _ _ hyr) _ Tryd.underlying23 rfl gw ?_) | (refine step_load1 23 _ _ _ rfl (S.row_cellS pk _ _ hy) _ Tryd.underlying23 rfl gw ?_) | (refine step_load1 23 _ _ _ rfl (S.old_cell hy) _ Tryd.underlying23 rfl gw ?_)) | (go_at_call 27; (with_reducible refine (P8.out _ (S.pt HP.out)).mono ?_); rintro e w1 ⟨rfl, T⟩; replace S := S.call T; clear T; (try simp only [List.nil_append, List.cons_append] at S)) | (go_at_call 34; (with_reducible refine (P7.out _ _ (by first | assumption | exact S.old (Hid.out (by assumption)) | exact S.sl pk | exact S.sl_rd pk)).mono ?_); rintro e w1 ⟨v25, rfl, T⟩; replace S := S.call T; clear T; (try simp only [List.nil_append, List.cons_append] at S)) | ((with_reducible show wpList _ _ _ (⟨_, .load 27 _, _, _, _, _⟩ :: _) _ _); first | (refine step_load S 27 _ _ rfl _ _ _ pk _ Tryd.underlying27 rfl 36 (by kernel_rfl) (by first | rfl | (first | rfl | assumption | (exact Hid.out (by assumption)) | (exact tokL_size _) | (rw [arr8_size]; first | rfl | assumption | (exact Hid.out (by assumption)) | exact tokL_size _ | exact List.length_replicate ..) | (simp [arr8_size]; done))) gw ?_) | (refine step_loadO 27 _ _ rfl _ _ _ (S.old_heap (Hid.out (by assumption))) _ Tryd.underlying27 rfl 36 (by kernel_rfl) (by first | rfl | (first | rfl | assumption | (exact Hid.out (by assumption)) | (exact tokL_size _) | (rw [arr8_size]; first | rfl | assumption | (exact Hid.out (by assumption)) | exact tokL_size _ | exact List.length_replicate ..) | (simp [arr8_size]; done))) gw ?_) | (refine step_loadR 27 _ _ _ rfl _ (S.old_range hy) _ Tryd.underlying27 rfl 36 (by kernel_rfl) (by first | rfl | (first | rfl | assumption | (exact Hid.out (by assumption)) | (exact tokL_size _) | (rw [arr8_size]; first | rfl | assumption | (exact Hid.out (by assumption)) | exact tokL_size _ | exact List.length_replicate ..) | (simp [arr8_size]; done))) _ rfl gw ?_)) | (go_at_call 29; (with_reducible refine (P4.out _ _ (by first | assumption | exact S.old (Hid.out (by assumption)) | exact S.sl pk | exact S.sl_rd pk) (S.oldB H2.out) (S.kt (Hid.out (by assumption))) (S.pt HP.out)).mono ?_); rintro e w1 ⟨rfl, T⟩; replace S := S.call T; clear T; (try simp only [List.nil_append, List.cons_append] at S)) | (go_at_call 29; (with_reducible refine (P5.out _ _ (by first | assumption | exact S.old (Hid.out (by assumption)) | exact S.sl pk | exact S.sl_rd pk) (S.oldB H2.out) (S.kt (Hid.out (by assumption))) (S.pt HP.out)).mono ?_); rintro e w1 ⟨rfl, T⟩; replace S := S.call T; clear T; (try simp only [List.nil_append, List.cons_append] at S)) | (go_at_call 29; (with_reducible refine (P6.out _ _ (by first | assumption | exact S.old (Hid.out (by assumption)) | exact S.sl pk | exact S.sl_rd pk) (S.oldB H2.out) (S.kt (Hid.out (by assumption))) (S.pt HP.out)).mono ?_); rintro e w1 ⟨rfl, T⟩; replace S := S.call T; clear T; (try simp only [List.nil_append, List.cons_append] at S)) | fail)
    all_goals (go_ret; exact ⟨rfl, S.nil⟩)

theorem authLifetime_walk (v0 v1 : Value) (l : List Mnt) (key : List UInt8) (tenant : Int) (role life now kind later : Nat) (w0 : World) (h1 : Rg w0 v0 l) (h2 : Bs w0 v1 key) (hK : KT w0) (hP : PT w0)
    (ht : -9223372036854775808 ≤ tenant ∧ tenant ≤ 9223372036854775807) (hr : role < 256) (hlf : life < 18446744073709551616) (hno : now < 18446744073709551616) (hk : kind < 256) (hla : later < 18446744073709551616) :
    Calls Tryd.prog 9 #[v0, v1, .int .i64 tenant, .int .u8 (role : Int), .int .u64 (life : Int), .int .u64 (now : Int), .int .u8 (kind : Int), .int .u64 (later : Int)] w0 fun e w' => e = .returned (.bool true) ∧ Has w0 w' [] := by
  have p2 := fun w h1 h2 hK => issue_s v0 v1 l key tenant role life now w h1 h2 hK ht hr hlf hno
  have p3 := fun w h1 h2 => refIssue_s v0 v1 l key tenant role life now w h1 h2 ht hr hlf hno
  by_cases hE : issE l key tenant role life now = 0
  · obtain ⟨hm, h0, h3, hv, hR, hT⟩ := iss_parts l key tenant role life now hE
    obtain ⟨hc, r1, r3, l1, l2, n1, hlen⟩ := mint_args l role life now hm
    have hx := expM_le now life
    simp only [hE, hR] at p2 p3
    have g0 : ((issT l key tenant role life now).tenant.toNat : Int) = tenant := by
      rw [hT]; show ((UInt8.ofNat tenant.toNat).toNat : Int) = tenant; rw [UInt8.toNat_ofNat']; omega
    have g1 : ((issT l key tenant role life now).role.toNat : Int) = (role : Int) := by
      rw [hT]; show ((UInt8.ofNat role).toNat : Int) = role; rw [UInt8.toNat_ofNat']; omega
    have g2 : (issT l key tenant role life now).expiry.toNat = expM now life := by
      rw [hT]; show (UInt64.ofNat (expM now life)).toNat = _; rw [UInt64.toNat_ofNat']; omega
    have g3 : ((issT l key tenant role life now).serial.toNat : Int) = (l.length : Int) + 1 := by
      rw [hT]; show ((UInt32.ofNat (l.length + 1)).toNat : Int) = _; rw [UInt32.toNat_ofNat']; omega
    have g3n : (issT l key tenant role life now).serial.toNat = l.length + 1 := by omega
    have p8 := fun w hP => permits_s role kind w hP hr hk
    by_cases hin : 1 ≤ kind ∧ kind ≤ 6 ∧ now ≤ later ∧ later ≤ 4611686018427387904
    · have hok := auz_issued l key tenant role life now kind later hE hin.1 hin.2.1 hin.2.2.2
      have hrv := auz_issued_revoked l key tenant role life now kind later hE hin.1 hin.2.1 hin.2.2.2
      have hro := rev_issued l key tenant role life now hE
      have ho : 0 ≤ (tenant + 1).tmod 3 ∧ (tenant + 1).tmod 3 < 3 ∧ (tenant + 1).tmod 3 ≠ tenant := by
        rw [Int.tmod_eq_emod_of_nonneg (by omega)]; omega
      have hot := auz_issued_other l key tenant ((tenant + 1).tmod 3) role life now kind later hE hin.1 hin.2.1 hin.2.2.2 ho.1 ho.2.1 ho.2.2
      rw [hR] at hok hrv hro hot
      refine life_in v0 v1 l (revR (l ++ [mintM role life now]) (l.length + 1)) key tenant _ role life now kind later _ (mintM role life now) (prmB role kind) w0 h1 h2 hK hP hlen p2 p3 g0 g1 g2 g3 l2 n1 rfl h0 h3 p8 hin _ rfl ?_ ?_ ?_ ?_
      · intro v w h1 h2 hK hP
        have := authz_s v v1 _ key tenant (issT l key tenant role life now) kind later w h1 h2 hK hP ht hk hla
        rw [hok] at this
        exact this
      · intro v w h1 h2 hK hP
        have := authz_s v v1 _ key tenant (issT l key tenant role life now) kind later w h1 h2 hK hP ht hk hla
        rw [hrv] at this
        exact this
      · intro v w h1 h2 hK hP
        have := authz_s v v1 _ key ((tenant + 1).tmod 3) (issT l key tenant role life now) kind later w h1 h2 hK hP (by omega) hk hla
        rw [hot] at this
        exact this
      · intro v w h
        have := revoke_r v _ (l.length + 1) w h (by omega)
        rw [hro, ← g3n] at this
        rw [← g3n]
        exact this
    · exact life_out v0 v1 l [] key tenant ((tenant + 1) % 3) role life now kind later _ (mintM role life now) (prmB role kind) w0 h1 h2 hK hP hlen p2 p3 g0 g1 g2 g3 l2 n1 rfl h0 h3 p8 (by omega)
  · exact life_no v0 v1 l _ key tenant role life now kind later _ _ w0 h1 h2 hK hP p2 p3 hE
end Go.Proofs.YtioonimpobcglaaDoor
