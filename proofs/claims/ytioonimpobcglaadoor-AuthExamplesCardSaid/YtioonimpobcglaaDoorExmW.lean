/- AuthExamples: its walk. No condition but the tables. -/
import Derived.Test.YtioonimpobcglaaDoorBd
import Derived.Test.YtioonimpobcglaaDoorExm
set_option linter.unusedSimpArgs false
set_option linter.unusedVariables false
namespace Go.Proofs.YtioonimpobcglaaDoor
open Go.RowKit

def ring2 : List Mnt := [⟨2, 15, false⟩, ⟨3, 4611686018427387904, false⟩]

set_option maxRecDepth 100000 in
set_option maxHeartbeats 16000000 in
theorem authExamples_walk (w0 : World) (hK : KT w0) (hP : PT w0) : Calls Tryd.prog 15 #[] w0 fun e w' => e = .returned (.bool true) ∧ Has w0 w' [] := by
  have S := Has.start w0
  have p1 := fun w hK hP => alive_s w hK hP
  have pd45 : ∀ v w, Bs w v (zs8 45) → Calls Tryd.prog 18 #[v] w fun e w' => e = .returned (.tuple #[.agg (tokL tokZ).toArray, .int .i64 11]) ∧ Has w w' [] := fun v w h => by
    have := dec_s v (zs8 45) w h
    rw [show decT (zs8 45) = tokZ from dif_neg (by rw [zs8_length]; decide), show decE (zs8 45) = 11 from if_neg (by rw [zs8_length]; decide)] at this
    exact this
  have pd47 : ∀ v w, Bs w v (zs8 47) → Calls Tryd.prog 18 #[v] w fun e w' => e = .returned (.tuple #[.agg (tokL tokZ).toArray, .int .i64 11]) ∧ Has w w' [] := fun v w h => by
    have := dec_s v (zs8 47) w h
    rw [show decT (zs8 47) = tokZ from dif_neg (by rw [zs8_length]; decide), show decE (zs8 47) = 11 from if_neg (by rw [zs8_length]; decide)] at this
    exact this
  have ps0 : ∀ w, KT w → Calls Tryd.prog 20 #[.slice none 0 0, .agg (tokL tokZ).toArray] w fun e w' => e = .returned (.tuple #[.agg (tokL tokZ).toArray, .int .i64 2]) ∧ Has w w' [] := fun w h => sign_s _ [] tokZ w (Bs.mk0 _ _) h
  have pg : ∀ v w, Bs w v (zs8 65) → KT w → Calls Tryd.prog 22 #[v, .agg (tokL tokZ).toArray] w fun e w' => e = .returned (.tuple #[.bool false, .int .i64 2]) ∧ Has w w' [] := fun v w h hk => by
    have := genuine_s v (zs8 65) tokZ w h hk
    have hv : vkB (zs8 65) = false := decide_eq_false (by rw [zs8_length]; decide)
    rw [hv, Bool.false_and, show snE (zs8 65) = 2 from if_neg (by rw [hv]; decide)] at this
    exact this
  have pm1 : ∀ w, True → Calls Tryd.prog 35 #[.slice none 0 0, .int .u8 2, .int .u64 5, .int .u64 10] w (MadeM3 w ring1 1 0) := fun w _ => by
    have := mint_r (.slice none 0 0) [] 2 5 10 w ⟨rfl, .inl ⟨none, rfl, rfl⟩⟩ (by decide) (by decide) (by decide)
    rw [show mintE [] 2 5 10 = 0 by decide, show mintR [] 2 5 10 = ring1 by decide, show mintN [] 2 5 10 = 1 by decide] at this
    exact this
  have pm2 : ∀ v w, Rg w v ring1 → Calls Tryd.prog 35 #[v, .int .u8 3, .int .u64 4611686018427387904, .int .u64 10] w (MadeM3 w ring2 2 0) := fun v w h => by
    have := mint_r v ring1 3 4611686018427387904 10 w h (by decide) (by decide) (by decide)
    rw [show mintE ring1 3 4611686018427387904 10 = 0 by decide, show mintR ring1 3 4611686018427387904 10 = ring2 by decide, show mintN ring1 3 4611686018427387904 10 = 2 by decide] at this
    exact this
  have pm3 : ∀ w, True → Calls Tryd.prog 35 #[.slice none 0 0, .int .u8 0, .int .u64 5, .int .u64 10] w (MadeM3 w [] 0 2) := fun w _ => by
    have := mint_r (.slice none 0 0) [] 0 5 10 w ⟨rfl, .inl ⟨none, rfl, rfl⟩⟩ (by decide) (by decide) (by decide)
    rw [show mintE [] 0 5 10 = 2 by decide, show mintR [] 0 5 10 = [] by decide, show mintN [] 0 5 10 = 0 by decide] at this
    exact this
  have pm4 : ∀ w, True → Calls Tryd.prog 35 #[.slice none 0 0, .int .u8 1, .int .u64 0, .int .u64 10] w (MadeM3 w [] 0 2) := fun w _ => by
    have := mint_r (.slice none 0 0) [] 1 0 10 w ⟨rfl, .inl ⟨none, rfl, rfl⟩⟩ (by decide) (by decide) (by decide)
    rw [show mintE [] 1 0 10 = 2 by decide, show mintR [] 1 0 10 = [] by decide, show mintN [] 1 0 10 = 0 by decide] at this
    exact this
  have pm5 : ∀ w, True → Calls Tryd.prog 35 #[.slice none 0 0, .int .u8 1, .int .u64 5, .int .u64 4611686018427387905] w (MadeM3 w [] 0 2) := fun w _ => by
    have := mint_r (.slice none 0 0) [] 1 5 4611686018427387905 w ⟨rfl, .inl ⟨none, rfl, rfl⟩⟩ (by decide) (by decide) (by decide)
    rw [show mintE [] 1 5 4611686018427387905 = 2 by decide, show mintR [] 1 5 4611686018427387905 = [] by decide, show mintN [] 1 5 4611686018427387905 = 0 by decide] at this
    exact this
  have pm6 : ∀ v w, Sl w 3 v 32 ((fullK 32).flatMap mintL) → Calls Tryd.prog 35 #[v, .int .u8 1, .int .u64 5, .int .u64 10] w (MadeM3 w [] 0 9) := fun v w h => by
    have := mint_r v (fullK 32) 1 5 10 w h (by decide) (by decide) (by decide)
    rw [show mintE (fullK 32) 1 5 10 = 9 by decide, show mintR (fullK 32) 1 5 10 = [] by decide, show mintN (fullK 32) 1 5 10 = 0 by decide] at this
    exact this
  have pc33 : ∀ v w, Sl w 3 v 33 ((List.replicate 33 mintZ).flatMap mintL) → Calls Tryd.prog 41 #[v] w fun e w' => e = .returned (.int .i64 4) ∧ Has w w' [] := fun v w h => check_r v (List.replicate 33 mintZ) w h
  have pc8 : ∀ v w, Sl w 3 v 1 (mintL ⟨4, 0, false⟩) → Calls Tryd.prog 41 #[v] w fun e w' => e = .returned (.int .i64 8) ∧ Has w w' [] := fun v w h => check_r v [⟨4, 0, false⟩] w h
  have pgi := fun w hK => given_s w hK
  have pr0 : ∀ v w, Rg w v ring1 → Calls Tryd.prog 34 #[v, .int .u32 0] w (MadeM2 w [] 191) := fun v w h => by
    have := revoke_r v ring1 0 w h (by decide)
    rw [show revE ring1 0 = 191 by decide, show revR ring1 0 = [] by decide] at this
    exact this
  have pr2 : ∀ v w, Rg w v ring1 → Calls Tryd.prog 34 #[v, .int .u32 2] w (MadeM2 w [] 191) := fun v w h => by
    have := revoke_r v ring1 2 w h (by decide)
    rw [show revE ring1 2 = 191 by decide, show revR ring1 2 = [] by decide] at this
    exact this
  have pr1 : ∀ v w, Rg w v ring1 → Calls Tryd.prog 34 #[v, .int .u32 1] w (MadeM2 w [⟨2, 15, true⟩] 0) := fun v w h => by
    have := revoke_r v ring1 1 w h (by decide)
    rw [show revE ring1 1 = 0 by decide, show revR ring1 1 = [⟨2, 15, true⟩] by decide] at this
    exact this
  have pr3 : ∀ v w, Rg w v [⟨2, 15, true⟩] → Calls Tryd.prog 34 #[v, .int .u32 1] w (MadeM2 w [] 192) := fun v w h => by
    have := revoke_r v [⟨2, 15, true⟩] 1 w h (by decide)
    rw [show revE [⟨2, 15, true⟩] 1 = 192 by decide, show revR [⟨2, 15, true⟩] 1 = [] by decide] at this
    exact this
  have pkey := fun w => key_s w
  have psu : ∀ v w, Bs w v dock → KT w → Calls Tryd.prog 20 #[v, .agg (tokL tokU).toArray] w fun e w' => e = .returned (.tuple #[.agg (tokL tokS).toArray, .int .i64 0]) ∧ Has w w' [] := fun v w h hk => by
    have := sign_s v dock tokU w h hk
    rw [show snT dock tokU = tokS from if_pos vk_dock, show snE dock = 0 from if_pos vk_dock] at this
    exact this
  have pa1 : ∀ v0 v1 w, Rg w v0 ring1 → Bs w v1 dock → KT w → PT w → Calls Tryd.prog 29 #[v0, v1, .int .i64 1, .agg (tokL tok1).toArray, .int .u8 6, .int .u64 10] w fun e w' => e = .returned (.int .i64 194) ∧ Has w w' [] := fun v0 v1 w h1 h2 h3 h4 => by
    have := authz_s v0 v1 ring1 dock 1 tok1 6 10 w h1 h2 h3 h4 (by decide) (by decide) (by decide)
    rw [auzX1] at this
    exact this
  have pa2 : ∀ v0 v1 w, Rg w v0 ring1 → Bs w v1 dock → KT w → PT w → Calls Tryd.prog 29 #[v0, v1, .int .i64 0, .agg (tokL tok1).toArray, .int .u8 1, .int .u64 10] w fun e w' => e = .returned (.int .i64 190) ∧ Has w w' [] := fun v0 v1 w h1 h2 h3 h4 => by
    have := authz_s v0 v1 ring1 dock 0 tok1 1 10 w h1 h2 h3 h4 (by decide) (by decide) (by decide)
    rw [auzX2] at this
    exact this
  have pa3 : ∀ v0 v1 w, Rg w v0 ring1 → Bs w v1 dock → KT w → PT w → Calls Tryd.prog 29 #[v0, v1, .int .i64 1, .agg (tokL tokU).toArray, .int .u8 1, .int .u64 10] w fun e w' => e = .returned (.int .i64 180) ∧ Has w w' [] := fun v0 v1 w h1 h2 h3 h4 => by
    have := authz_s v0 v1 ring1 dock 1 tokU 1 10 w h1 h2 h3 h4 (by decide) (by decide) (by decide)
    rw [auzX3] at this
    exact this
  have pa4 : ∀ v0 v1 w, Rg w v0 ring1 → Bs w v1 dock → KT w → PT w → Calls Tryd.prog 29 #[v0, v1, .int .i64 1, .agg (tokL tokS).toArray, .int .u8 1, .int .u64 10] w fun e w' => e = .returned (.int .i64 191) ∧ Has w w' [] := fun v0 v1 w h1 h2 h3 h4 => by
    have := authz_s v0 v1 ring1 dock 1 tokS 1 10 w h1 h2 h3 h4 (by decide) (by decide) (by decide)
    rw [auzX4] at this
    exact this
  have pl1 : ∀ v w, Sl w 3 v 3 (live3.flatMap mintL) → Calls Tryd.prog 38 #[v, .int .u64 11] w (MadeN2 w [1, 3] 0) := fun v w h => by
    have := live_r v live3 11 w h (by decide)
    rw [show liveE live3 11 = 0 by decide, show liveR live3 11 = [1, 3] by decide] at this
    exact this
  have pl2 : ∀ v w, Sl w 3 v 3 (live3.flatMap mintL) → Calls Tryd.prog 38 #[v, .int .u64 12] w (MadeN2 w [1] 0) := fun v w h => by
    have := live_r v live3 12 w h (by decide)
    rw [show liveE live3 12 = 0 by decide, show liveR live3 12 = [1] by decide] at this
    exact this
  have pl3 : ∀ v w, Sl w 3 v 3 (live3.flatMap mintL) → Calls Tryd.prog 38 #[v, .int .u64 15] w (MadeN2 w [] 0) := fun v w h => by
    have := live_r v live3 15 w h (by decide)
    rw [show liveE live3 15 = 0 by decide, show liveR live3 15 = [] by decide] at this
    exact this
  have pn1 : ∀ v1 v2 w, Ns w v1 [1, 3] → Sl w 1 v2 2 [.int .u32 1, .int .u32 3] → Calls Tryd.prog 40 #[v1, v2] w fun e w' => e = .returned (.bool true) ∧ Has w w' [] := fun v1 v2 w h1 h2 => sameN_r v1 v2 [1, 3] w h1 h2
  have pn2 : ∀ v1 v2 w, Ns w v1 [1] → Sl w 1 v2 1 [.int .u32 1] → Calls Tryd.prog 40 #[v1, v2] w fun e w' => e = .returned (.bool true) ∧ Has w w' [] := fun v1 v2 w h1 h2 => sameN_r v1 v2 [1] w h1 h2
  have pe1 : ∀ w, PT w → Calls Tryd.prog 27 #[.int .u8 2, .int .u8 6] w fun e w' => e = .returned (.bool false) ∧ Has w w' [] := fun w h => permits_s 2 6 w h (by decide) (by decide)
  have pe2 : ∀ w, PT w → Calls Tryd.prog 27 #[.int .u8 3, .int .u8 6] w fun e w' => e = .returned (.bool true) ∧ Has w w' [] := fun w h => permits_s 3 6 w h (by decide) (by decide)
  have pe3 : ∀ w, PT w → Calls Tryd.prog 27 #[.int .u8 0, .int .u8 4] w fun e w' => e = .returned (.bool false) ∧ Has w w' [] := fun w h => permits_s 0 4 w h (by decide) (by decide)
  have pe4 : ∀ w, PT w → Calls Tryd.prog 27 #[.int .u8 3, .int .u8 0] w fun e w' => e = .returned (.bool false) ∧ Has w w' [] := fun w h => permits_s 3 0 w h (by decide) (by decide)
  have hA1 : (ring1.flatMap mintL)[1]? = some (.int .u64 15) := rfl
  have hA2 : (ring2.flatMap mintL)[4]? = some (.int .u64 4611686018427387904) := rfl
  have hU : (tokL tok1).toArray.setIfInBounds 3 (.int .u32 9) = (tokL tokU).toArray := by unfold tokL tokU; rfl
  generalize tok1 = T1 at pgi pa1 pa2 hU
  generalize tokU = T2 at psu pa3 hU
  generalize tokS = T3 at psu pa4
  generalize dock = D at pkey psu pa1 pa2 pa3 pa4
  have HK := Lib.hid hK; have HP := Lib.hid hP; have P1 := Lib.hid p1; have PD45 := Lib.hid pd45; have PD47 := Lib.hid pd47; have PS0 := Lib.hid ps0; have PG := Lib.hid pg; have PM1 := Lib.hid pm1; have PM2 := Lib.hid pm2; have PM3 := Lib.hid pm3; have PM4 := Lib.hid pm4; have PM5 := Lib.hid pm5; have PM6 := Lib.hid pm6; have PC33 := Lib.hid pc33; have PC8 := Lib.hid pc8; have PGI := Lib.hid pgi; have PR0 := Lib.hid pr0; have PR2 := Lib.hid pr2; have PR1 := Lib.hid pr1; have PR3 := Lib.hid pr3; have PKEY := Lib.hid pkey; have PSU := Lib.hid psu; have PA1 := Lib.hid pa1; have PA2 := Lib.hid pa2; have PA3 := Lib.hid pa3; have PA4 := Lib.hid pa4; have PL1 := Lib.hid pl1; have PL2 := Lib.hid pl2; have PL3 := Lib.hid pl3; have PN1 := Lib.hid pn1; have PN2 := Lib.hid pn2; have PE1 := Lib.hid pe1; have PE2 := Lib.hid pe2; have PE3 := Lib.hid pe3; have PE4 := Lib.hid pe4; have HA1 := Lib.hid hA1; have HA2 := Lib.hid hA2; have HU := Lib.hid hU; clear hK hP p1 pd45 pd47 ps0 pg pm1 pm2 pm3 pm4 pm5 pm6 pc33 pc8 pgi pr0 pr2 pr1 pr3 pkey psu pa1 pa2 pa3 pa4 pl1 pl2 pl3 pn1 pn2 pe1 pe2 pe3 pe4 hA1 hA2 hU
  go_enter Tryd.func15, Tryd.ntmps15
  go_wp2_with (first | ((with_reducible show wpList _ _ _ (⟨some 145, .makeSlice _ _ _, _, _, _, _⟩ :: _) _ _); refine step_makeM S _ _ 32 32 rfl rfl rfl (by decide) made32 rfl ?_; clear S; intro v145 w S; obtain ⟨g16, c16, rfl, hc16⟩ := S.row_at (v := v145) pk (by decide); rw [← fullK_zero] at S) | ((with_reducible show wpList _ _ _ (⟨some 29, .makeSlice 22 _ _, _, _, _, _⟩ :: _) _ _); refine step_make8 S _ _ 45 _ (by first | rfl | omega) rfl rfl (by first | decide | omega) gw ?_; clear S; intro v29 w S) | (go_at_call 18; (with_reducible refine (PD45.out _ _ (S.bs pk)).mono ?_); rintro e w1 ⟨rfl, T⟩; replace S := S.call T; clear T; (try simp only [List.nil_append, List.cons_append] at S)) | (go_at_call 18; (with_reducible refine (PD47.out _ _ (S.bs pk)).mono ?_); rintro e w1 ⟨rfl, T⟩; replace S := S.call T; clear T; (try simp only [List.nil_append, List.cons_append] at S)) | ((with_reducible show wpList _ _ _ (⟨some 1, .alloc 27, _, _, _, _⟩ :: _) _ _); refine step_alloc (dst := some 1) S 27 (.agg ((tokL tokZ).toArray)) ((tokL tokZ).toArray) (by kernel_rfl) rfl gw ?_; clear S; intro g1 w S) | ((with_reducible show wpList _ _ _ (⟨none, .store 27 (.tmp 1) (.tmp 31), _, _, _, _⟩ :: _) _ _); refine step_store S 27 (.tmp 1) (.tmp 31) _ _ rfl rfl _ _ pk 36 (by kernel_rfl) (by first | rfl | (first | rfl | assumption | (exact Hid.out (by assumption)) | (exact tokL_size _) | (rw [arr8_size]; first | rfl | assumption | (exact Hid.out (by assumption)) | exact tokL_size _ | exact List.length_replicate ..) | (simp [arr8_size]; done))) (by first | rfl | (first | rfl | assumption | (exact Hid.out (by assumption)) | (exact tokL_size _) | (rw [arr8_size]; first | rfl | assumption | (exact Hid.out (by assumption)) | exact tokL_size _ | exact List.length_replicate ..) | (simp [arr8_size]; done))) on1 gw ?_; clear S; intro w S) | ((with_reducible show wpList _ _ _ (⟨some 34, .makeSlice 22 _ _, _, _, _, _⟩ :: _) _ _); refine step_make8 S _ _ 47 _ (by first | rfl | omega) rfl rfl (by first | decide | omega) gw ?_; clear S; intro v34 w S) | ((with_reducible show wpList _ _ _ (⟨some 3, .alloc 27, _, _, _, _⟩ :: _) _ _); refine step_alloc (dst := some 3) S 27 (.agg ((tokL tokZ).toArray)) ((tokL tokZ).toArray) (by kernel_rfl) rfl gw ?_; clear S; intro g3 w S) | ((with_reducible show wpList _ _ _ (⟨none, .store 27 (.tmp 3) (.tmp 36), _, _, _, _⟩ :: _) _ _); refine step_store S 27 (.tmp 3) (.tmp 36) _ _ rfl rfl _ _ pk 36 (by kernel_rfl) (by first | rfl | (first | rfl | assumption | (exact Hid.out (by assumption)) | (exact tokL_size _) | (rw [arr8_size]; first | rfl | assumption | (exact Hid.out (by assumption)) | exact tokL_size _ | exact List.length_replicate ..) | (simp [arr8_size]; done))) (by first | rfl | (first | rfl | assumption | (exact Hid.out (by assumption)) | (exact tokL_size _) | (rw [arr8_size]; first | rfl | assumption | (exact Hid.out (by assumption)) | exact tokL_size _ | exact List.length_replicate ..) | (simp [arr8_size]; done))) on1 gw ?_; clear S; intro w S) | ((with_reducible show wpList _ _ _ (⟨some 39, .build 27 _, _, _, _, _⟩ :: _) _ _); refine step_buildZ 27 (.agg ((tokL tokZ).toArray)) (fun w => by kernel_rfl) gw ?_) | (go_at_call 20; (with_reducible refine (PS0.out _ (S.kt (Hid.out (by assumption)))).mono ?_); rintro e w1 ⟨rfl, T⟩; replace S := S.call T; clear T; (try simp only [List.nil_append, List.cons_append] at S)) | ((with_reducible show wpList _ _ _ (⟨some 5, .alloc 27, _, _, _, _⟩ :: _) _ _); refine step_alloc (dst := some 5) S 27 (.agg ((tokL tokZ).toArray)) ((tokL tokZ).toArray) (by kernel_rfl) rfl gw ?_; clear S; intro g5 w S) | ((with_reducible show wpList _ _ _ (⟨none, .store 27 (.tmp 5) (.tmp 41), _, _, _, _⟩ :: _) _ _); refine step_store S 27 (.tmp 5) (.tmp 41) _ _ rfl rfl _ _ pk 36 (by kernel_rfl) (by first | rfl | (first | rfl | assumption | (exact Hid.out (by assumption)) | (exact tokL_size _) | (rw [arr8_size]; first | rfl | assumption | (exact Hid.out (by assumption)) | exact tokL_size _ | exact List.length_replicate ..) | (simp [arr8_size]; done))) (by first | rfl | (first | rfl | assumption | (exact Hid.out (by assumption)) | (exact tokL_size _) | (rw [arr8_size]; first | rfl | assumption | (exact Hid.out (by assumption)) | exact tokL_size _ | exact List.length_replicate ..) | (simp [arr8_size]; done))) on1 gw ?_; clear S; intro w S) | ((with_reducible show wpList _ _ _ (⟨some 44, .makeSlice 22 _ _, _, _, _, _⟩ :: _) _ _); refine step_make8 S _ _ 65 _ (by first | rfl | omega) rfl rfl (by first | decide | omega) gw ?_; clear S; intro v44 w S) | ((with_reducible show wpList _ _ _ (⟨some 45, .build 27 _, _, _, _, _⟩ :: _) _ _); refine step_buildZ 27 (.agg ((tokL tokZ).toArray)) (fun w => by kernel_rfl) gw ?_) | (go_at_call 22; (with_reducible refine (PG.out _ _ (S.bs pk) (S.kt (Hid.out (by assumption)))).mono ?_); rintro e w1 ⟨rfl, T⟩; replace S := S.call T; clear T; (try simp only [List.nil_append, List.cons_append] at S)) | (go_at_call 31; (with_reducible refine (P1.out _ (S.kt (Hid.out (by assumption))) (S.pt HP.out)).mono ?_); rintro e w1 ⟨rfl, T⟩; replace S := S.call T; clear T; (try simp only [List.nil_append, List.cons_append] at S)) | (go_at_call 35; (with_reducible refine (PM1.out _ trivial).mono ?_); rintro e w1 ⟨v9, rfl, T⟩; replace S := S.call T; clear T; (try simp only [List.nil_append, List.cons_append] at S); obtain ⟨g9, c9, rfl, _⟩ := S.row_at (v := v9) pk (by decide)) | (go_at_call 35; (with_reducible refine (PM2.out _ _ (by first | assumption | exact S.old (Hid.out (by assumption)) | exact S.sl pk | exact S.sl_rd pk)).mono ?_); rintro e w1 ⟨v11, rfl, T⟩; replace S := S.call T; clear T; (try simp only [List.nil_append, List.cons_append] at S); obtain ⟨g11, c11, rfl, _⟩ := S.row_at (v := v11) pk (by decide)) | (go_at_call 35; (with_reducible refine (PM3.out _ trivial).mono ?_); rintro e w1 ⟨v82, rfl, T⟩; replace S := S.call T; clear T; (try simp only [List.nil_append, List.cons_append] at S)) | (go_at_call 35; (with_reducible refine (PM4.out _ trivial).mono ?_); rintro e w1 ⟨v87, rfl, T⟩; replace S := S.call T; clear T; (try simp only [List.nil_append, List.cons_append] at S)) | (go_at_call 35; (with_reducible refine (PM5.out _ trivial).mono ?_); rintro e w1 ⟨v92, rfl, T⟩; replace S := S.call T; clear T; (try simp only [List.nil_append, List.cons_append] at S)) | ((with_reducible show wpList _ _ _ (⟨_, .load 23 _, _, _, _, _⟩ :: _) _ _); first | (refine step_load1 23 _ _ _ rfl (S.cell pk co) _ Tryd.underlying23 rfl gw ?_) | (refine step_load1 23 _ _ _ rfl (S.row_cell pk _ _ hyr) _ Tryd.underlying23 rfl gw ?_) | (refine step_load1 23 _ _ _ rfl (S.row_cellS pk _ _ hy) _ Tryd.underlying23 rfl gw ?_) | (refine step_load1 23 _ _ _ rfl (S.old_cell hy) _ Tryd.underlying23 rfl gw ?_)) | ((with_reducible show wpList _ _ _ (⟨none, .store 5 (.tmp 153) _, _, _, _, _⟩ :: _) _ _); first | (refine step_store1 S 5 (.tmp 153) _ _ _ (.int _ _) rfl rfl _ _ pk (by kernel_rfl) rfl rfl (by first | rfl | (first | rfl | assumption | (exact Hid.out (by assumption)) | (exact tokL_size _) | (rw [arr8_size]; first | rfl | assumption | (exact Hid.out (by assumption)) | exact tokL_size _ | exact List.length_replicate ..) | (simp [arr8_size]; done))) gw ?_; clear S; intro w S; try simp only [List.setIfInBounds_toArray, List.set_cons_zero, List.set_cons_succ] at S) | (refine step_storeR S 5 (.tmp 153) _ _ _ (.int _ _) rfl rfl _ _ _ _ pk (by (first | omega | assumption | (exact Hid.out (by assumption)) | (simp only [List.length_append, List.length_cons, List.length_nil]; omega))) (by kernel_rfl) rfl rfl gw ?_; clear S; intro w S) | (refine step_storeS S 5 (.tmp 153) _ _ _ (.int _ _) rfl rfl _ _ _ _ _ pk (by (first | omega | assumption | (exact Hid.out (by assumption)) | (simp only [List.length_append, List.length_cons, List.length_nil]; omega))) (by kernel_rfl) rfl rfl gw ?_; clear S; intro w S)) | ((with_reducible show wpList _ _ _ (⟨some 19, .alloc 27, _, _, _, _⟩ :: _) _ _); refine step_alloc (dst := some 19) S 27 (.agg ((tokL tokZ).toArray)) ((tokL tokZ).toArray) (by kernel_rfl) rfl gw ?_; clear S; intro g19 w S) | ((with_reducible show wpList _ _ _ (⟨none, .store 27 (.tmp 19) (.tmp 176), _, _, _, _⟩ :: _) _ _); refine step_store S 27 (.tmp 19) (.tmp 176) _ _ rfl rfl _ _ pk 36 (by kernel_rfl) (by first | rfl | (first | rfl | assumption | (exact Hid.out (by assumption)) | (exact tokL_size _) | (rw [arr8_size]; first | rfl | assumption | (exact Hid.out (by assumption)) | exact tokL_size _ | exact List.length_replicate ..) | (simp [arr8_size]; done))) (by first | rfl | (first | rfl | assumption | (exact Hid.out (by assumption)) | (exact tokL_size _) | (rw [arr8_size]; first | rfl | assumption | (exact Hid.out (by assumption)) | exact tokL_size _ | exact List.length_replicate ..) | (simp [arr8_size]; done))) on1 gw ?_; clear S; intro w S) | ((with_reducible show wpList _ _ _ (⟨_, .load 27 _, _, _, _, _⟩ :: _) _ _); first | (refine step_load S 27 _ _ rfl _ _ _ pk _ Tryd.underlying27 rfl 36 (by kernel_rfl) (by first | rfl | (first | rfl | assumption | (exact Hid.out (by assumption)) | (exact tokL_size _) | (rw [arr8_size]; first | rfl | assumption | (exact Hid.out (by assumption)) | exact tokL_size _ | exact List.length_replicate ..) | (simp [arr8_size]; done))) gw ?_) | (refine step_loadO 27 _ _ rfl _ _ _ (S.old_heap (Hid.out (by assumption))) _ Tryd.underlying27 rfl 36 (by kernel_rfl) (by first | rfl | (first | rfl | assumption | (exact Hid.out (by assumption)) | (exact tokL_size _) | (rw [arr8_size]; first | rfl | assumption | (exact Hid.out (by assumption)) | exact tokL_size _ | exact List.length_replicate ..) | (simp [arr8_size]; done))) gw ?_) | (refine step_loadR 27 _ _ _ rfl _ (S.old_range hy) _ Tryd.underlying27 rfl 36 (by kernel_rfl) (by first | rfl | (first | rfl | assumption | (exact Hid.out (by assumption)) | (exact tokL_size _) | (rw [arr8_size]; first | rfl | assumption | (exact Hid.out (by assumption)) | exact tokL_size _ | exact List.length_replicate ..) | (simp [arr8_size]; done))) _ rfl gw ?_)) | ((with_reducible show wpList _ _ _ (⟨some 22, .alloc 27, _, _, _, _⟩ :: _) _ _); refine step_alloc (dst := some 22) S 27 (.agg ((tokL tokZ).toArray)) ((tokL tokZ).toArray) (by kernel_rfl) rfl gw ?_; clear S; intro g22 w S) | ((with_reducible show wpList _ _ _ (⟨none, .store 27 (.tmp 22) (.tmp 212), _, _, _, _⟩ :: _) _ _); refine step_store S 27 (.tmp 22) (.tmp 212) _ _ rfl rfl _ _ pk 36 (by kernel_rfl) (by first | rfl | (first | rfl | assumption | (exact Hid.out (by assumption)) | (exact tokL_size _) | (rw [arr8_size]; first | rfl | assumption | (exact Hid.out (by assumption)) | exact tokL_size _ | exact List.length_replicate ..) | (simp [arr8_size]; done))) (by first | rfl | (first | rfl | assumption | (exact Hid.out (by assumption)) | (exact tokL_size _) | (rw [arr8_size]; first | rfl | assumption | (exact Hid.out (by assumption)) | exact tokL_size _ | exact List.length_replicate ..) | (simp [arr8_size]; done))) on1 gw ?_; clear S; intro w S) | ((with_reducible show wpList _ _ _ (⟨none, .store 24 (.tmp 213) _, _, _, _, _⟩ :: _) _ _); first | (refine step_store1 S 24 (.tmp 213) _ _ _ (.int _ _) rfl rfl _ _ pk (by kernel_rfl) rfl rfl (by first | rfl | (first | rfl | assumption | (exact Hid.out (by assumption)) | (exact tokL_size _) | (rw [arr8_size]; first | rfl | assumption | (exact Hid.out (by assumption)) | exact tokL_size _ | exact List.length_replicate ..) | (simp [arr8_size]; done))) gw ?_; clear S; intro w S; try simp only [List.setIfInBounds_toArray, List.set_cons_zero, List.set_cons_succ] at S) | (refine step_storeR S 24 (.tmp 213) _ _ _ (.int _ _) rfl rfl _ _ _ _ pk (by (first | omega | assumption | (exact Hid.out (by assumption)) | (simp only [List.length_append, List.length_cons, List.length_nil]; omega))) (by kernel_rfl) rfl rfl gw ?_; clear S; intro w S) | (refine step_storeS S 24 (.tmp 213) _ _ _ (.int _ _) rfl rfl _ _ _ _ _ pk (by (first | omega | assumption | (exact Hid.out (by assumption)) | (simp only [List.length_append, List.length_cons, List.length_nil]; omega))) (by kernel_rfl) rfl rfl gw ?_; clear S; intro w S)) | ((with_reducible show wpList _ _ _ (⟨some 23, .alloc 27, _, _, _, _⟩ :: _) _ _); refine step_alloc (dst := some 23) S 27 (.agg ((tokL tokZ).toArray)) ((tokL tokZ).toArray) (by kernel_rfl) rfl gw ?_; clear S; intro g23 w S) | ((with_reducible show wpList _ _ _ (⟨none, .store 27 (.tmp 23) (.tmp 218), _, _, _, _⟩ :: _) _ _); refine step_store S 27 (.tmp 23) (.tmp 218) _ _ rfl rfl _ _ pk 36 (by kernel_rfl) (by first | rfl | (first | rfl | assumption | (exact Hid.out (by assumption)) | (exact tokL_size _) | (rw [arr8_size]; first | rfl | assumption | (exact Hid.out (by assumption)) | exact tokL_size _ | exact List.length_replicate ..) | (simp [arr8_size]; done))) (by first | rfl | (first | rfl | assumption | (exact Hid.out (by assumption)) | (exact tokL_size _) | (rw [arr8_size]; first | rfl | assumption | (exact Hid.out (by assumption)) | exact tokL_size _ | exact List.length_replicate ..) | (simp [arr8_size]; done))) on1 gw ?_; clear S; intro w S) | fail)
  go_loopw [17] (fun u wr => ∃ (k : Nat), k ≤ 32 ∧ u = .int .i64 (k : Int) ∧ Has w0 wr [row (.slice (some ⟨g16, 0, none⟩) 32 c16) 58 3 32 ((fullK k).flatMap mintL)]) (fun v _ => 32 - (intOf v).toNat)
  case atStart => exact ⟨0, Nat.zero_le _, rfl, S.sub (by repeat (first | exact Sub.nil _ | refine Sub.cons pk ?_))⟩
  case round =>
    obtain ⟨k, hk, rfl, S⟩ := hrel
    by_cases hlt : k < 32
    · have hki : (k : Int) < 32 := by omega
      have hk0 : (0 : Int) ≤ (k : Int) := by omega
      have HFS := Lib.hid (fullK_store k hlt)
      have HFL := Lib.hid (show k * 3 < ((fullK k).flatMap mintL).length by
        have := fullK_len k
        have h2 : ((fullK k).flatMap mintL).length = (fullK k).length * 3 := by
          generalize fullK k = L
          induction L with
          | nil => rfl
          | cons x L ih => rw [List.flatMap_cons, List.length_append, ih, mintL_length, List.length_cons]; omega
        omega)
      go_wp2_with (first | ((with_reducible show wpList _ _ _ (⟨none, .store 5 (.tmp 153) _, _, _, _, _⟩ :: _) _ _); refine step_storeS S 5 (.tmp 153) _ g16 (k * 3) (.int .u8 1) rfl rfl 32 c16 58 3 ((fullK k).flatMap mintL) pk HFL.out (by kernel_rfl) rfl rfl rfl ?_; clear S; intro w S; rw [HFS.out] at S) | fail)
      go_roundw
      case rel => exact ⟨k + 1, by omega, by go_num, S.sub (by repeat (first | exact Sub.nil _ | refine Sub.cons pk ?_))⟩
      all_goals first | omega | (simp only [intOf]; omega)
    · have hke : k = 32 := by omega
      subst hke
      go_wp2_with (first | ((with_reducible show wpList _ _ _ (⟨some 163, .makeSlice _ _ _, _, _, _, _⟩ :: _) _ _); refine step_makeM S _ _ 33 33 rfl rfl rfl (by decide) made33 gw ?_; clear S; intro v163 w S) | ((with_reducible show wpList _ _ _ (⟨some 169, .buildSlice _ _ _, _, _, _, _⟩ :: _) _ _); refine step_buildS1 S 41 58 3 (.tmp 168) (mintL ⟨4, 0, false⟩) (.agg (mintL mintZ).toArray) Tryd.underlying41 infoM2 (by decide) (by decide) rfl rfl gw ?_; clear S; intro v169 w S) | ((with_reducible show wpList _ _ _ (⟨none, .store 24 (.tmp 213) _, _, _, _, _⟩ :: _) _ _); refine step_store1 S 24 (.tmp 213) _ g22 3 (.int .u32 9) rfl rfl _ (tokL T1).toArray pk (by kernel_rfl) rfl rfl (by rw [tokL_size]; decide) rfl ?_; clear S; intro w S; rw [HU.out] at S) | ((with_reducible show wpList _ _ _ (⟨some 29, .makeSlice 22 _ _, _, _, _, _⟩ :: _) _ _); refine step_make8 S _ _ 45 _ (by first | rfl | omega) rfl rfl (by first | decide | omega) gw ?_; clear S; intro v29 w S) | ((with_reducible show wpList _ _ _ (⟨none, .store 27 (.tmp 1) (.tmp 31), _, _, _, _⟩ :: _) _ _); refine step_store S 27 (.tmp 1) (.tmp 31) _ _ rfl rfl _ _ pk 36 (by kernel_rfl) (by first | rfl | (first | rfl | assumption | (exact Hid.out (by assumption)) | (exact tokL_size _) | (rw [arr8_size]; first | rfl | assumption | (exact Hid.out (by assumption)) | exact tokL_size _ | exact List.length_replicate ..) | (simp [arr8_size]; done))) (by first | rfl | (first | rfl | assumption | (exact Hid.out (by assumption)) | (exact tokL_size _) | (rw [arr8_size]; first | rfl | assumption | (exact Hid.out (by assumption)) | exact tokL_size _ | exact List.length_replicate ..) | (simp [arr8_size]; done))) on1 gw ?_; clear S; intro w S) | ((with_reducible show wpList _ _ _ (⟨some 34, .makeSlice 22 _ _, _, _, _, _⟩ :: _) _ _); refine step_make8 S _ _ 47 _ (by first | rfl | omega) rfl rfl (by first | decide | omega) gw ?_; clear S; intro v34 w S) | ((with_reducible show wpList _ _ _ (⟨none, .store 27 (.tmp 3) (.tmp 36), _, _, _, _⟩ :: _) _ _); refine step_store S 27 (.tmp 3) (.tmp 36) _ _ rfl rfl _ _ pk 36 (by kernel_rfl) (by first | rfl | (first | rfl | assumption | (exact Hid.out (by assumption)) | (exact tokL_size _) | (rw [arr8_size]; first | rfl | assumption | (exact Hid.out (by assumption)) | exact tokL_size _ | exact List.length_replicate ..) | (simp [arr8_size]; done))) (by first | rfl | (first | rfl | assumption | (exact Hid.out (by assumption)) | (exact tokL_size _) | (rw [arr8_size]; first | rfl | assumption | (exact Hid.out (by assumption)) | exact tokL_size _ | exact List.length_replicate ..) | (simp [arr8_size]; done))) on1 gw ?_; clear S; intro w S) | ((with_reducible show wpList _ _ _ (⟨some 39, .build 27 _, _, _, _, _⟩ :: _) _ _); refine step_buildZ 27 (.agg ((tokL tokZ).toArray)) (fun w => by kernel_rfl) gw ?_) | ((with_reducible show wpList _ _ _ (⟨none, .store 27 (.tmp 5) (.tmp 41), _, _, _, _⟩ :: _) _ _); refine step_store S 27 (.tmp 5) (.tmp 41) _ _ rfl rfl _ _ pk 36 (by kernel_rfl) (by first | rfl | (first | rfl | assumption | (exact Hid.out (by assumption)) | (exact tokL_size _) | (rw [arr8_size]; first | rfl | assumption | (exact Hid.out (by assumption)) | exact tokL_size _ | exact List.length_replicate ..) | (simp [arr8_size]; done))) (by first | rfl | (first | rfl | assumption | (exact Hid.out (by assumption)) | (exact tokL_size _) | (rw [arr8_size]; first | rfl | assumption | (exact Hid.out (by assumption)) | exact tokL_size _ | exact List.length_replicate ..) | (simp [arr8_size]; done))) on1 gw ?_; clear S; intro w S) | ((with_reducible show wpList _ _ _ (⟨some 44, .makeSlice 22 _ _, _, _, _, _⟩ :: _) _ _); refine step_make8 S _ _ 65 _ (by first | rfl | omega) rfl rfl (by first | decide | omega) gw ?_; clear S; intro v44 w S) | ((with_reducible show wpList _ _ _ (⟨some 45, .build 27 _, _, _, _, _⟩ :: _) _ _); refine step_buildZ 27 (.agg ((tokL tokZ).toArray)) (fun w => by kernel_rfl) gw ?_) | (go_at_call 35; (with_reducible refine (PM6.out _ _ (S.sl (v := .slice (some ⟨g16, 0, none⟩) 32 c16) pk)).mono ?_); rintro e w1 ⟨v154, rfl, T⟩; replace S := S.call T; clear T; (try simp only [List.nil_append, List.cons_append] at S)) | ((with_reducible show wpList _ _ _ (⟨_, .load 23 _, _, _, _, _⟩ :: _) _ _); first | (refine step_load1 23 _ _ _ rfl (S.cell pk co) _ Tryd.underlying23 rfl gw ?_) | (refine step_load1 23 _ _ _ rfl (S.row_cell pk _ _ hyr) _ Tryd.underlying23 rfl gw ?_) | (refine step_load1 23 _ _ _ rfl (S.row_cellS pk _ _ hy) _ Tryd.underlying23 rfl gw ?_) | (refine step_load1 23 _ _ _ rfl (S.old_cell hy) _ Tryd.underlying23 rfl gw ?_)) | ((with_reducible show wpList _ _ _ (⟨none, .store 5 (.tmp 153) _, _, _, _, _⟩ :: _) _ _); first | (refine step_store1 S 5 (.tmp 153) _ _ _ (.int _ _) rfl rfl _ _ pk (by kernel_rfl) rfl rfl (by first | rfl | (first | rfl | assumption | (exact Hid.out (by assumption)) | (exact tokL_size _) | (rw [arr8_size]; first | rfl | assumption | (exact Hid.out (by assumption)) | exact tokL_size _ | exact List.length_replicate ..) | (simp [arr8_size]; done))) gw ?_; clear S; intro w S; try simp only [List.setIfInBounds_toArray, List.set_cons_zero, List.set_cons_succ] at S) | (refine step_storeR S 5 (.tmp 153) _ _ _ (.int _ _) rfl rfl _ _ _ _ pk (by (first | omega | assumption | (exact Hid.out (by assumption)) | (simp only [List.length_append, List.length_cons, List.length_nil]; omega))) (by kernel_rfl) rfl rfl gw ?_; clear S; intro w S) | (refine step_storeS S 5 (.tmp 153) _ _ _ (.int _ _) rfl rfl _ _ _ _ _ pk (by (first | omega | assumption | (exact Hid.out (by assumption)) | (simp only [List.length_append, List.length_cons, List.length_nil]; omega))) (by kernel_rfl) rfl rfl gw ?_; clear S; intro w S)) | (go_at_call 41; (with_reducible refine (PC33.out _ _ (S.sl (v := v163) pk)).mono ?_); rintro e w1 ⟨rfl, T⟩; replace S := S.call T; clear T; (try simp only [List.nil_append, List.cons_append] at S)) | (go_at_call 41; (with_reducible refine (PC8.out _ _ (S.sl (v := v169) pk)).mono ?_); rintro e w1 ⟨rfl, T⟩; replace S := S.call T; clear T; (try simp only [List.nil_append, List.cons_append] at S)) | (go_at_call 43; (with_reducible refine (PGI.out _ (S.kt (Hid.out (by assumption)))).mono ?_); rintro e w1 ⟨v18, rfl, T⟩; replace S := S.call T; clear T; (try simp only [List.nil_append, List.cons_append] at S); obtain ⟨a18, c18, rfl, k18, k19⟩ := Sl.shape (S.sl (v := v18) pk)) | ((with_reducible show wpList _ _ _ (⟨some 19, .alloc 27, _, _, _, _⟩ :: _) _ _); refine step_alloc (dst := some 19) S 27 (.agg ((tokL tokZ).toArray)) ((tokL tokZ).toArray) (by kernel_rfl) rfl gw ?_; clear S; intro g19 w S) | ((with_reducible show wpList _ _ _ (⟨none, .store 27 (.tmp 19) (.tmp 176), _, _, _, _⟩ :: _) _ _); refine step_store S 27 (.tmp 19) (.tmp 176) _ _ rfl rfl _ _ pk 36 (by kernel_rfl) (by first | rfl | (first | rfl | assumption | (exact Hid.out (by assumption)) | (exact tokL_size _) | (rw [arr8_size]; first | rfl | assumption | (exact Hid.out (by assumption)) | exact tokL_size _ | exact List.length_replicate ..) | (simp [arr8_size]; done))) (by first | rfl | (first | rfl | assumption | (exact Hid.out (by assumption)) | (exact tokL_size _) | (rw [arr8_size]; first | rfl | assumption | (exact Hid.out (by assumption)) | exact tokL_size _ | exact List.length_replicate ..) | (simp [arr8_size]; done))) on1 gw ?_; clear S; intro w S) | (go_at_call 34; (with_reducible refine (PR0.out _ _ (by first | assumption | exact S.old (Hid.out (by assumption)) | exact S.sl pk | exact S.sl_rd pk)).mono ?_); rintro e w1 ⟨v178, rfl, T⟩; replace S := S.call T; clear T; (try simp only [List.nil_append, List.cons_append] at S)) | (go_at_call 34; (with_reducible refine (PR2.out _ _ (by first | assumption | exact S.old (Hid.out (by assumption)) | exact S.sl pk | exact S.sl_rd pk)).mono ?_); rintro e w1 ⟨v183, rfl, T⟩; replace S := S.call T; clear T; (try simp only [List.nil_append, List.cons_append] at S)) | (go_at_call 34; (with_reducible refine (PR1.out _ _ (by first | assumption | exact S.old (Hid.out (by assumption)) | exact S.sl pk | exact S.sl_rd pk)).mono ?_); rintro e w1 ⟨v21, rfl, T⟩; replace S := S.call T; clear T; (try simp only [List.nil_append, List.cons_append] at S)) | (go_at_call 34; (with_reducible refine (PR3.out _ _ (by first | assumption | exact S.old (Hid.out (by assumption)) | exact S.sl pk | exact S.sl_rd pk)).mono ?_); rintro e w1 ⟨v193, rfl, T⟩; replace S := S.call T; clear T; (try simp only [List.nil_append, List.cons_append] at S)) | ((with_reducible show wpList _ _ _ (⟨_, .load 27 _, _, _, _, _⟩ :: _) _ _); first | (refine step_load S 27 _ _ rfl _ _ _ pk _ Tryd.underlying27 rfl 36 (by kernel_rfl) (by first | rfl | (first | rfl | assumption | (exact Hid.out (by assumption)) | (exact tokL_size _) | (rw [arr8_size]; first | rfl | assumption | (exact Hid.out (by assumption)) | exact tokL_size _ | exact List.length_replicate ..) | (simp [arr8_size]; done))) gw ?_) | (refine step_loadO 27 _ _ rfl _ _ _ (S.old_heap (Hid.out (by assumption))) _ Tryd.underlying27 rfl 36 (by kernel_rfl) (by first | rfl | (first | rfl | assumption | (exact Hid.out (by assumption)) | (exact tokL_size _) | (rw [arr8_size]; first | rfl | assumption | (exact Hid.out (by assumption)) | exact tokL_size _ | exact List.length_replicate ..) | (simp [arr8_size]; done))) gw ?_) | (refine step_loadR 27 _ _ _ rfl _ (S.old_range hy) _ Tryd.underlying27 rfl 36 (by kernel_rfl) (by first | rfl | (first | rfl | assumption | (exact Hid.out (by assumption)) | (exact tokL_size _) | (rw [arr8_size]; first | rfl | assumption | (exact Hid.out (by assumption)) | exact tokL_size _ | exact List.length_replicate ..) | (simp [arr8_size]; done))) _ rfl gw ?_)) | ((with_reducible show wpList _ _ _ (⟨some 22, .alloc 27, _, _, _, _⟩ :: _) _ _); refine step_alloc (dst := some 22) S 27 (.agg ((tokL tokZ).toArray)) ((tokL tokZ).toArray) (by kernel_rfl) rfl gw ?_; clear S; intro g22 w S) | ((with_reducible show wpList _ _ _ (⟨none, .store 27 (.tmp 22) (.tmp 212), _, _, _, _⟩ :: _) _ _); refine step_store S 27 (.tmp 22) (.tmp 212) _ _ rfl rfl _ _ pk 36 (by kernel_rfl) (by first | rfl | (first | rfl | assumption | (exact Hid.out (by assumption)) | (exact tokL_size _) | (rw [arr8_size]; first | rfl | assumption | (exact Hid.out (by assumption)) | exact tokL_size _ | exact List.length_replicate ..) | (simp [arr8_size]; done))) (by first | rfl | (first | rfl | assumption | (exact Hid.out (by assumption)) | (exact tokL_size _) | (rw [arr8_size]; first | rfl | assumption | (exact Hid.out (by assumption)) | exact tokL_size _ | exact List.length_replicate ..) | (simp [arr8_size]; done))) on1 gw ?_; clear S; intro w S) | ((with_reducible show wpList _ _ _ (⟨none, .store 24 (.tmp 213) _, _, _, _, _⟩ :: _) _ _); first | (refine step_store1 S 24 (.tmp 213) _ _ _ (.int _ _) rfl rfl _ _ pk (by kernel_rfl) rfl rfl (by first | rfl | (first | rfl | assumption | (exact Hid.out (by assumption)) | (exact tokL_size _) | (rw [arr8_size]; first | rfl | assumption | (exact Hid.out (by assumption)) | exact tokL_size _ | exact List.length_replicate ..) | (simp [arr8_size]; done))) gw ?_; clear S; intro w S; try simp only [List.setIfInBounds_toArray, List.set_cons_zero, List.set_cons_succ] at S) | (refine step_storeR S 24 (.tmp 213) _ _ _ (.int _ _) rfl rfl _ _ _ _ pk (by (first | omega | assumption | (exact Hid.out (by assumption)) | (simp only [List.length_append, List.length_cons, List.length_nil]; omega))) (by kernel_rfl) rfl rfl gw ?_; clear S; intro w S) | (refine step_storeS S 24 (.tmp 213) _ _ _ (.int _ _) rfl rfl _ _ _ _ _ pk (by (first | omega | assumption | (exact Hid.out (by assumption)) | (simp only [List.length_append, List.length_cons, List.length_nil]; omega))) (by kernel_rfl) rfl rfl gw ?_; clear S; intro w S)) | ((with_reducible show wpList _ _ _ (⟨some 23, .alloc 27, _, _, _, _⟩ :: _) _ _); refine step_alloc (dst := some 23) S 27 (.agg ((tokL tokZ).toArray)) ((tokL tokZ).toArray) (by kernel_rfl) rfl gw ?_; clear S; intro g23 w S) | ((with_reducible show wpList _ _ _ (⟨none, .store 27 (.tmp 23) (.tmp 218), _, _, _, _⟩ :: _) _ _); refine step_store S 27 (.tmp 23) (.tmp 218) _ _ rfl rfl _ _ pk 36 (by kernel_rfl) (by first | rfl | (first | rfl | assumption | (exact Hid.out (by assumption)) | (exact tokL_size _) | (rw [arr8_size]; first | rfl | assumption | (exact Hid.out (by assumption)) | exact tokL_size _ | exact List.length_replicate ..) | (simp [arr8_size]; done))) (by first | rfl | (first | rfl | assumption | (exact Hid.out (by assumption)) | (exact tokL_size _) | (rw [arr8_size]; first | rfl | assumption | (exact Hid.out (by assumption)) | exact tokL_size _ | exact List.length_replicate ..) | (simp [arr8_size]; done))) on1 gw ?_; clear S; intro w S) | fail)
      refine wp_rely S [⟨[], [], [], fun _ v => True, fun _ v => [rd8 v D]⟩, ⟨[], [], [], fun _ v => v = .agg (tokL T2).toArray, fun _ v => []⟩, ⟨[0, 1], [], [0], fun _ v => v = .tuple #[.agg (tokL T3).toArray, .int .i64 0], fun _ v => []⟩, ⟨[0, 1, 2], [], [], fun _ v => v = (.tuple #[.agg (tokL T3).toArray, .int .i64 0]), fun _ v => []⟩, ⟨[0, 1, 2, 3], [], [], fun _ v => v = .agg (tokL T3).toArray, fun _ v => []⟩, ⟨[0, 1, 2, 3], [], [], fun _ v => v = .int .i64 0, fun _ v => []⟩, ⟨[], [], [], fun _ v => ∃ g, v = .pointer (some ⟨g, 0, none⟩), fun _ v => [blk (ptrBlk v) (.cells ((tokL tokZ).toArray) 27 (0, 0))]⟩, ⟨[0, 1, 2, 3, 4, 6], [6], [], fun _ v => True, fun d v => [blk (ptrBlk (d 6)) (.cells ((tokL T3).toArray) 27 (0, 0))]⟩, ⟨[0, 1, 2, 3, 4, 5, 6, 7], [], [], fun _ v => v = (.int .i64 0), fun _ v => []⟩] ?A1 ?hA1 (by kernel_rfl) (by kernel_rfl) (by kernel_rfl) [0, 1, 2, 3, 4, 5, 7, 8] (by kernel_rfl) ?hok1 ?fin1
      case hA1 => intro u; simp only [putAll, List.length_cons, List.length_nil, Nat.zero_add, Nat.reduceAdd, dstAt, List.getElem?_toArray, List.getElem?_cons_zero, List.getElem?_cons_succ, Option.bind_some, Act.put, List.setIfInBounds_toArray, List.set_cons_zero, List.set_cons_succ]; rfl
      case hok1 =>
        intro i hi
        obtain rfl | rfl | rfl | rfl | rfl | rfl | rfl | rfl | rfl : i = 0 ∨ i = 1 ∨ i = 2 ∨ i = 3 ∨ i = 4 ∨ i = 5 ∨ i = 6 ∨ i = 7 ∨ i = 8 := by simp only [List.length_cons, List.length_nil, Nat.zero_add, Nat.reduceAdd] at hi; omega
        · clear hi
          refine step_of rfl rfl rfl ?_
          intro u G w hf S
          simp only [resOf, spec, RSpec.resAt, z0, z1, z2, z3, z4, z5, z6, z7, ptrBlk] at S ⊢
          refine does_fn (args := []) Tryd.func44 (by kernel_rfl) (by kernel_rfl) (PKEY.out w) rfl ?_
          rintro e w1 ⟨v, rfl, T⟩
          exact ⟨_, rfl, trivial, S.call T⟩
        · clear hi
          refine step_of rfl rfl rfl ?_
          intro u G w hf S
          simp only [resOf, spec, RSpec.resAt, z0, z1, z2, z3, z4, z5, z6, z7, ptrBlk] at S ⊢
          refine does_load 27 (.tmp 22) g22 rfl _ _ _ (S.get (r := blk g22 _) pk) _ Tryd.underlying27 rfl 36 (by kernel_rfl) (by first | rfl | (first | rfl | assumption | (exact Hid.out (by assumption)) | (exact tokL_size _) | (rw [arr8_size]; first | rfl | assumption | (exact Hid.out (by assumption)) | exact tokL_size _ | exact List.length_replicate ..) | (simp [arr8_size]; done))) ?_; exact ⟨rfl, S⟩
        · clear hi
          refine step_of rfl rfl rfl ?_
          intro u G w hf S
          have f1 : u 1 = .agg (tokL T2).toArray := hf 1 (by simp)
          simp only [resOf, spec, RSpec.resAt, z0, z1, z2, z3, z4, z5, z6, z7, ptrBlk] at S ⊢
          simp only [f1] at S ⊢
          try simp only [ptrBlk] at S
          refine does_fn (args := [u 0, (.agg (tokL T2).toArray)]) Tryd.func20 (by kernel_rfl) (by kernel_rfl) (PSU.out _ w (S.bsr pk) (S.kt HK.out)) rfl ?_
          rintro e w1 ⟨rfl, T⟩
          exact ⟨_, rfl, rfl, S.call T⟩
        · clear hi
          refine step_of rfl rfl rfl ?_
          intro u G w hf S
          have f1 : u 1 = .agg (tokL T2).toArray := hf 1 (by simp)
          have f2 : u 2 = .tuple #[.agg (tokL T3).toArray, .int .i64 0] := hf 2 (by simp)
          simp only [resOf, spec, RSpec.resAt, z0, z1, z2, z3, z4, z5, z6, z7, ptrBlk] at S ⊢
          simp only [f1, f2]
          simp only [does]
          go_simp
          try first | exact S | exact ⟨vv, S⟩ | exact vv
        · clear hi
          refine step_of rfl rfl rfl ?_
          intro u G w hf S
          have f1 : u 1 = .agg (tokL T2).toArray := hf 1 (by simp)
          have f2 : u 2 = .tuple #[.agg (tokL T3).toArray, .int .i64 0] := hf 2 (by simp)
          have f3 : u 3 = (.tuple #[.agg (tokL T3).toArray, .int .i64 0]) := hf 3 (by simp)
          simp only [resOf, spec, RSpec.resAt, z0, z1, z2, z3, z4, z5, z6, z7, ptrBlk] at S ⊢
          simp only [f1, f2, f3]
          simp only [does]
          go_simp
          try first | exact S | exact ⟨vv, S⟩ | exact vv
        · clear hi
          refine step_of rfl rfl rfl ?_
          intro u G w hf S
          have f1 : u 1 = .agg (tokL T2).toArray := hf 1 (by simp)
          have f2 : u 2 = .tuple #[.agg (tokL T3).toArray, .int .i64 0] := hf 2 (by simp)
          have f3 : u 3 = (.tuple #[.agg (tokL T3).toArray, .int .i64 0]) := hf 3 (by simp)
          simp only [resOf, spec, RSpec.resAt, z0, z1, z2, z3, z4, z5, z6, z7, ptrBlk] at S ⊢
          simp only [f1, f2, f3]
          simp only [does]
          go_simp
          try first | exact S | exact ⟨vv, S⟩ | exact vv
        · clear hi
          refine step_of rfl rfl rfl ?_
          intro u G w hf S
          simp only [resOf, spec, RSpec.resAt, z0, z1, z2, z3, z4, z5, z6, z7, ptrBlk] at S ⊢
          refine does_alloc S 27 (.agg ((tokL tokZ).toArray)) ((tokL tokZ).toArray) (by kernel_rfl) rfl ?_; intro g w1 S; exact ⟨⟨g, rfl⟩, S⟩
        · clear hi
          refine step_of rfl rfl rfl ?_
          intro u G w hf S
          have f1 : u 1 = .agg (tokL T2).toArray := hf 1 (by simp)
          have f2 : u 2 = .tuple #[.agg (tokL T3).toArray, .int .i64 0] := hf 2 (by simp)
          have f3 : u 3 = (.tuple #[.agg (tokL T3).toArray, .int .i64 0]) := hf 3 (by simp)
          have f4 : u 4 = .agg (tokL T3).toArray := hf 4 (by simp)
          have f6 : ∃ g, u 6 = .pointer (some ⟨g, 0, none⟩) := hf 6 (by simp)
          obtain ⟨g23, f6⟩ := f6
          have m6 : mask [0, 1, 2, 3, 4, 6] u 6 = u 6 := rfl
          simp only [resOf, spec, RSpec.resAt, List.getD_cons_zero, List.getD_cons_succ, List.flatMap_cons, List.flatMap_nil, List.nil_append, List.cons_append, List.append_nil, List.append_assoc, m6, ptrBlk] at S ⊢
          simp only [m6, f1, f2, f3, f4, f6] at S ⊢
          try simp only [ptrBlk] at S
          refine does_store S 27 (.tmp 23) (.tmp 218) _ rfl rfl 36 (by kernel_rfl) (by first | rfl | (first | rfl | assumption | (exact Hid.out (by assumption)) | (exact tokL_size _) | (rw [arr8_size]; first | rfl | assumption | (exact Hid.out (by assumption)) | exact tokL_size _ | exact List.length_replicate ..) | (simp [arr8_size]; done))) (by first | rfl | (first | rfl | assumption | (exact Hid.out (by assumption)) | (exact tokL_size _) | (rw [arr8_size]; first | rfl | assumption | (exact Hid.out (by assumption)) | exact tokL_size _ | exact List.length_replicate ..) | (simp [arr8_size]; done))) on1 ?_; intro w1 S; exact ⟨trivial, S⟩
        · clear hi
          refine step_of rfl rfl rfl ?_
          intro u G w hf S
          have f1 : u 1 = .agg (tokL T2).toArray := hf 1 (by simp)
          have f2 : u 2 = .tuple #[.agg (tokL T3).toArray, .int .i64 0] := hf 2 (by simp)
          have f3 : u 3 = (.tuple #[.agg (tokL T3).toArray, .int .i64 0]) := hf 3 (by simp)
          have f4 : u 4 = .agg (tokL T3).toArray := hf 4 (by simp)
          have f5 : u 5 = .int .i64 0 := hf 5 (by simp)
          have f6 : ∃ g, u 6 = .pointer (some ⟨g, 0, none⟩) := hf 6 (by simp)
          obtain ⟨g23, f6⟩ := f6
          simp only [resOf, spec, RSpec.resAt, z0, z1, z2, z3, z4, z5, z6, z7, ptrBlk] at S ⊢
          simp only [f1, f2, f3, f4, f5, f6]
          simp only [does]
          go_simp
          try first | exact S | exact ⟨vv, S⟩ | exact vv
      case fin1 =>
        intro u w hf S
        have f1 : u 1 = .agg (tokL T2).toArray := hf 1 (by simp)
        have f2 : u 2 = .tuple #[.agg (tokL T3).toArray, .int .i64 0] := hf 2 (by simp)
        have f3 : u 3 = (.tuple #[.agg (tokL T3).toArray, .int .i64 0]) := hf 3 (by simp)
        have f4 : u 4 = .agg (tokL T3).toArray := hf 4 (by simp)
        have f5 : u 5 = .int .i64 0 := hf 5 (by simp)
        have f6 : ∃ g, u 6 = .pointer (some ⟨g, 0, none⟩) := hf 6 (by simp)
        obtain ⟨g23, f6⟩ := f6
        have f8 : u 8 = (.int .i64 0) := hf 8 (by simp)
        have m7_6 : mask [0, 1, 2, 3, 4, 6] u 6 = u 6 := rfl
        simp only [resOf, spec, RSpec.resAt, List.getD_cons_zero, List.getD_cons_succ, List.flatMap_cons, List.flatMap_nil, List.nil_append, List.cons_append, List.append_nil, List.append_assoc, m7_6, ptrBlk] at S
        clear hf
        simp only [List.length_cons, List.length_nil, Nat.zero_add, Nat.reduceAdd, List.drop_succ_cons, List.drop_zero, f1, f2, f3, f4, f5, f6, f8]
        try simp only [f1, f2, f3, f4, f5, f6, f8, ptrBlk] at S
        clear f1 f2 f3 f4 f5 f6 f8 m7_6
        generalize u 0 = v215 at S ⊢
        go_wp2
        refine wp_rely S [⟨[], [], [], fun _ v => v = (.int .i64 0), fun _ v => []⟩, ⟨[0], [], [], fun _ v => v = .bool false, fun _ v => []⟩, ⟨[0, 1], [], [], fun _ v => v = (.bool false), fun _ v => []⟩, ⟨[0, 1, 2], [], [], fun _ v => v = (.slice a18 ring1.length c18), fun _ v => []⟩, ⟨[0, 1, 2], [], [], fun _ v => True, fun _ v => [rd8 v D]⟩, ⟨[0, 1, 2], [], [], fun _ v => v = .agg (tokL T1).toArray, fun _ v => []⟩, ⟨[0, 1, 2, 3, 4, 5], [], [4], fun _ v => v = .int .i64 194, fun _ v => []⟩, ⟨[0, 1, 2, 3, 4, 5, 6], [], [], fun _ v => v = .bool false, fun _ v => []⟩, ⟨[0, 1, 2, 3, 4, 5, 6, 7], [], [], fun _ v => v = .bool false, fun _ v => []⟩, ⟨[0, 1, 2, 3, 4, 5, 6, 7, 8], [], [], fun _ v => v = (.bool false), fun _ v => []⟩, ⟨[0, 1, 2, 3, 4, 5, 6, 7, 8, 9], [], [], fun _ v => v = (.slice a18 ring1.length c18), fun _ v => []⟩, ⟨[0, 1, 2, 3, 4, 5, 6, 7, 8, 9], [], [], fun _ v => True, fun _ v => [rd8 v D]⟩, ⟨[0, 1, 2, 3, 4, 5, 6, 7, 8, 9], [], [], fun _ v => v = .agg (tokL T1).toArray, fun _ v => []⟩, ⟨[0, 1, 2, 3, 4, 5, 6, 7, 8, 9, 10, 11, 12], [], [11], fun _ v => v = .int .i64 190, fun _ v => []⟩, ⟨[0, 1, 2, 3, 4, 5, 6, 7, 8, 9, 10, 11, 12, 13], [], [], fun _ v => v = .bool false, fun _ v => []⟩, ⟨[0, 1, 2, 3, 4, 5, 6, 7, 8, 9, 10, 11, 12, 13, 14], [], [], fun _ v => v = .bool false, fun _ v => []⟩, ⟨[0, 1, 2, 3, 4, 5, 6, 7, 8, 9, 10, 11, 12, 13, 14, 15], [], [], fun _ v => v = (.bool false), fun _ v => []⟩, ⟨[0, 1, 2, 3, 4, 5, 6, 7, 8, 9, 10, 11, 12, 13, 14, 15, 16], [], [], fun _ v => v = (.slice a18 ring1.length c18), fun _ v => []⟩, ⟨[0, 1, 2, 3, 4, 5, 6, 7, 8, 9, 10, 11, 12, 13, 14, 15, 16], [], [], fun _ v => True, fun _ v => [rd8 v D]⟩, ⟨[0, 1, 2, 3, 4, 5, 6, 7, 8, 9, 10, 11, 12, 13, 14, 15, 16], [], [], fun _ v => v = .agg (tokL T2).toArray, fun _ v => []⟩, ⟨[0, 1, 2, 3, 4, 5, 6, 7, 8, 9, 10, 11, 12, 13, 14, 15, 16, 17, 18, 19], [], [18], fun _ v => v = .int .i64 180, fun _ v => []⟩, ⟨[0, 1, 2, 3, 4, 5, 6, 7, 8, 9, 10, 11, 12, 13, 14, 15, 16, 17, 18, 19, 20], [], [], fun _ v => v = .bool false, fun _ v => []⟩, ⟨[0, 1, 2, 3, 4, 5, 6, 7, 8, 9, 10, 11, 12, 13, 14, 15, 16, 17, 18, 19, 20, 21], [], [], fun _ v => v = .bool false, fun _ v => []⟩, ⟨[0, 1, 2, 3, 4, 5, 6, 7, 8, 9, 10, 11, 12, 13, 14, 15, 16, 17, 18, 19, 20, 21, 22], [], [], fun _ v => v = (.bool false), fun _ v => []⟩, ⟨[0, 1, 2, 3, 4, 5, 6, 7, 8, 9, 10, 11, 12, 13, 14, 15, 16, 17, 18, 19, 20, 21, 22, 23], [], [], fun _ v => v = (.slice a18 ring1.length c18), fun _ v => []⟩, ⟨[0, 1, 2, 3, 4, 5, 6, 7, 8, 9, 10, 11, 12, 13, 14, 15, 16, 17, 18, 19, 20, 21, 22, 23], [], [], fun _ v => True, fun _ v => [rd8 v D]⟩, ⟨[0, 1, 2, 3, 4, 5, 6, 7, 8, 9, 10, 11, 12, 13, 14, 15, 16, 17, 18, 19, 20, 21, 22, 23], [], [], fun _ v => v = .agg (tokL T3).toArray, fun _ v => []⟩, ⟨[0, 1, 2, 3, 4, 5, 6, 7, 8, 9, 10, 11, 12, 13, 14, 15, 16, 17, 18, 19, 20, 21, 22, 23, 24, 25, 26], [], [25], fun _ v => v = .int .i64 191, fun _ v => []⟩, ⟨[0, 1, 2, 3, 4, 5, 6, 7, 8, 9, 10, 11, 12, 13, 14, 15, 16, 17, 18, 19, 20, 21, 22, 23, 24, 25, 26, 27], [], [], fun _ v => v = .bool false, fun _ v => []⟩, ⟨[0, 1, 2, 3, 4, 5, 6, 7, 8, 9, 10, 11, 12, 13, 14, 15, 16, 17, 18, 19, 20, 21, 22, 23, 24, 25, 26, 27, 28], [], [], fun _ v => v = .bool false, fun _ v => []⟩] ?A2 ?hA2 (by kernel_rfl) (by kernel_rfl) (by kernel_rfl) [0, 1, 2, 3, 4, 5, 6, 7, 8, 9, 10, 11, 12, 13, 14, 15, 16, 17, 18, 19, 20, 21, 22, 23, 24, 25, 26, 27, 28, 29] (by kernel_rfl) ?hok2 ?fin2
        case hA2 => intro u; simp only [putAll, List.length_cons, List.length_nil, Nat.zero_add, Nat.reduceAdd, dstAt, List.getElem?_toArray, List.getElem?_cons_zero, List.getElem?_cons_succ, Option.bind_some, Act.put, List.setIfInBounds_toArray, List.set_cons_zero, List.set_cons_succ]; rfl
        case hok2 =>
          intro i hi
          obtain rfl | rfl | rfl | rfl | rfl | rfl | rfl | rfl | rfl | rfl | rfl | rfl | rfl | rfl | rfl | rfl | rfl | rfl | rfl | rfl | rfl | rfl | rfl | rfl | rfl | rfl | rfl | rfl | rfl | rfl : i = 0 ∨ i = 1 ∨ i = 2 ∨ i = 3 ∨ i = 4 ∨ i = 5 ∨ i = 6 ∨ i = 7 ∨ i = 8 ∨ i = 9 ∨ i = 10 ∨ i = 11 ∨ i = 12 ∨ i = 13 ∨ i = 14 ∨ i = 15 ∨ i = 16 ∨ i = 17 ∨ i = 18 ∨ i = 19 ∨ i = 20 ∨ i = 21 ∨ i = 22 ∨ i = 23 ∨ i = 24 ∨ i = 25 ∨ i = 26 ∨ i = 27 ∨ i = 28 ∨ i = 29 := by simp only [List.length_cons, List.length_nil, Nat.zero_add, Nat.reduceAdd] at hi; omega
          · clear hi
            refine step_of rfl rfl rfl ?_
            intro u G w hf S
            simp only [resOf, spec, RSpec.resAt, z0, z1, z2, z3, z4, z5, z6, z7, ptrBlk] at S ⊢
            simp only [does]
            go_simp
            try first | exact S | exact ⟨vv, S⟩ | exact vv
          · clear hi
            refine step_of rfl rfl rfl ?_
            intro u G w hf S
            have f0 : u 0 = (.int .i64 0) := hf 0 (by simp)
            simp only [resOf, spec, RSpec.resAt, z0, z1, z2, z3, z4, z5, z6, z7, ptrBlk] at S ⊢
            simp only [f0]
            simp only [does]
            go_simp
            try first | exact S | exact ⟨vv, S⟩ | exact vv
          · clear hi
            refine step_of rfl rfl rfl ?_
            intro u G w hf S
            have f0 : u 0 = (.int .i64 0) := hf 0 (by simp)
            have f1 : u 1 = .bool false := hf 1 (by simp)
            simp only [resOf, spec, RSpec.resAt, z0, z1, z2, z3, z4, z5, z6, z7, ptrBlk] at S ⊢
            simp only [f0, f1]
            simp only [does]
            go_simp
            try first | exact S | exact ⟨vv, S⟩ | exact vv
          · clear hi
            refine step_of_g rfl rfl ?_
            intro u G w hf S
            have f0 : u 0 = (.int .i64 0) := hf 0 (by simp)
            have f1 : u 1 = .bool false := hf 1 (by simp)
            have f2 : u 2 = (.bool false) := hf 2 (by simp)
            simp only [resOf, spec, RSpec.resAt, z0, z1, z2, z3, z4, z5, z6, z7, ptrBlk] at S ⊢
            simp only [f0, f1, f2]
            refine ⟨rfl, ?_⟩
            simp only [does]
            go_simp
            try first | exact S | exact ⟨vv, S⟩ | exact vv
          · clear hi
            refine step_of_g rfl rfl ?_
            intro u G w hf S
            have f0 : u 0 = (.int .i64 0) := hf 0 (by simp)
            have f1 : u 1 = .bool false := hf 1 (by simp)
            have f2 : u 2 = (.bool false) := hf 2 (by simp)
            simp only [resOf, spec, RSpec.resAt, z0, z1, z2, z3, z4, z5, z6, z7, ptrBlk] at S ⊢
            simp only [f0, f1, f2]
            refine ⟨rfl, ?_⟩
            refine does_fn (args := []) Tryd.func44 (by kernel_rfl) (by kernel_rfl) (PKEY.out w) rfl ?_
            rintro e w1 ⟨v, rfl, T⟩
            exact ⟨_, rfl, trivial, S.call T⟩
          · clear hi
            refine step_of_g rfl rfl ?_
            intro u G w hf S
            have f0 : u 0 = (.int .i64 0) := hf 0 (by simp)
            have f1 : u 1 = .bool false := hf 1 (by simp)
            have f2 : u 2 = (.bool false) := hf 2 (by simp)
            simp only [resOf, spec, RSpec.resAt, z0, z1, z2, z3, z4, z5, z6, z7, ptrBlk] at S ⊢
            simp only [f0, f1, f2]
            refine ⟨rfl, ?_⟩
            refine does_load 27 (.tmp 19) g19 rfl _ _ _ (S.get (r := blk g19 _) pk) _ Tryd.underlying27 rfl 36 (by kernel_rfl) (by first | rfl | (first | rfl | assumption | (exact Hid.out (by assumption)) | (exact tokL_size _) | (rw [arr8_size]; first | rfl | assumption | (exact Hid.out (by assumption)) | exact tokL_size _ | exact List.length_replicate ..) | (simp [arr8_size]; done))) ?_; exact ⟨rfl, S⟩
          · clear hi
            refine step_of_g rfl rfl ?_
            intro u G w hf S
            have f0 : u 0 = (.int .i64 0) := hf 0 (by simp)
            have f1 : u 1 = .bool false := hf 1 (by simp)
            have f2 : u 2 = (.bool false) := hf 2 (by simp)
            have f3 : u 3 = (.slice a18 ring1.length c18) := hf 3 (by simp)
            have f5 : u 5 = .agg (tokL T1).toArray := hf 5 (by simp)
            simp only [resOf, spec, RSpec.resAt, z0, z1, z2, z3, z4, z5, z6, z7, ptrBlk] at S ⊢
            simp only [f0, f1, f2, f3, f5] at S ⊢
            try simp only [ptrBlk] at S
            refine ⟨rfl, ?_⟩
            refine does_fn (args := [((.slice a18 ring1.length c18)), u 4, (.int .i64 1), (.agg (tokL T1).toArray), (.int .u8 6), (.int .u64 10)]) Tryd.func29 (by kernel_rfl) (by kernel_rfl) (PA1.out _ _ w (S.sl (v := .slice a18 ring1.length c18) pk) (S.bsr pk) (S.kt HK.out) (S.pt HP.out)) rfl ?_
            rintro e w1 ⟨rfl, T⟩
            exact ⟨_, rfl, rfl, S.call T⟩
          · clear hi
            refine step_of_g rfl rfl ?_
            intro u G w hf S
            have f0 : u 0 = (.int .i64 0) := hf 0 (by simp)
            have f1 : u 1 = .bool false := hf 1 (by simp)
            have f2 : u 2 = (.bool false) := hf 2 (by simp)
            have f3 : u 3 = (.slice a18 ring1.length c18) := hf 3 (by simp)
            have f5 : u 5 = .agg (tokL T1).toArray := hf 5 (by simp)
            have f6 : u 6 = .int .i64 194 := hf 6 (by simp)
            simp only [resOf, spec, RSpec.resAt, z0, z1, z2, z3, z4, z5, z6, z7, ptrBlk] at S ⊢
            simp only [f0, f1, f2, f3, f5, f6]
            refine ⟨rfl, ?_⟩
            simp only [does]
            go_simp
            try first | exact S | exact ⟨vv, S⟩ | exact vv
          · clear hi
            refine step_of rfl rfl rfl ?_
            intro u G w hf S
            have f0 : u 0 = (.int .i64 0) := hf 0 (by simp)
            have f1 : u 1 = .bool false := hf 1 (by simp)
            have f2 : u 2 = (.bool false) := hf 2 (by simp)
            have f3 : u 3 = (.slice a18 ring1.length c18) := hf 3 (by simp)
            have f5 : u 5 = .agg (tokL T1).toArray := hf 5 (by simp)
            have f6 : u 6 = .int .i64 194 := hf 6 (by simp)
            have f7 : u 7 = .bool false := hf 7 (by simp)
            simp only [resOf, spec, RSpec.resAt, z0, z1, z2, z3, z4, z5, z6, z7, ptrBlk] at S ⊢
            simp only [f0, f1, f2, f3, f5, f6, f7]
            simp only [does]
            go_simp
            try first | exact S | exact ⟨vv, S⟩ | exact vv
          · clear hi
            refine step_of rfl rfl rfl ?_
            intro u G w hf S
            have f0 : u 0 = (.int .i64 0) := hf 0 (by simp)
            have f1 : u 1 = .bool false := hf 1 (by simp)
            have f2 : u 2 = (.bool false) := hf 2 (by simp)
            have f3 : u 3 = (.slice a18 ring1.length c18) := hf 3 (by simp)
            have f5 : u 5 = .agg (tokL T1).toArray := hf 5 (by simp)
            have f6 : u 6 = .int .i64 194 := hf 6 (by simp)
            have f7 : u 7 = .bool false := hf 7 (by simp)
            have f8 : u 8 = .bool false := hf 8 (by simp)
            simp only [resOf, spec, RSpec.resAt, z0, z1, z2, z3, z4, z5, z6, z7, ptrBlk] at S ⊢
            simp only [f0, f1, f2, f3, f5, f6, f7, f8]
            simp only [does]
            go_simp
            try first | exact S | exact ⟨vv, S⟩ | exact vv
          · clear hi
            refine step_of_g rfl rfl ?_
            intro u G w hf S
            have f0 : u 0 = (.int .i64 0) := hf 0 (by simp)
            have f1 : u 1 = .bool false := hf 1 (by simp)
            have f2 : u 2 = (.bool false) := hf 2 (by simp)
            have f3 : u 3 = (.slice a18 ring1.length c18) := hf 3 (by simp)
            have f5 : u 5 = .agg (tokL T1).toArray := hf 5 (by simp)
            have f6 : u 6 = .int .i64 194 := hf 6 (by simp)
            have f7 : u 7 = .bool false := hf 7 (by simp)
            have f8 : u 8 = .bool false := hf 8 (by simp)
            have f9 : u 9 = (.bool false) := hf 9 (by simp)
            simp only [resOf, spec, RSpec.resAt, z0, z1, z2, z3, z4, z5, z6, z7, ptrBlk] at S ⊢
            simp only [f0, f1, f2, f3, f5, f6, f7, f8, f9]
            refine ⟨rfl, ?_⟩
            simp only [does]
            go_simp
            try first | exact S | exact ⟨vv, S⟩ | exact vv
          · clear hi
            refine step_of_g rfl rfl ?_
            intro u G w hf S
            have f0 : u 0 = (.int .i64 0) := hf 0 (by simp)
            have f1 : u 1 = .bool false := hf 1 (by simp)
            have f2 : u 2 = (.bool false) := hf 2 (by simp)
            have f3 : u 3 = (.slice a18 ring1.length c18) := hf 3 (by simp)
            have f5 : u 5 = .agg (tokL T1).toArray := hf 5 (by simp)
            have f6 : u 6 = .int .i64 194 := hf 6 (by simp)
            have f7 : u 7 = .bool false := hf 7 (by simp)
            have f8 : u 8 = .bool false := hf 8 (by simp)
            have f9 : u 9 = (.bool false) := hf 9 (by simp)
            simp only [resOf, spec, RSpec.resAt, z0, z1, z2, z3, z4, z5, z6, z7, ptrBlk] at S ⊢
            simp only [f0, f1, f2, f3, f5, f6, f7, f8, f9]
            refine ⟨rfl, ?_⟩
            refine does_fn (args := []) Tryd.func44 (by kernel_rfl) (by kernel_rfl) (PKEY.out w) rfl ?_
            rintro e w1 ⟨v, rfl, T⟩
            exact ⟨_, rfl, trivial, S.call T⟩
          · clear hi
            refine step_of_g rfl rfl ?_
            intro u G w hf S
            have f0 : u 0 = (.int .i64 0) := hf 0 (by simp)
            have f1 : u 1 = .bool false := hf 1 (by simp)
            have f2 : u 2 = (.bool false) := hf 2 (by simp)
            have f3 : u 3 = (.slice a18 ring1.length c18) := hf 3 (by simp)
            have f5 : u 5 = .agg (tokL T1).toArray := hf 5 (by simp)
            have f6 : u 6 = .int .i64 194 := hf 6 (by simp)
            have f7 : u 7 = .bool false := hf 7 (by simp)
            have f8 : u 8 = .bool false := hf 8 (by simp)
            have f9 : u 9 = (.bool false) := hf 9 (by simp)
            simp only [resOf, spec, RSpec.resAt, z0, z1, z2, z3, z4, z5, z6, z7, ptrBlk] at S ⊢
            simp only [f0, f1, f2, f3, f5, f6, f7, f8, f9]
            refine ⟨rfl, ?_⟩
            refine does_load 27 (.tmp 19) g19 rfl _ _ _ (S.get (r := blk g19 _) pk) _ Tryd.underlying27 rfl 36 (by kernel_rfl) (by first | rfl | (first | rfl | assumption | (exact Hid.out (by assumption)) | (exact tokL_size _) | (rw [arr8_size]; first | rfl | assumption | (exact Hid.out (by assumption)) | exact tokL_size _ | exact List.length_replicate ..) | (simp [arr8_size]; done))) ?_; exact ⟨rfl, S⟩
          · clear hi
            refine step_of_g rfl rfl ?_
            intro u G w hf S
            have f0 : u 0 = (.int .i64 0) := hf 0 (by simp)
            have f1 : u 1 = .bool false := hf 1 (by simp)
            have f2 : u 2 = (.bool false) := hf 2 (by simp)
            have f3 : u 3 = (.slice a18 ring1.length c18) := hf 3 (by simp)
            have f5 : u 5 = .agg (tokL T1).toArray := hf 5 (by simp)
            have f6 : u 6 = .int .i64 194 := hf 6 (by simp)
            have f7 : u 7 = .bool false := hf 7 (by simp)
            have f8 : u 8 = .bool false := hf 8 (by simp)
            have f9 : u 9 = (.bool false) := hf 9 (by simp)
            have f10 : u 10 = (.slice a18 ring1.length c18) := hf 10 (by simp)
            have f12 : u 12 = .agg (tokL T1).toArray := hf 12 (by simp)
            simp only [resOf, spec, RSpec.resAt, z0, z1, z2, z3, z4, z5, z6, z7, ptrBlk] at S ⊢
            simp only [f0, f1, f2, f3, f5, f6, f7, f8, f9, f10, f12] at S ⊢
            try simp only [ptrBlk] at S
            refine ⟨rfl, ?_⟩
            refine does_fn (args := [((.slice a18 ring1.length c18)), u 11, (.int .i64 0), (.agg (tokL T1).toArray), (.int .u8 1), (.int .u64 10)]) Tryd.func29 (by kernel_rfl) (by kernel_rfl) (PA2.out _ _ w (S.sl (v := .slice a18 ring1.length c18) pk) (S.bsr pk) (S.kt HK.out) (S.pt HP.out)) rfl ?_
            rintro e w1 ⟨rfl, T⟩
            exact ⟨_, rfl, rfl, S.call T⟩
          · clear hi
            refine step_of_g rfl rfl ?_
            intro u G w hf S
            have f0 : u 0 = (.int .i64 0) := hf 0 (by simp)
            have f1 : u 1 = .bool false := hf 1 (by simp)
            have f2 : u 2 = (.bool false) := hf 2 (by simp)
            have f3 : u 3 = (.slice a18 ring1.length c18) := hf 3 (by simp)
            have f5 : u 5 = .agg (tokL T1).toArray := hf 5 (by simp)
            have f6 : u 6 = .int .i64 194 := hf 6 (by simp)
            have f7 : u 7 = .bool false := hf 7 (by simp)
            have f8 : u 8 = .bool false := hf 8 (by simp)
            have f9 : u 9 = (.bool false) := hf 9 (by simp)
            have f10 : u 10 = (.slice a18 ring1.length c18) := hf 10 (by simp)
            have f12 : u 12 = .agg (tokL T1).toArray := hf 12 (by simp)
            have f13 : u 13 = .int .i64 190 := hf 13 (by simp)
            simp only [resOf, spec, RSpec.resAt, z0, z1, z2, z3, z4, z5, z6, z7, ptrBlk] at S ⊢
            simp only [f0, f1, f2, f3, f5, f6, f7, f8, f9, f10, f12, f13]
            refine ⟨rfl, ?_⟩
            simp only [does]
            go_simp
            try first | exact S | exact ⟨vv, S⟩ | exact vv
          · clear hi
            refine step_of rfl rfl rfl ?_
            intro u G w hf S
            have f0 : u 0 = (.int .i64 0) := hf 0 (by simp)
            have f1 : u 1 = .bool false := hf 1 (by simp)
            have f2 : u 2 = (.bool false) := hf 2 (by simp)
            have f3 : u 3 = (.slice a18 ring1.length c18) := hf 3 (by simp)
            have f5 : u 5 = .agg (tokL T1).toArray := hf 5 (by simp)
            have f6 : u 6 = .int .i64 194 := hf 6 (by simp)
            have f7 : u 7 = .bool false := hf 7 (by simp)
            have f8 : u 8 = .bool false := hf 8 (by simp)
            have f9 : u 9 = (.bool false) := hf 9 (by simp)
            have f10 : u 10 = (.slice a18 ring1.length c18) := hf 10 (by simp)
            have f12 : u 12 = .agg (tokL T1).toArray := hf 12 (by simp)
            have f13 : u 13 = .int .i64 190 := hf 13 (by simp)
            have f14 : u 14 = .bool false := hf 14 (by simp)
            simp only [resOf, spec, RSpec.resAt, z0, z1, z2, z3, z4, z5, z6, z7, ptrBlk] at S ⊢
            simp only [f0, f1, f2, f3, f5, f6, f7, f8, f9, f10, f12, f13, f14]
            simp only [does]
            go_simp
            try first | exact S | exact ⟨vv, S⟩ | exact vv
          · clear hi
            refine step_of rfl rfl rfl ?_
            intro u G w hf S
            have f0 : u 0 = (.int .i64 0) := hf 0 (by simp)
            have f1 : u 1 = .bool false := hf 1 (by simp)
            have f2 : u 2 = (.bool false) := hf 2 (by simp)
            have f3 : u 3 = (.slice a18 ring1.length c18) := hf 3 (by simp)
            have f5 : u 5 = .agg (tokL T1).toArray := hf 5 (by simp)
            have f6 : u 6 = .int .i64 194 := hf 6 (by simp)
            have f7 : u 7 = .bool false := hf 7 (by simp)
            have f8 : u 8 = .bool false := hf 8 (by simp)
            have f9 : u 9 = (.bool false) := hf 9 (by simp)
            have f10 : u 10 = (.slice a18 ring1.length c18) := hf 10 (by simp)
            have f12 : u 12 = .agg (tokL T1).toArray := hf 12 (by simp)
            have f13 : u 13 = .int .i64 190 := hf 13 (by simp)
            have f14 : u 14 = .bool false := hf 14 (by simp)
            have f15 : u 15 = .bool false := hf 15 (by simp)
            simp only [resOf, spec, RSpec.resAt, z0, z1, z2, z3, z4, z5, z6, z7, ptrBlk] at S ⊢
            simp only [f0, f1, f2, f3, f5, f6, f7, f8, f9, f10, f12, f13, f14, f15]
            simp only [does]
            go_simp
            try first | exact S | exact ⟨vv, S⟩ | exact vv
          · clear hi
            refine step_of_g rfl rfl ?_
            intro u G w hf S
            have f0 : u 0 = (.int .i64 0) := hf 0 (by simp)
            have f1 : u 1 = .bool false := hf 1 (by simp)
            have f2 : u 2 = (.bool false) := hf 2 (by simp)
            have f3 : u 3 = (.slice a18 ring1.length c18) := hf 3 (by simp)
            have f5 : u 5 = .agg (tokL T1).toArray := hf 5 (by simp)
            have f6 : u 6 = .int .i64 194 := hf 6 (by simp)
            have f7 : u 7 = .bool false := hf 7 (by simp)
            have f8 : u 8 = .bool false := hf 8 (by simp)
            have f9 : u 9 = (.bool false) := hf 9 (by simp)
            have f10 : u 10 = (.slice a18 ring1.length c18) := hf 10 (by simp)
            have f12 : u 12 = .agg (tokL T1).toArray := hf 12 (by simp)
            have f13 : u 13 = .int .i64 190 := hf 13 (by simp)
            have f14 : u 14 = .bool false := hf 14 (by simp)
            have f15 : u 15 = .bool false := hf 15 (by simp)
            have f16 : u 16 = (.bool false) := hf 16 (by simp)
            simp only [resOf, spec, RSpec.resAt, z0, z1, z2, z3, z4, z5, z6, z7, ptrBlk] at S ⊢
            simp only [f0, f1, f2, f3, f5, f6, f7, f8, f9, f10, f12, f13, f14, f15, f16]
            refine ⟨rfl, ?_⟩
            simp only [does]
            go_simp
            try first | exact S | exact ⟨vv, S⟩ | exact vv
          · clear hi
            refine step_of_g rfl rfl ?_
            intro u G w hf S
            have f0 : u 0 = (.int .i64 0) := hf 0 (by simp)
            have f1 : u 1 = .bool false := hf 1 (by simp)
            have f2 : u 2 = (.bool false) := hf 2 (by simp)
            have f3 : u 3 = (.slice a18 ring1.length c18) := hf 3 (by simp)
            have f5 : u 5 = .agg (tokL T1).toArray := hf 5 (by simp)
            have f6 : u 6 = .int .i64 194 := hf 6 (by simp)
            have f7 : u 7 = .bool false := hf 7 (by simp)
            have f8 : u 8 = .bool false := hf 8 (by simp)
            have f9 : u 9 = (.bool false) := hf 9 (by simp)
            have f10 : u 10 = (.slice a18 ring1.length c18) := hf 10 (by simp)
            have f12 : u 12 = .agg (tokL T1).toArray := hf 12 (by simp)
            have f13 : u 13 = .int .i64 190 := hf 13 (by simp)
            have f14 : u 14 = .bool false := hf 14 (by simp)
            have f15 : u 15 = .bool false := hf 15 (by simp)
            have f16 : u 16 = (.bool false) := hf 16 (by simp)
            simp only [resOf, spec, RSpec.resAt, z0, z1, z2, z3, z4, z5, z6, z7, ptrBlk] at S ⊢
            simp only [f0, f1, f2, f3, f5, f6, f7, f8, f9, f10, f12, f13, f14, f15, f16]
            refine ⟨rfl, ?_⟩
            refine does_fn (args := []) Tryd.func44 (by kernel_rfl) (by kernel_rfl) (PKEY.out w) rfl ?_
            rintro e w1 ⟨v, rfl, T⟩
            exact ⟨_, rfl, trivial, S.call T⟩
          · clear hi
            refine step_of_g rfl rfl ?_
            intro u G w hf S
            have f0 : u 0 = (.int .i64 0) := hf 0 (by simp)
            have f1 : u 1 = .bool false := hf 1 (by simp)
            have f2 : u 2 = (.bool false) := hf 2 (by simp)
            have f3 : u 3 = (.slice a18 ring1.length c18) := hf 3 (by simp)
            have f5 : u 5 = .agg (tokL T1).toArray := hf 5 (by simp)
            have f6 : u 6 = .int .i64 194 := hf 6 (by simp)
            have f7 : u 7 = .bool false := hf 7 (by simp)
            have f8 : u 8 = .bool false := hf 8 (by simp)
            have f9 : u 9 = (.bool false) := hf 9 (by simp)
            have f10 : u 10 = (.slice a18 ring1.length c18) := hf 10 (by simp)
            have f12 : u 12 = .agg (tokL T1).toArray := hf 12 (by simp)
            have f13 : u 13 = .int .i64 190 := hf 13 (by simp)
            have f14 : u 14 = .bool false := hf 14 (by simp)
            have f15 : u 15 = .bool false := hf 15 (by simp)
            have f16 : u 16 = (.bool false) := hf 16 (by simp)
            simp only [resOf, spec, RSpec.resAt, z0, z1, z2, z3, z4, z5, z6, z7, ptrBlk] at S ⊢
            simp only [f0, f1, f2, f3, f5, f6, f7, f8, f9, f10, f12, f13, f14, f15, f16]
            refine ⟨rfl, ?_⟩
            refine does_load 27 (.tmp 22) g22 rfl _ _ _ (S.get (r := blk g22 _) pk) _ Tryd.underlying27 rfl 36 (by kernel_rfl) (by first | rfl | (first | rfl | assumption | (exact Hid.out (by assumption)) | (exact tokL_size _) | (rw [arr8_size]; first | rfl | assumption | (exact Hid.out (by assumption)) | exact tokL_size _ | exact List.length_replicate ..) | (simp [arr8_size]; done))) ?_; exact ⟨rfl, S⟩
          · clear hi
            refine step_of_g rfl rfl ?_
            intro u G w hf S
            have f0 : u 0 = (.int .i64 0) := hf 0 (by simp)
            have f1 : u 1 = .bool false := hf 1 (by simp)
            have f2 : u 2 = (.bool false) := hf 2 (by simp)
            have f3 : u 3 = (.slice a18 ring1.length c18) := hf 3 (by simp)
            have f5 : u 5 = .agg (tokL T1).toArray := hf 5 (by simp)
            have f6 : u 6 = .int .i64 194 := hf 6 (by simp)
            have f7 : u 7 = .bool false := hf 7 (by simp)
            have f8 : u 8 = .bool false := hf 8 (by simp)
            have f9 : u 9 = (.bool false) := hf 9 (by simp)
            have f10 : u 10 = (.slice a18 ring1.length c18) := hf 10 (by simp)
            have f12 : u 12 = .agg (tokL T1).toArray := hf 12 (by simp)
            have f13 : u 13 = .int .i64 190 := hf 13 (by simp)
            have f14 : u 14 = .bool false := hf 14 (by simp)
            have f15 : u 15 = .bool false := hf 15 (by simp)
            have f16 : u 16 = (.bool false) := hf 16 (by simp)
            have f17 : u 17 = (.slice a18 ring1.length c18) := hf 17 (by simp)
            have f19 : u 19 = .agg (tokL T2).toArray := hf 19 (by simp)
            simp only [resOf, spec, RSpec.resAt, z0, z1, z2, z3, z4, z5, z6, z7, ptrBlk] at S ⊢
            simp only [f0, f1, f2, f3, f5, f6, f7, f8, f9, f10, f12, f13, f14, f15, f16, f17, f19] at S ⊢
            try simp only [ptrBlk] at S
            refine ⟨rfl, ?_⟩
            refine does_fn (args := [((.slice a18 ring1.length c18)), u 18, (.int .i64 1), (.agg (tokL T2).toArray), (.int .u8 1), (.int .u64 10)]) Tryd.func29 (by kernel_rfl) (by kernel_rfl) (PA3.out _ _ w (S.sl (v := .slice a18 ring1.length c18) pk) (S.bsr pk) (S.kt HK.out) (S.pt HP.out)) rfl ?_
            rintro e w1 ⟨rfl, T⟩
            exact ⟨_, rfl, rfl, S.call T⟩
          · clear hi
            refine step_of_g rfl rfl ?_
            intro u G w hf S
            have f0 : u 0 = (.int .i64 0) := hf 0 (by simp)
            have f1 : u 1 = .bool false := hf 1 (by simp)
            have f2 : u 2 = (.bool false) := hf 2 (by simp)
            have f3 : u 3 = (.slice a18 ring1.length c18) := hf 3 (by simp)
            have f5 : u 5 = .agg (tokL T1).toArray := hf 5 (by simp)
            have f6 : u 6 = .int .i64 194 := hf 6 (by simp)
            have f7 : u 7 = .bool false := hf 7 (by simp)
            have f8 : u 8 = .bool false := hf 8 (by simp)
            have f9 : u 9 = (.bool false) := hf 9 (by simp)
            have f10 : u 10 = (.slice a18 ring1.length c18) := hf 10 (by simp)
            have f12 : u 12 = .agg (tokL T1).toArray := hf 12 (by simp)
            have f13 : u 13 = .int .i64 190 := hf 13 (by simp)
            have f14 : u 14 = .bool false := hf 14 (by simp)
            have f15 : u 15 = .bool false := hf 15 (by simp)
            have f16 : u 16 = (.bool false) := hf 16 (by simp)
            have f17 : u 17 = (.slice a18 ring1.length c18) := hf 17 (by simp)
            have f19 : u 19 = .agg (tokL T2).toArray := hf 19 (by simp)
            have f20 : u 20 = .int .i64 180 := hf 20 (by simp)
            simp only [resOf, spec, RSpec.resAt, z0, z1, z2, z3, z4, z5, z6, z7, ptrBlk] at S ⊢
            simp only [f0, f1, f2, f3, f5, f6, f7, f8, f9, f10, f12, f13, f14, f15, f16, f17, f19, f20]
            refine ⟨rfl, ?_⟩
            simp only [does]
            go_simp
            try first | exact S | exact ⟨vv, S⟩ | exact vv
          · clear hi
            refine step_of rfl rfl rfl ?_
            intro u G w hf S
            have f0 : u 0 = (.int .i64 0) := hf 0 (by simp)
            have f1 : u 1 = .bool false := hf 1 (by simp)
            have f2 : u 2 = (.bool false) := hf 2 (by simp)
            have f3 : u 3 = (.slice a18 ring1.length c18) := hf 3 (by simp)
            have f5 : u 5 = .agg (tokL T1).toArray := hf 5 (by simp)
            have f6 : u 6 = .int .i64 194 := hf 6 (by simp)
            have f7 : u 7 = .bool false := hf 7 (by simp)
            have f8 : u 8 = .bool false := hf 8 (by simp)
            have f9 : u 9 = (.bool false) := hf 9 (by simp)
            have f10 : u 10 = (.slice a18 ring1.length c18) := hf 10 (by simp)
            have f12 : u 12 = .agg (tokL T1).toArray := hf 12 (by simp)
            have f13 : u 13 = .int .i64 190 := hf 13 (by simp)
            have f14 : u 14 = .bool false := hf 14 (by simp)
            have f15 : u 15 = .bool false := hf 15 (by simp)
            have f16 : u 16 = (.bool false) := hf 16 (by simp)
            have f17 : u 17 = (.slice a18 ring1.length c18) := hf 17 (by simp)
            have f19 : u 19 = .agg (tokL T2).toArray := hf 19 (by simp)
            have f20 : u 20 = .int .i64 180 := hf 20 (by simp)
            have f21 : u 21 = .bool false := hf 21 (by simp)
            simp only [resOf, spec, RSpec.resAt, z0, z1, z2, z3, z4, z5, z6, z7, ptrBlk] at S ⊢
            simp only [f0, f1, f2, f3, f5, f6, f7, f8, f9, f10, f12, f13, f14, f15, f16, f17, f19, f20, f21]
            simp only [does]
            go_simp
            try first | exact S | exact ⟨vv, S⟩ | exact vv
          · clear hi
            refine step_of rfl rfl rfl ?_
            intro u G w hf S
            have f0 : u 0 = (.int .i64 0) := hf 0 (by simp)
            have f1 : u 1 = .bool false := hf 1 (by simp)
            have f2 : u 2 = (.bool false) := hf 2 (by simp)
            have f3 : u 3 = (.slice a18 ring1.length c18) := hf 3 (by simp)
            have f5 : u 5 = .agg (tokL T1).toArray := hf 5 (by simp)
            have f6 : u 6 = .int .i64 194 := hf 6 (by simp)
            have f7 : u 7 = .bool false := hf 7 (by simp)
            have f8 : u 8 = .bool false := hf 8 (by simp)
            have f9 : u 9 = (.bool false) := hf 9 (by simp)
            have f10 : u 10 = (.slice a18 ring1.length c18) := hf 10 (by simp)
            have f12 : u 12 = .agg (tokL T1).toArray := hf 12 (by simp)
            have f13 : u 13 = .int .i64 190 := hf 13 (by simp)
            have f14 : u 14 = .bool false := hf 14 (by simp)
            have f15 : u 15 = .bool false := hf 15 (by simp)
            have f16 : u 16 = (.bool false) := hf 16 (by simp)
            have f17 : u 17 = (.slice a18 ring1.length c18) := hf 17 (by simp)
            have f19 : u 19 = .agg (tokL T2).toArray := hf 19 (by simp)
            have f20 : u 20 = .int .i64 180 := hf 20 (by simp)
            have f21 : u 21 = .bool false := hf 21 (by simp)
            have f22 : u 22 = .bool false := hf 22 (by simp)
            simp only [resOf, spec, RSpec.resAt, z0, z1, z2, z3, z4, z5, z6, z7, ptrBlk] at S ⊢
            simp only [f0, f1, f2, f3, f5, f6, f7, f8, f9, f10, f12, f13, f14, f15, f16, f17, f19, f20, f21, f22]
            simp only [does]
            go_simp
            try first | exact S | exact ⟨vv, S⟩ | exact vv
          · clear hi
            refine step_of_g rfl rfl ?_
            intro u G w hf S
            have f0 : u 0 = (.int .i64 0) := hf 0 (by simp)
            have f1 : u 1 = .bool false := hf 1 (by simp)
            have f2 : u 2 = (.bool false) := hf 2 (by simp)
            have f3 : u 3 = (.slice a18 ring1.length c18) := hf 3 (by simp)
            have f5 : u 5 = .agg (tokL T1).toArray := hf 5 (by simp)
            have f6 : u 6 = .int .i64 194 := hf 6 (by simp)
            have f7 : u 7 = .bool false := hf 7 (by simp)
            have f8 : u 8 = .bool false := hf 8 (by simp)
            have f9 : u 9 = (.bool false) := hf 9 (by simp)
            have f10 : u 10 = (.slice a18 ring1.length c18) := hf 10 (by simp)
            have f12 : u 12 = .agg (tokL T1).toArray := hf 12 (by simp)
            have f13 : u 13 = .int .i64 190 := hf 13 (by simp)
            have f14 : u 14 = .bool false := hf 14 (by simp)
            have f15 : u 15 = .bool false := hf 15 (by simp)
            have f16 : u 16 = (.bool false) := hf 16 (by simp)
            have f17 : u 17 = (.slice a18 ring1.length c18) := hf 17 (by simp)
            have f19 : u 19 = .agg (tokL T2).toArray := hf 19 (by simp)
            have f20 : u 20 = .int .i64 180 := hf 20 (by simp)
            have f21 : u 21 = .bool false := hf 21 (by simp)
            have f22 : u 22 = .bool false := hf 22 (by simp)
            have f23 : u 23 = (.bool false) := hf 23 (by simp)
            simp only [resOf, spec, RSpec.resAt, z0, z1, z2, z3, z4, z5, z6, z7, ptrBlk] at S ⊢
            simp only [f0, f1, f2, f3, f5, f6, f7, f8, f9, f10, f12, f13, f14, f15, f16, f17, f19, f20, f21, f22, f23]
            refine ⟨rfl, ?_⟩
            simp only [does]
            go_simp
            try first | exact S | exact ⟨vv, S⟩ | exact vv
          · clear hi
            refine step_of_g rfl rfl ?_
            intro u G w hf S
            have f0 : u 0 = (.int .i64 0) := hf 0 (by simp)
            have f1 : u 1 = .bool false := hf 1 (by simp)
            have f2 : u 2 = (.bool false) := hf 2 (by simp)
            have f3 : u 3 = (.slice a18 ring1.length c18) := hf 3 (by simp)
            have f5 : u 5 = .agg (tokL T1).toArray := hf 5 (by simp)
            have f6 : u 6 = .int .i64 194 := hf 6 (by simp)
            have f7 : u 7 = .bool false := hf 7 (by simp)
            have f8 : u 8 = .bool false := hf 8 (by simp)
            have f9 : u 9 = (.bool false) := hf 9 (by simp)
            have f10 : u 10 = (.slice a18 ring1.length c18) := hf 10 (by simp)
            have f12 : u 12 = .agg (tokL T1).toArray := hf 12 (by simp)
            have f13 : u 13 = .int .i64 190 := hf 13 (by simp)
            have f14 : u 14 = .bool false := hf 14 (by simp)
            have f15 : u 15 = .bool false := hf 15 (by simp)
            have f16 : u 16 = (.bool false) := hf 16 (by simp)
            have f17 : u 17 = (.slice a18 ring1.length c18) := hf 17 (by simp)
            have f19 : u 19 = .agg (tokL T2).toArray := hf 19 (by simp)
            have f20 : u 20 = .int .i64 180 := hf 20 (by simp)
            have f21 : u 21 = .bool false := hf 21 (by simp)
            have f22 : u 22 = .bool false := hf 22 (by simp)
            have f23 : u 23 = (.bool false) := hf 23 (by simp)
            simp only [resOf, spec, RSpec.resAt, z0, z1, z2, z3, z4, z5, z6, z7, ptrBlk] at S ⊢
            simp only [f0, f1, f2, f3, f5, f6, f7, f8, f9, f10, f12, f13, f14, f15, f16, f17, f19, f20, f21, f22, f23]
            refine ⟨rfl, ?_⟩
            refine does_fn (args := []) Tryd.func44 (by kernel_rfl) (by kernel_rfl) (PKEY.out w) rfl ?_
            rintro e w1 ⟨v, rfl, T⟩
            exact ⟨_, rfl, trivial, S.call T⟩
          · clear hi
            refine step_of_g rfl rfl ?_
            intro u G w hf S
            have f0 : u 0 = (.int .i64 0) := hf 0 (by simp)
            have f1 : u 1 = .bool false := hf 1 (by simp)
            have f2 : u 2 = (.bool false) := hf 2 (by simp)
            have f3 : u 3 = (.slice a18 ring1.length c18) := hf 3 (by simp)
            have f5 : u 5 = .agg (tokL T1).toArray := hf 5 (by simp)
            have f6 : u 6 = .int .i64 194 := hf 6 (by simp)
            have f7 : u 7 = .bool false := hf 7 (by simp)
            have f8 : u 8 = .bool false := hf 8 (by simp)
            have f9 : u 9 = (.bool false) := hf 9 (by simp)
            have f10 : u 10 = (.slice a18 ring1.length c18) := hf 10 (by simp)
            have f12 : u 12 = .agg (tokL T1).toArray := hf 12 (by simp)
            have f13 : u 13 = .int .i64 190 := hf 13 (by simp)
            have f14 : u 14 = .bool false := hf 14 (by simp)
            have f15 : u 15 = .bool false := hf 15 (by simp)
            have f16 : u 16 = (.bool false) := hf 16 (by simp)
            have f17 : u 17 = (.slice a18 ring1.length c18) := hf 17 (by simp)
            have f19 : u 19 = .agg (tokL T2).toArray := hf 19 (by simp)
            have f20 : u 20 = .int .i64 180 := hf 20 (by simp)
            have f21 : u 21 = .bool false := hf 21 (by simp)
            have f22 : u 22 = .bool false := hf 22 (by simp)
            have f23 : u 23 = (.bool false) := hf 23 (by simp)
            simp only [resOf, spec, RSpec.resAt, z0, z1, z2, z3, z4, z5, z6, z7, ptrBlk] at S ⊢
            simp only [f0, f1, f2, f3, f5, f6, f7, f8, f9, f10, f12, f13, f14, f15, f16, f17, f19, f20, f21, f22, f23]
            refine ⟨rfl, ?_⟩
            refine does_load 27 (.tmp 23) g23 rfl _ _ _ (S.get (r := blk g23 _) pk) _ Tryd.underlying27 rfl 36 (by kernel_rfl) (by first | rfl | (first | rfl | assumption | (exact Hid.out (by assumption)) | (exact tokL_size _) | (rw [arr8_size]; first | rfl | assumption | (exact Hid.out (by assumption)) | exact tokL_size _ | exact List.length_replicate ..) | (simp [arr8_size]; done))) ?_; exact ⟨rfl, S⟩
          · clear hi
            refine step_of_g rfl rfl ?_
            intro u G w hf S
            have f0 : u 0 = (.int .i64 0) := hf 0 (by simp)
            have f1 : u 1 = .bool false := hf 1 (by simp)
            have f2 : u 2 = (.bool false) := hf 2 (by simp)
            have f3 : u 3 = (.slice a18 ring1.length c18) := hf 3 (by simp)
            have f5 : u 5 = .agg (tokL T1).toArray := hf 5 (by simp)
            have f6 : u 6 = .int .i64 194 := hf 6 (by simp)
            have f7 : u 7 = .bool false := hf 7 (by simp)
            have f8 : u 8 = .bool false := hf 8 (by simp)
            have f9 : u 9 = (.bool false) := hf 9 (by simp)
            have f10 : u 10 = (.slice a18 ring1.length c18) := hf 10 (by simp)
            have f12 : u 12 = .agg (tokL T1).toArray := hf 12 (by simp)
            have f13 : u 13 = .int .i64 190 := hf 13 (by simp)
            have f14 : u 14 = .bool false := hf 14 (by simp)
            have f15 : u 15 = .bool false := hf 15 (by simp)
            have f16 : u 16 = (.bool false) := hf 16 (by simp)
            have f17 : u 17 = (.slice a18 ring1.length c18) := hf 17 (by simp)
            have f19 : u 19 = .agg (tokL T2).toArray := hf 19 (by simp)
            have f20 : u 20 = .int .i64 180 := hf 20 (by simp)
            have f21 : u 21 = .bool false := hf 21 (by simp)
            have f22 : u 22 = .bool false := hf 22 (by simp)
            have f23 : u 23 = (.bool false) := hf 23 (by simp)
            have f24 : u 24 = (.slice a18 ring1.length c18) := hf 24 (by simp)
            have f26 : u 26 = .agg (tokL T3).toArray := hf 26 (by simp)
            simp only [resOf, spec, RSpec.resAt, z0, z1, z2, z3, z4, z5, z6, z7, ptrBlk] at S ⊢
            simp only [f0, f1, f2, f3, f5, f6, f7, f8, f9, f10, f12, f13, f14, f15, f16, f17, f19, f20, f21, f22, f23, f24, f26] at S ⊢
            try simp only [ptrBlk] at S
            refine ⟨rfl, ?_⟩
            refine does_fn (args := [((.slice a18 ring1.length c18)), u 25, (.int .i64 1), (.agg (tokL T3).toArray), (.int .u8 1), (.int .u64 10)]) Tryd.func29 (by kernel_rfl) (by kernel_rfl) (PA4.out _ _ w (S.sl (v := .slice a18 ring1.length c18) pk) (S.bsr pk) (S.kt HK.out) (S.pt HP.out)) rfl ?_
            rintro e w1 ⟨rfl, T⟩
            exact ⟨_, rfl, rfl, S.call T⟩
          · clear hi
            refine step_of_g rfl rfl ?_
            intro u G w hf S
            have f0 : u 0 = (.int .i64 0) := hf 0 (by simp)
            have f1 : u 1 = .bool false := hf 1 (by simp)
            have f2 : u 2 = (.bool false) := hf 2 (by simp)
            have f3 : u 3 = (.slice a18 ring1.length c18) := hf 3 (by simp)
            have f5 : u 5 = .agg (tokL T1).toArray := hf 5 (by simp)
            have f6 : u 6 = .int .i64 194 := hf 6 (by simp)
            have f7 : u 7 = .bool false := hf 7 (by simp)
            have f8 : u 8 = .bool false := hf 8 (by simp)
            have f9 : u 9 = (.bool false) := hf 9 (by simp)
            have f10 : u 10 = (.slice a18 ring1.length c18) := hf 10 (by simp)
            have f12 : u 12 = .agg (tokL T1).toArray := hf 12 (by simp)
            have f13 : u 13 = .int .i64 190 := hf 13 (by simp)
            have f14 : u 14 = .bool false := hf 14 (by simp)
            have f15 : u 15 = .bool false := hf 15 (by simp)
            have f16 : u 16 = (.bool false) := hf 16 (by simp)
            have f17 : u 17 = (.slice a18 ring1.length c18) := hf 17 (by simp)
            have f19 : u 19 = .agg (tokL T2).toArray := hf 19 (by simp)
            have f20 : u 20 = .int .i64 180 := hf 20 (by simp)
            have f21 : u 21 = .bool false := hf 21 (by simp)
            have f22 : u 22 = .bool false := hf 22 (by simp)
            have f23 : u 23 = (.bool false) := hf 23 (by simp)
            have f24 : u 24 = (.slice a18 ring1.length c18) := hf 24 (by simp)
            have f26 : u 26 = .agg (tokL T3).toArray := hf 26 (by simp)
            have f27 : u 27 = .int .i64 191 := hf 27 (by simp)
            simp only [resOf, spec, RSpec.resAt, z0, z1, z2, z3, z4, z5, z6, z7, ptrBlk] at S ⊢
            simp only [f0, f1, f2, f3, f5, f6, f7, f8, f9, f10, f12, f13, f14, f15, f16, f17, f19, f20, f21, f22, f23, f24, f26, f27]
            refine ⟨rfl, ?_⟩
            simp only [does]
            go_simp
            try first | exact S | exact ⟨vv, S⟩ | exact vv
          · clear hi
            refine step_of rfl rfl rfl ?_
            intro u G w hf S
            have f0 : u 0 = (.int .i64 0) := hf 0 (by simp)
            have f1 : u 1 = .bool false := hf 1 (by simp)
            have f2 : u 2 = (.bool false) := hf 2 (by simp)
            have f3 : u 3 = (.slice a18 ring1.length c18) := hf 3 (by simp)
            have f5 : u 5 = .agg (tokL T1).toArray := hf 5 (by simp)
            have f6 : u 6 = .int .i64 194 := hf 6 (by simp)
            have f7 : u 7 = .bool false := hf 7 (by simp)
            have f8 : u 8 = .bool false := hf 8 (by simp)
            have f9 : u 9 = (.bool false) := hf 9 (by simp)
            have f10 : u 10 = (.slice a18 ring1.length c18) := hf 10 (by simp)
            have f12 : u 12 = .agg (tokL T1).toArray := hf 12 (by simp)
            have f13 : u 13 = .int .i64 190 := hf 13 (by simp)
            have f14 : u 14 = .bool false := hf 14 (by simp)
            have f15 : u 15 = .bool false := hf 15 (by simp)
            have f16 : u 16 = (.bool false) := hf 16 (by simp)
            have f17 : u 17 = (.slice a18 ring1.length c18) := hf 17 (by simp)
            have f19 : u 19 = .agg (tokL T2).toArray := hf 19 (by simp)
            have f20 : u 20 = .int .i64 180 := hf 20 (by simp)
            have f21 : u 21 = .bool false := hf 21 (by simp)
            have f22 : u 22 = .bool false := hf 22 (by simp)
            have f23 : u 23 = (.bool false) := hf 23 (by simp)
            have f24 : u 24 = (.slice a18 ring1.length c18) := hf 24 (by simp)
            have f26 : u 26 = .agg (tokL T3).toArray := hf 26 (by simp)
            have f27 : u 27 = .int .i64 191 := hf 27 (by simp)
            have f28 : u 28 = .bool false := hf 28 (by simp)
            simp only [resOf, spec, RSpec.resAt, z0, z1, z2, z3, z4, z5, z6, z7, ptrBlk] at S ⊢
            simp only [f0, f1, f2, f3, f5, f6, f7, f8, f9, f10, f12, f13, f14, f15, f16, f17, f19, f20, f21, f22, f23, f24, f26, f27, f28]
            simp only [does]
            go_simp
            try first | exact S | exact ⟨vv, S⟩ | exact vv
        case fin2 =>
          intro u w hf S
          have f0 : u 0 = (.int .i64 0) := hf 0 (by simp)
          have f1 : u 1 = .bool false := hf 1 (by simp)
          have f2 : u 2 = (.bool false) := hf 2 (by simp)
          have f3 : u 3 = (.slice a18 ring1.length c18) := hf 3 (by simp)
          have f5 : u 5 = .agg (tokL T1).toArray := hf 5 (by simp)
          have f6 : u 6 = .int .i64 194 := hf 6 (by simp)
          have f7 : u 7 = .bool false := hf 7 (by simp)
          have f8 : u 8 = .bool false := hf 8 (by simp)
          have f9 : u 9 = (.bool false) := hf 9 (by simp)
          have f10 : u 10 = (.slice a18 ring1.length c18) := hf 10 (by simp)
          have f12 : u 12 = .agg (tokL T1).toArray := hf 12 (by simp)
          have f13 : u 13 = .int .i64 190 := hf 13 (by simp)
          have f14 : u 14 = .bool false := hf 14 (by simp)
          have f15 : u 15 = .bool false := hf 15 (by simp)
          have f16 : u 16 = (.bool false) := hf 16 (by simp)
          have f17 : u 17 = (.slice a18 ring1.length c18) := hf 17 (by simp)
          have f19 : u 19 = .agg (tokL T2).toArray := hf 19 (by simp)
          have f20 : u 20 = .int .i64 180 := hf 20 (by simp)
          have f21 : u 21 = .bool false := hf 21 (by simp)
          have f22 : u 22 = .bool false := hf 22 (by simp)
          have f23 : u 23 = (.bool false) := hf 23 (by simp)
          have f24 : u 24 = (.slice a18 ring1.length c18) := hf 24 (by simp)
          have f26 : u 26 = .agg (tokL T3).toArray := hf 26 (by simp)
          have f27 : u 27 = .int .i64 191 := hf 27 (by simp)
          have f28 : u 28 = .bool false := hf 28 (by simp)
          have f29 : u 29 = .bool false := hf 29 (by simp)
          simp only [resOf, spec, RSpec.resAt, z0, z1, z2, z3, z4, z5, z6, z7, ptrBlk] at S
          clear hf
          simp only [List.length_cons, List.length_nil, Nat.zero_add, Nat.reduceAdd, List.drop_succ_cons, List.drop_zero, f0, f1, f2, f3, f5, f6, f7, f8, f9, f10, f12, f13, f14, f15, f16, f17, f19, f20, f21, f22, f23, f24, f26, f27, f28, f29]
          try simp only [f0, f1, f2, f3, f5, f6, f7, f8, f9, f10, f12, f13, f14, f15, f16, f17, f19, f20, f21, f22, f23, f24, f26, f27, f28, f29, ptrBlk] at S
          clear f0 f1 f2 f3 f5 f6 f7 f8 f9 f10 f12 f13 f14 f15 f16 f17 f19 f20 f21 f22 f23 f24 f26 f27 f28 f29
          generalize u 4 = v224 at S ⊢
          generalize u 11 = v231 at S ⊢
          generalize u 18 = v238 at S ⊢
          generalize u 25 = v245 at S ⊢
          go_wp2_with (first | ((with_reducible show wpList _ _ _ (⟨some 253, .buildSlice _ _ _, _, _, _, _⟩ :: _) _ _); refine step_buildSN S 41 58 3 3 _ [.tmp 250, .tmp 251, .tmp 252] mintL live3 (.agg (mintL mintZ).toArray) Tryd.underlying41 infoM2 (by decide) (by decide) rfl rfl mintL_length rfl (by decide) rfl ?_; clear S; intro v253 w S) | ((with_reducible show wpList _ _ _ (⟨some 273, .buildSlice _ _ _, _, _, _, _⟩ :: _) _ _); refine step_buildL S 74 24 2 _ [.int .u32 1, .int .u32 3] (.int .u32 0) Tryd.underlying74 info322 rfl (by first | rfl | kernel_rfl) rfl (by intro v hv; simp at hv; rcases hv with rfl | rfl <;> rfl) (by decide) gw ?_; clear S; intro v273 w S) | ((with_reducible show wpList _ _ _ (⟨some 283, .buildSlice _ _ _, _, _, _, _⟩ :: _) _ _); refine step_buildL S 74 24 1 _ [.int .u32 1] (.int .u32 0) Tryd.underlying74 info322 rfl (by first | rfl | kernel_rfl) rfl (by intro v hv; simp at hv; subst hv; rfl) (by decide) gw ?_; clear S; intro v283 w S) | ((with_reducible show wpList _ _ _ (⟨some 29, .makeSlice 22 _ _, _, _, _, _⟩ :: _) _ _); refine step_make8 S _ _ 45 _ (by first | rfl | omega) rfl rfl (by first | decide | omega) gw ?_; clear S; intro v29 w S) | ((with_reducible show wpList _ _ _ (⟨none, .store 27 (.tmp 1) (.tmp 31), _, _, _, _⟩ :: _) _ _); refine step_store S 27 (.tmp 1) (.tmp 31) _ _ rfl rfl _ _ pk 36 (by kernel_rfl) (by first | rfl | (first | rfl | assumption | (exact Hid.out (by assumption)) | (exact tokL_size _) | (rw [arr8_size]; first | rfl | assumption | (exact Hid.out (by assumption)) | exact tokL_size _ | exact List.length_replicate ..) | (simp [arr8_size]; done))) (by first | rfl | (first | rfl | assumption | (exact Hid.out (by assumption)) | (exact tokL_size _) | (rw [arr8_size]; first | rfl | assumption | (exact Hid.out (by assumption)) | exact tokL_size _ | exact List.length_replicate ..) | (simp [arr8_size]; done))) on1 gw ?_; clear S; intro w S) | ((with_reducible show wpList _ _ _ (⟨some 34, .makeSlice 22 _ _, _, _, _, _⟩ :: _) _ _); refine step_make8 S _ _ 47 _ (by first | rfl | omega) rfl rfl (by first | decide | omega) gw ?_; clear S; intro v34 w S) | ((with_reducible show wpList _ _ _ (⟨none, .store 27 (.tmp 3) (.tmp 36), _, _, _, _⟩ :: _) _ _); refine step_store S 27 (.tmp 3) (.tmp 36) _ _ rfl rfl _ _ pk 36 (by kernel_rfl) (by first | rfl | (first | rfl | assumption | (exact Hid.out (by assumption)) | (exact tokL_size _) | (rw [arr8_size]; first | rfl | assumption | (exact Hid.out (by assumption)) | exact tokL_size _ | exact List.length_replicate ..) | (simp [arr8_size]; done))) (by first | rfl | (first | rfl | assumption | (exact Hid.out (by assumption)) | (exact tokL_size _) | (rw [arr8_size]; first | rfl | assumption | (exact Hid.out (by assumption)) | exact tokL_size _ | exact List.length_replicate ..) | (simp [arr8_size]; done))) on1 gw ?_; clear S; intro w S) | ((with_reducible show wpList _ _ _ (⟨some 39, .build 27 _, _, _, _, _⟩ :: _) _ _); refine step_buildZ 27 (.agg ((tokL tokZ).toArray)) (fun w => by kernel_rfl) gw ?_) | ((with_reducible show wpList _ _ _ (⟨none, .store 27 (.tmp 5) (.tmp 41), _, _, _, _⟩ :: _) _ _); refine step_store S 27 (.tmp 5) (.tmp 41) _ _ rfl rfl _ _ pk 36 (by kernel_rfl) (by first | rfl | (first | rfl | assumption | (exact Hid.out (by assumption)) | (exact tokL_size _) | (rw [arr8_size]; first | rfl | assumption | (exact Hid.out (by assumption)) | exact tokL_size _ | exact List.length_replicate ..) | (simp [arr8_size]; done))) (by first | rfl | (first | rfl | assumption | (exact Hid.out (by assumption)) | (exact tokL_size _) | (rw [arr8_size]; first | rfl | assumption | (exact Hid.out (by assumption)) | exact tokL_size _ | exact List.length_replicate ..) | (simp [arr8_size]; done))) on1 gw ?_; clear S; intro w S) | ((with_reducible show wpList _ _ _ (⟨some 44, .makeSlice 22 _ _, _, _, _, _⟩ :: _) _ _); refine step_make8 S _ _ 65 _ (by first | rfl | omega) rfl rfl (by first | decide | omega) gw ?_; clear S; intro v44 w S) | ((with_reducible show wpList _ _ _ (⟨some 45, .build 27 _, _, _, _, _⟩ :: _) _ _); refine step_buildZ 27 (.agg ((tokL tokZ).toArray)) (fun w => by kernel_rfl) gw ?_) | ((with_reducible show wpList _ _ _ (⟨_, .load 23 _, _, _, _, _⟩ :: _) _ _); first | (refine step_load1 23 _ _ _ rfl (S.cell pk co) _ Tryd.underlying23 rfl gw ?_) | (refine step_load1 23 _ _ _ rfl (S.row_cell pk _ _ hyr) _ Tryd.underlying23 rfl gw ?_) | (refine step_load1 23 _ _ _ rfl (S.row_cellS pk _ _ hy) _ Tryd.underlying23 rfl gw ?_) | (refine step_load1 23 _ _ _ rfl (S.old_cell hy) _ Tryd.underlying23 rfl gw ?_)) | ((with_reducible show wpList _ _ _ (⟨none, .store 5 (.tmp 153) _, _, _, _, _⟩ :: _) _ _); first | (refine step_store1 S 5 (.tmp 153) _ _ _ (.int _ _) rfl rfl _ _ pk (by kernel_rfl) rfl rfl (by first | rfl | (first | rfl | assumption | (exact Hid.out (by assumption)) | (exact tokL_size _) | (rw [arr8_size]; first | rfl | assumption | (exact Hid.out (by assumption)) | exact tokL_size _ | exact List.length_replicate ..) | (simp [arr8_size]; done))) gw ?_; clear S; intro w S; try simp only [List.setIfInBounds_toArray, List.set_cons_zero, List.set_cons_succ] at S) | (refine step_storeR S 5 (.tmp 153) _ _ _ (.int _ _) rfl rfl _ _ _ _ pk (by (first | omega | assumption | (exact Hid.out (by assumption)) | (simp only [List.length_append, List.length_cons, List.length_nil]; omega))) (by kernel_rfl) rfl rfl gw ?_; clear S; intro w S) | (refine step_storeS S 5 (.tmp 153) _ _ _ (.int _ _) rfl rfl _ _ _ _ _ pk (by (first | omega | assumption | (exact Hid.out (by assumption)) | (simp only [List.length_append, List.length_cons, List.length_nil]; omega))) (by kernel_rfl) rfl rfl gw ?_; clear S; intro w S)) | ((with_reducible show wpList _ _ _ (⟨none, .store 27 (.tmp 19) (.tmp 176), _, _, _, _⟩ :: _) _ _); refine step_store S 27 (.tmp 19) (.tmp 176) _ _ rfl rfl _ _ pk 36 (by kernel_rfl) (by first | rfl | (first | rfl | assumption | (exact Hid.out (by assumption)) | (exact tokL_size _) | (rw [arr8_size]; first | rfl | assumption | (exact Hid.out (by assumption)) | exact tokL_size _ | exact List.length_replicate ..) | (simp [arr8_size]; done))) (by first | rfl | (first | rfl | assumption | (exact Hid.out (by assumption)) | (exact tokL_size _) | (rw [arr8_size]; first | rfl | assumption | (exact Hid.out (by assumption)) | exact tokL_size _ | exact List.length_replicate ..) | (simp [arr8_size]; done))) on1 gw ?_; clear S; intro w S) | ((with_reducible show wpList _ _ _ (⟨_, .load 27 _, _, _, _, _⟩ :: _) _ _); first | (refine step_load S 27 _ _ rfl _ _ _ pk _ Tryd.underlying27 rfl 36 (by kernel_rfl) (by first | rfl | (first | rfl | assumption | (exact Hid.out (by assumption)) | (exact tokL_size _) | (rw [arr8_size]; first | rfl | assumption | (exact Hid.out (by assumption)) | exact tokL_size _ | exact List.length_replicate ..) | (simp [arr8_size]; done))) gw ?_) | (refine step_loadO 27 _ _ rfl _ _ _ (S.old_heap (Hid.out (by assumption))) _ Tryd.underlying27 rfl 36 (by kernel_rfl) (by first | rfl | (first | rfl | assumption | (exact Hid.out (by assumption)) | (exact tokL_size _) | (rw [arr8_size]; first | rfl | assumption | (exact Hid.out (by assumption)) | exact tokL_size _ | exact List.length_replicate ..) | (simp [arr8_size]; done))) gw ?_) | (refine step_loadR 27 _ _ _ rfl _ (S.old_range hy) _ Tryd.underlying27 rfl 36 (by kernel_rfl) (by first | rfl | (first | rfl | assumption | (exact Hid.out (by assumption)) | (exact tokL_size _) | (rw [arr8_size]; first | rfl | assumption | (exact Hid.out (by assumption)) | exact tokL_size _ | exact List.length_replicate ..) | (simp [arr8_size]; done))) _ rfl gw ?_)) | ((with_reducible show wpList _ _ _ (⟨none, .store 27 (.tmp 22) (.tmp 212), _, _, _, _⟩ :: _) _ _); refine step_store S 27 (.tmp 22) (.tmp 212) _ _ rfl rfl _ _ pk 36 (by kernel_rfl) (by first | rfl | (first | rfl | assumption | (exact Hid.out (by assumption)) | (exact tokL_size _) | (rw [arr8_size]; first | rfl | assumption | (exact Hid.out (by assumption)) | exact tokL_size _ | exact List.length_replicate ..) | (simp [arr8_size]; done))) (by first | rfl | (first | rfl | assumption | (exact Hid.out (by assumption)) | (exact tokL_size _) | (rw [arr8_size]; first | rfl | assumption | (exact Hid.out (by assumption)) | exact tokL_size _ | exact List.length_replicate ..) | (simp [arr8_size]; done))) on1 gw ?_; clear S; intro w S) | ((with_reducible show wpList _ _ _ (⟨none, .store 24 (.tmp 213) _, _, _, _, _⟩ :: _) _ _); first | (refine step_store1 S 24 (.tmp 213) _ _ _ (.int _ _) rfl rfl _ _ pk (by kernel_rfl) rfl rfl (by first | rfl | (first | rfl | assumption | (exact Hid.out (by assumption)) | (exact tokL_size _) | (rw [arr8_size]; first | rfl | assumption | (exact Hid.out (by assumption)) | exact tokL_size _ | exact List.length_replicate ..) | (simp [arr8_size]; done))) gw ?_; clear S; intro w S; try simp only [List.setIfInBounds_toArray, List.set_cons_zero, List.set_cons_succ] at S) | (refine step_storeR S 24 (.tmp 213) _ _ _ (.int _ _) rfl rfl _ _ _ _ pk (by (first | omega | assumption | (exact Hid.out (by assumption)) | (simp only [List.length_append, List.length_cons, List.length_nil]; omega))) (by kernel_rfl) rfl rfl gw ?_; clear S; intro w S) | (refine step_storeS S 24 (.tmp 213) _ _ _ (.int _ _) rfl rfl _ _ _ _ _ pk (by (first | omega | assumption | (exact Hid.out (by assumption)) | (simp only [List.length_append, List.length_cons, List.length_nil]; omega))) (by kernel_rfl) rfl rfl gw ?_; clear S; intro w S)) | ((with_reducible show wpList _ _ _ (⟨some 23, .alloc 27, _, _, _, _⟩ :: _) _ _); refine step_alloc (dst := some 23) S 27 (.agg ((tokL tokZ).toArray)) ((tokL tokZ).toArray) (by kernel_rfl) rfl gw ?_; clear S; intro g23 w S) | ((with_reducible show wpList _ _ _ (⟨none, .store 27 (.tmp 23) (.tmp 218), _, _, _, _⟩ :: _) _ _); refine step_store S 27 (.tmp 23) (.tmp 218) _ _ rfl rfl _ _ pk 36 (by kernel_rfl) (by first | rfl | (first | rfl | assumption | (exact Hid.out (by assumption)) | (exact tokL_size _) | (rw [arr8_size]; first | rfl | assumption | (exact Hid.out (by assumption)) | exact tokL_size _ | exact List.length_replicate ..) | (simp [arr8_size]; done))) (by first | rfl | (first | rfl | assumption | (exact Hid.out (by assumption)) | (exact tokL_size _) | (rw [arr8_size]; first | rfl | assumption | (exact Hid.out (by assumption)) | exact tokL_size _ | exact List.length_replicate ..) | (simp [arr8_size]; done))) on1 gw ?_; clear S; intro w S) | (go_at_call 38; (with_reducible refine (PL1.out _ _ (S.sl (v := v253) pk)).mono ?_); rintro e w1 ⟨v25, rfl, T⟩; replace S := S.call T; clear T; (try simp only [List.nil_append, List.cons_append] at S)) | (go_at_call 38; (with_reducible refine (PL2.out _ _ (S.sl (v := v253) pk)).mono ?_); rintro e w1 ⟨v26, rfl, T⟩; replace S := S.call T; clear T; (try simp only [List.nil_append, List.cons_append] at S)) | (go_at_call 38; (with_reducible refine (PL3.out _ _ (S.sl (v := v253) pk)).mono ?_); rintro e w1 ⟨v27, rfl, T⟩; replace S := S.call T; clear T; (try simp only [List.nil_append, List.cons_append] at S); obtain ⟨a27, c27, rfl, k27, k28⟩ := Sl.shape (S.sl (v := v27) pk)) | (go_at_call 40; (with_reducible refine (PN1.out _ _ _ (S.sl (v := v25) pk) (S.sl (v := v273) pk)).mono ?_); rintro e w1 ⟨rfl, T⟩; replace S := S.call T; clear T; (try simp only [List.nil_append, List.cons_append] at S)) | (go_at_call 40; (with_reducible refine (PN2.out _ _ _ (S.sl (v := v26) pk) (S.sl (v := v283) pk)).mono ?_); rintro e w1 ⟨rfl, T⟩; replace S := S.call T; clear T; (try simp only [List.nil_append, List.cons_append] at S)) | (go_at_call 27; (with_reducible refine (PE1.out _ (S.pt HP.out)).mono ?_); rintro e w1 ⟨rfl, T⟩; replace S := S.call T; clear T; (try simp only [List.nil_append, List.cons_append] at S)) | (go_at_call 27; (with_reducible refine (PE2.out _ (S.pt HP.out)).mono ?_); rintro e w1 ⟨rfl, T⟩; replace S := S.call T; clear T; (try simp only [List.nil_append, List.cons_append] at S)) | (go_at_call 27; (with_reducible refine (PE3.out _ (S.pt HP.out)).mono ?_); rintro e w1 ⟨rfl, T⟩; replace S := S.call T; clear T; (try simp only [List.nil_append, List.cons_append] at S)) | (go_at_call 27; (with_reducible refine (PE4.out _ (S.pt HP.out)).mono ?_); rintro e w1 ⟨rfl, T⟩; replace S := S.call T; clear T; (try simp only [List.nil_append, List.cons_append] at S)) | fail)
          go_ret
          exact ⟨rfl, S.nil⟩
end Go.Proofs.YtioonimpobcglaaDoor
