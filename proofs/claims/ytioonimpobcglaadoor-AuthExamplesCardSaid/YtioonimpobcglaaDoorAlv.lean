/- alive of layer 6: the examples that every outright statement asks first are true. No condition but the tables. -/
import Derived.Test.YtioonimpobcglaaDoorBd
import Derived.Test.YtioonimpobcglaaDoorAuthP
import Derived.Test.YtioonimpobcglaaDoorTokS
import Derived.Test.YtioonimpobcglaaDoorRingE
set_option linter.unusedSimpArgs false
set_option linter.unusedVariables false
namespace Go.Proofs.YtioonimpobcglaaDoor
open Go.RowKit

def dock : List UInt8 := [100, 111, 99, 107]
def ring1 : List Mnt := [⟨2, 15, false⟩]
def tok1 : Tok := issT [] dock 1 2 5 10

theorem iss1E : issE [] dock 1 2 5 10 = 0 := by decide
theorem iss1R : issR [] dock 1 2 5 10 = ring1 := by decide
theorem tok1_tenant : (tok1.tenant.toNat : Int) = 1 := by unfold tok1 issT; rw [if_pos iss1E]; rfl
theorem tok1_role : (tok1.role.toNat : Int) = 2 := by unfold tok1 issT; rw [if_pos iss1E]; rfl
theorem tok1_expiry : (tok1.expiry.toNat : Int) = 15 := by unfold tok1 issT; rw [if_pos iss1E]; rfl
theorem tok1_serial : (tok1.serial.toNat : Int) = 1 := by unfold tok1 issT; rw [if_pos iss1E]; rfl
theorem auz1_14 : auzE ring1 dock 1 tok1 1 14 = 0 := by
  have := auz_issued [] dock 1 2 5 10 1 14 iss1E (by decide) (by decide) (by decide)
  rw [iss1R] at this
  exact this.trans (by decide)
theorem auz1_15 : auzE ring1 dock 1 tok1 1 15 = 193 := by
  have := auz_issued [] dock 1 2 5 10 1 15 iss1E (by decide) (by decide) (by decide)
  rw [iss1R] at this
  exact this.trans (by decide)
theorem rev1E : revE ring1 1 = 0 := by decide
theorem auz1_rev : auzE (revR ring1 1) dock 1 tok1 1 10 = 192 := by
  have := auz_issued_revoked [] dock 1 2 5 10 1 10 iss1E (by decide) (by decide) (by decide)
  rw [iss1R] at this
  exact this

def MadeD (w : World) (xs : List UInt8) (e : Ending) (w' : World) : Prop := ∃ v, e = .returned v ∧ Has w w' [rd8 v xs]

set_option maxRecDepth 100000 in
set_option maxHeartbeats 1000000 in
theorem key_s (w0 : World) : Calls Tryd.prog 44 #[] w0 (MadeD w0 dock) := by
  have S := Has.start w0
  go_enter Tryd.func44, Tryd.ntmps44
  go_wp2_with (first | ((with_reducible show wpList _ _ _ (⟨some 1, .buildSlice 22 _ _, _, _, _, _⟩ :: _) _ _); refine step_build8 S 4 _ [100, 111, 99, 107] (by first | rfl | kernel_rfl) rfl (by decide) rfl ?_; clear S; intro v1 w S) | ((with_reducible show wpList _ _ _ (⟨some 2, .convert 22 22 (.tmp 1), _, _, _, _⟩ :: _) _ _); refine step_mark S 22 5 (.tmp 1) _ _ rfl pk Tryd.underlying22 Tryd.underlying5 (by first | decide | simp) rfl ?_; clear S; intro w S) | fail)
  go_ret
  exact ⟨_, rfl, S⟩

set_option maxRecDepth 100000 in
set_option maxHeartbeats 4000000 in
theorem given_s (w0 : World) (hK : KT w0) : Calls Tryd.prog 43 #[] w0 fun e w' => ∃ v, e = .returned (.tuple #[v, .agg (tokL tok1).toArray, .bool true]) ∧ Has w0 w' [rowM v ring1] := by
  have S := Has.start w0
  have p1 := fun w => key_s w
  have p2 : ∀ v2 w, Bs w v2 dock → KT w → Calls Tryd.prog 24 #[.slice none 0 0, v2, .int .i64 1, .int .u8 2, .int .u64 5, .int .u64 10] w (MadeMT w ring1 tok1 0) := fun v2 w h2 hk => by
    have := issue_s (.slice none 0 0) v2 [] dock 1 2 5 10 w ⟨rfl, .inl ⟨none, rfl, rfl⟩⟩ h2 hk (by decide) (by decide) (by decide) (by decide)
    rw [iss1E, iss1R] at this
    exact this
  obtain ⟨T, hT⟩ : ∃ T, T = tok1 := ⟨_, rfl⟩
  have i1 : ((T.tenant.toNat : Int) == 1) = true := by rw [hT, tok1_tenant]; rfl
  have i2 : ((T.role.toNat : Int) == 2) = true := by rw [hT, tok1_role]; rfl
  have i3 : ((T.expiry.toNat : Int) == 15) = true := by rw [hT, tok1_expiry]; rfl
  have i4 : ((T.serial.toNat : Int) == 1) = true := by rw [hT, tok1_serial]; rfl
  rw [← hT] at p2 ⊢
  have eg := eqGuardM
  have he : ∀ w, (binOp .eql 58 (.agg (mintL ⟨2, 15, false⟩).toArray) (.agg #[.int .u8 2, .int .u64 15, .bool false])).run Tryd.prog w = .ok (.bool true) w := fun w => by
    have := eqlM ⟨2, 15, false⟩ ⟨2, 15, false⟩ w
    simp only [decide_true] at this
    exact this
  clear hT
  have HK := Lib.hid hK; have P1 := Lib.hid p1; have P2 := Lib.hid p2; clear hK p1 p2
  go_enter Tryd.func43, Tryd.ntmps43
  go_wp2_with (first | ((with_reducible show wpList _ _ _ (⟨some 23, .load _ _, _, _, _, _⟩ :: _) _ _); refine step_loadR 58 (.tmp 22) _ _ rfl _ (S.row_range (f := mintL) (n := 1) pk mintL_length (by decide) 0 ⟨2, 15, false⟩ rfl) _ Tryd.underlying58 rfl 3 (by kernel_rfl) rfl _ rfl rfl ?_) | ((with_reducible show wpList _ _ _ (⟨some 1, .alloc 27, _, _, _, _⟩ :: _) _ _); refine step_alloc (dst := some 1) S 27 (.agg ((tokL tokZ).toArray)) ((tokL tokZ).toArray) (by kernel_rfl) rfl gw ?_; clear S; intro g1 w S) | (go_at_call 44; (with_reducible refine (P1.out _).mono ?_); rintro e w1 ⟨v8, rfl, T⟩; replace S := S.call T; clear T; (try simp only [List.nil_append, List.cons_append] at S)) | (go_at_call 24; (with_reducible refine (P2.out _ _ (S.bsr pk) (S.kt (Hid.out (by assumption)))).mono ?_); rintro e w1 ⟨v3, rfl, T⟩; replace S := S.call T; clear T; (try simp only [List.nil_append, List.cons_append] at S); obtain ⟨g3, c3, rfl, _⟩ := S.row_at (v := v3) pk (by decide)) | ((with_reducible show wpList _ _ _ (⟨some 4, .alloc 27, _, _, _, _⟩ :: _) _ _); refine step_alloc (dst := some 4) S 27 (.agg ((tokL tokZ).toArray)) ((tokL tokZ).toArray) (by kernel_rfl) rfl gw ?_; clear S; intro g4 w S) | ((with_reducible show wpList _ _ _ (⟨none, .store 27 (.tmp 4) (.tmp 11), _, _, _, _⟩ :: _) _ _); refine step_store S 27 (.tmp 4) (.tmp 11) _ _ rfl rfl _ _ pk 36 (by kernel_rfl) (by first | rfl | (first | rfl | assumption | (exact Hid.out (by assumption)) | (exact tokL_size _) | (rw [arr8_size]; first | rfl | assumption | (exact Hid.out (by assumption)) | exact tokL_size _ | exact List.length_replicate ..) | (simp [arr8_size]; done))) (by first | rfl | (first | rfl | assumption | (exact Hid.out (by assumption)) | (exact tokL_size _) | (rw [arr8_size]; first | rfl | assumption | (exact Hid.out (by assumption)) | exact tokL_size _ | exact List.length_replicate ..) | (simp [arr8_size]; done))) on1 gw ?_; clear S; intro w S) | ((with_reducible show wpList _ _ _ (⟨_, .load 5 _, _, _, _, _⟩ :: _) _ _); first | (refine step_load1 5 _ _ _ rfl (S.cell pk co) _ Tryd.underlying5 rfl gw ?_) | (refine step_load1 5 _ _ _ rfl (S.row_cell pk _ _ hyr) _ Tryd.underlying5 rfl gw ?_) | (refine step_load1 5 _ _ _ rfl (S.row_cellS pk _ _ hy) _ Tryd.underlying5 rfl gw ?_) | (refine step_load1 5 _ _ _ rfl (S.old_cell hy) _ Tryd.underlying5 rfl gw ?_)) | ((with_reducible show wpList _ _ _ (⟨_, .load 23 _, _, _, _, _⟩ :: _) _ _); first | (refine step_load1 23 _ _ _ rfl (S.cell pk co) _ Tryd.underlying23 rfl gw ?_) | (refine step_load1 23 _ _ _ rfl (S.row_cell pk _ _ hyr) _ Tryd.underlying23 rfl gw ?_) | (refine step_load1 23 _ _ _ rfl (S.row_cellS pk _ _ hy) _ Tryd.underlying23 rfl gw ?_) | (refine step_load1 23 _ _ _ rfl (S.old_cell hy) _ Tryd.underlying23 rfl gw ?_)) | ((with_reducible show wpList _ _ _ (⟨_, .load 24 _, _, _, _, _⟩ :: _) _ _); first | (refine step_load1 24 _ _ _ rfl (S.cell pk co) _ Tryd.underlying24 rfl gw ?_) | (refine step_load1 24 _ _ _ rfl (S.row_cell pk _ _ hyr) _ Tryd.underlying24 rfl gw ?_) | (refine step_load1 24 _ _ _ rfl (S.row_cellS pk _ _ hy) _ Tryd.underlying24 rfl gw ?_) | (refine step_load1 24 _ _ _ rfl (S.old_cell hy) _ Tryd.underlying24 rfl gw ?_)) | ((with_reducible show wpList _ _ _ (⟨_, .load 27 _, _, _, _, _⟩ :: _) _ _); first | (refine step_load S 27 _ _ rfl _ _ _ pk _ Tryd.underlying27 rfl 36 (by kernel_rfl) (by first | rfl | (first | rfl | assumption | (exact Hid.out (by assumption)) | (exact tokL_size _) | (rw [arr8_size]; first | rfl | assumption | (exact Hid.out (by assumption)) | exact tokL_size _ | exact List.length_replicate ..) | (simp [arr8_size]; done))) gw ?_) | (refine step_loadO 27 _ _ rfl _ _ _ (S.old_heap (Hid.out (by assumption))) _ Tryd.underlying27 rfl 36 (by kernel_rfl) (by first | rfl | (first | rfl | assumption | (exact Hid.out (by assumption)) | (exact tokL_size _) | (rw [arr8_size]; first | rfl | assumption | (exact Hid.out (by assumption)) | exact tokL_size _ | exact List.length_replicate ..) | (simp [arr8_size]; done))) gw ?_) | (refine step_loadR 27 _ _ _ rfl _ (S.old_range hy) _ Tryd.underlying27 rfl 36 (by kernel_rfl) (by first | rfl | (first | rfl | assumption | (exact Hid.out (by assumption)) | (exact tokL_size _) | (rw [arr8_size]; first | rfl | assumption | (exact Hid.out (by assumption)) | exact tokL_size _ | exact List.length_replicate ..) | (simp [arr8_size]; done))) _ rfl gw ?_)) | ((with_reducible show wpList _ _ _ (⟨none, .store 27 (.tmp 1) (.tmp 48), _, _, _, _⟩ :: _) _ _); refine step_store S 27 (.tmp 1) (.tmp 48) _ _ rfl rfl _ _ pk 36 (by kernel_rfl) (by first | rfl | (first | rfl | assumption | (exact Hid.out (by assumption)) | (exact tokL_size _) | (rw [arr8_size]; first | rfl | assumption | (exact Hid.out (by assumption)) | exact tokL_size _ | exact List.length_replicate ..) | (simp [arr8_size]; done))) (by first | rfl | (first | rfl | assumption | (exact Hid.out (by assumption)) | (exact tokL_size _) | (rw [arr8_size]; first | rfl | assumption | (exact Hid.out (by assumption)) | exact tokL_size _ | exact List.length_replicate ..) | (simp [arr8_size]; done))) on1 gw ?_; clear S; intro w S) | fail)
  refine wp_relyW (e1 := blk g1 (.cells (tokL T).toArray 27 (0, 0))) 4 (S.pick (r := blk g1 _) pk) [⟨[], [], [], fun _ v => v = (.slice (some ⟨g3, 0, none⟩) 1 c3), fun _ v => []⟩, ⟨[], [], [], fun _ v => v = .agg (tokL T).toArray, fun _ v => []⟩, ⟨[], [], [], fun _ v => v = (.bool true), fun _ v => []⟩, ⟨[0], [], [], fun _ v => v = ((.slice (some ⟨g3, 0, none⟩) 1 c3)), fun _ v => []⟩, ⟨[0, 1, 3], [], [], fun _ v => True, fun _ v => []⟩, ⟨[0, 1, 2, 3, 4], [], [], fun _ v => v = ((.bool true)), fun _ v => []⟩] ?A1 ?hA1 (by kernel_rfl) (by kernel_rfl) (by kernel_rfl) [0, 1, 2, 3, 4, 5] (by kernel_rfl) (of_decide_eq_true rfl) ?hok1 ?fin1
  case hA1 => intro u; simp only [putAll, List.length_cons, List.length_nil, Nat.zero_add, Nat.reduceAdd, dstAt, List.getElem?_toArray, List.getElem?_cons_zero, List.getElem?_cons_succ, Option.bind_some, Act.put, List.setIfInBounds_toArray, List.set_cons_zero, List.set_cons_succ]; rfl
  case hok1 =>
    intro i hi
    obtain rfl | rfl | rfl | rfl | rfl | rfl : i = 0 ∨ i = 1 ∨ i = 2 ∨ i = 3 ∨ i = 4 ∨ i = 5 := by simp only [List.length_cons, List.length_nil, Nat.zero_add, Nat.reduceAdd] at hi; omega
    · clear hi
      rw [if_neg (by decide)]; intro r0
      refine step_of rfl rfl rfl ?_
      intro u G w hf S
      simp only [resOf, spec, RSpec.resAt, z0, z1, z2, z3, z4, z5, z6, z7, ptrBlk] at S ⊢
      simp only [does]
      go_simp
      try first | exact S | exact ⟨vv, S⟩ | exact vv
    · clear hi
      rw [if_neg (by decide)]; intro r0
      refine step_of rfl rfl rfl ?_
      intro u G w hf S
      simp only [resOf, spec, RSpec.resAt, z0, z1, z2, z3, z4, z5, z6, z7, ptrBlk] at S ⊢
      refine does_load 27 (.tmp 4) g4 rfl _ _ _ (S.get (r := blk g4 _) pk) _ Tryd.underlying27 rfl 36 (by kernel_rfl) (by first | rfl | (first | rfl | assumption | (exact Hid.out (by assumption)) | (exact tokL_size _) | (rw [arr8_size]; first | rfl | assumption | (exact Hid.out (by assumption)) | exact tokL_size _ | exact List.length_replicate ..) | (simp [arr8_size]; done))) ?_; exact ⟨rfl, S⟩
    · clear hi
      rw [if_neg (by decide)]; intro r0
      refine step_of rfl rfl rfl ?_
      intro u G w hf S
      simp only [resOf, spec, RSpec.resAt, z0, z1, z2, z3, z4, z5, z6, z7, ptrBlk] at S ⊢
      simp only [does]
      go_simp
      try first | exact S | exact ⟨vv, S⟩ | exact vv
    · clear hi
      rw [if_neg (by decide)]; intro r0
      refine step_of rfl rfl rfl ?_
      intro u G w hf S
      have f0 : u 0 = (.slice (some ⟨g3, 0, none⟩) 1 c3) := hf 0 (by simp)
      simp only [resOf, spec, RSpec.resAt, z0, z1, z2, z3, z4, z5, z6, z7, ptrBlk] at S ⊢
      simp only [f0]
      simp only [does]
      go_simp
      try first | exact S | exact ⟨vv, S⟩ | exact vv
    · clear hi
      rw [if_pos rfl]
      refine step_ofW rfl rfl rfl ?_
      intro u G w hf S
      have f0 : u 0 = (.slice (some ⟨g3, 0, none⟩) 1 c3) := hf 0 (by simp)
      have f1 : u 1 = .agg (tokL T).toArray := hf 1 (by simp)
      have f3 : u 3 = ((.slice (some ⟨g3, 0, none⟩) 1 c3)) := hf 3 (by simp)
      simp only [resOf, spec, RSpec.resAt, z0, z1, z2, z3, z4, z5, z6, z7, ptrBlk] at S ⊢
      simp only [f0, f1, f3]
      refine does_store S 27 (.tmp 1) (.tmp 48) (tokL T).toArray rfl rfl 36 (by kernel_rfl) (tokL_size _) (tokL_size _) (tokL_one _) ?_; intro w1 S; exact ⟨trivial, S⟩
    · clear hi
      rw [if_neg (by decide)]; intro r0
      refine step_of rfl rfl rfl ?_
      intro u G w hf S
      have f0 : u 0 = (.slice (some ⟨g3, 0, none⟩) 1 c3) := hf 0 (by simp)
      have f1 : u 1 = .agg (tokL T).toArray := hf 1 (by simp)
      have f2 : u 2 = (.bool true) := hf 2 (by simp)
      have f3 : u 3 = ((.slice (some ⟨g3, 0, none⟩) 1 c3)) := hf 3 (by simp)
      simp only [resOf, spec, RSpec.resAt, z0, z1, z2, z3, z4, z5, z6, z7, ptrBlk] at S ⊢
      simp only [f0, f1, f2, f3]
      simp only [does]
      go_simp
      try first | exact S | exact ⟨vv, S⟩ | exact vv
  case fin1 =>
    intro u w hf S
    have f0 : u 0 = (.slice (some ⟨g3, 0, none⟩) 1 c3) := hf 0 (by simp)
    have f1 : u 1 = .agg (tokL T).toArray := hf 1 (by simp)
    have f2 : u 2 = (.bool true) := hf 2 (by simp)
    have f3 : u 3 = ((.slice (some ⟨g3, 0, none⟩) 1 c3)) := hf 3 (by simp)
    have f5 : u 5 = ((.bool true)) := hf 5 (by simp)
    simp only [resOf, spec, RSpec.resAt, z0, z1, z2, z3, z4, z5, z6, z7, ptrBlk] at S
    clear hf
    simp only [List.length_cons, List.length_nil, Nat.zero_add, Nat.reduceAdd, List.drop_succ_cons, List.drop_zero, f0, f1, f2, f3, f5]
    clear f0 f1 f2 f3 f5
    go_wp2_with (first | ((with_reducible show wpList _ _ _ (⟨some 1, .alloc 27, _, _, _, _⟩ :: _) _ _); refine step_alloc (dst := some 1) S 27 (.agg ((tokL tokZ).toArray)) ((tokL tokZ).toArray) (by kernel_rfl) rfl gw ?_; clear S; intro g1 w S) | ((with_reducible show wpList _ _ _ (⟨some 4, .alloc 27, _, _, _, _⟩ :: _) _ _); refine step_alloc (dst := some 4) S 27 (.agg ((tokL tokZ).toArray)) ((tokL tokZ).toArray) (by kernel_rfl) rfl gw ?_; clear S; intro g4 w S) | ((with_reducible show wpList _ _ _ (⟨none, .store 27 (.tmp 4) (.tmp 11), _, _, _, _⟩ :: _) _ _); refine step_store S 27 (.tmp 4) (.tmp 11) _ _ rfl rfl _ _ pk 36 (by kernel_rfl) (by first | rfl | (first | rfl | assumption | (exact Hid.out (by assumption)) | (exact tokL_size _) | (rw [arr8_size]; first | rfl | assumption | (exact Hid.out (by assumption)) | exact tokL_size _ | exact List.length_replicate ..) | (simp [arr8_size]; done))) (by first | rfl | (first | rfl | assumption | (exact Hid.out (by assumption)) | (exact tokL_size _) | (rw [arr8_size]; first | rfl | assumption | (exact Hid.out (by assumption)) | exact tokL_size _ | exact List.length_replicate ..) | (simp [arr8_size]; done))) on1 gw ?_; clear S; intro w S) | ((with_reducible show wpList _ _ _ (⟨_, .load 5 _, _, _, _, _⟩ :: _) _ _); first | (refine step_load1 5 _ _ _ rfl (S.cell pk co) _ Tryd.underlying5 rfl gw ?_) | (refine step_load1 5 _ _ _ rfl (S.row_cell pk _ _ hyr) _ Tryd.underlying5 rfl gw ?_) | (refine step_load1 5 _ _ _ rfl (S.row_cellS pk _ _ hy) _ Tryd.underlying5 rfl gw ?_) | (refine step_load1 5 _ _ _ rfl (S.old_cell hy) _ Tryd.underlying5 rfl gw ?_)) | ((with_reducible show wpList _ _ _ (⟨_, .load 23 _, _, _, _, _⟩ :: _) _ _); first | (refine step_load1 23 _ _ _ rfl (S.cell pk co) _ Tryd.underlying23 rfl gw ?_) | (refine step_load1 23 _ _ _ rfl (S.row_cell pk _ _ hyr) _ Tryd.underlying23 rfl gw ?_) | (refine step_load1 23 _ _ _ rfl (S.row_cellS pk _ _ hy) _ Tryd.underlying23 rfl gw ?_) | (refine step_load1 23 _ _ _ rfl (S.old_cell hy) _ Tryd.underlying23 rfl gw ?_)) | ((with_reducible show wpList _ _ _ (⟨_, .load 24 _, _, _, _, _⟩ :: _) _ _); first | (refine step_load1 24 _ _ _ rfl (S.cell pk co) _ Tryd.underlying24 rfl gw ?_) | (refine step_load1 24 _ _ _ rfl (S.row_cell pk _ _ hyr) _ Tryd.underlying24 rfl gw ?_) | (refine step_load1 24 _ _ _ rfl (S.row_cellS pk _ _ hy) _ Tryd.underlying24 rfl gw ?_) | (refine step_load1 24 _ _ _ rfl (S.old_cell hy) _ Tryd.underlying24 rfl gw ?_)) | ((with_reducible show wpList _ _ _ (⟨_, .load 27 _, _, _, _, _⟩ :: _) _ _); first | (refine step_load S 27 _ _ rfl _ _ _ pk _ Tryd.underlying27 rfl 36 (by kernel_rfl) (by first | rfl | (first | rfl | assumption | (exact Hid.out (by assumption)) | (exact tokL_size _) | (rw [arr8_size]; first | rfl | assumption | (exact Hid.out (by assumption)) | exact tokL_size _ | exact List.length_replicate ..) | (simp [arr8_size]; done))) gw ?_) | (refine step_loadO 27 _ _ rfl _ _ _ (S.old_heap (Hid.out (by assumption))) _ Tryd.underlying27 rfl 36 (by kernel_rfl) (by first | rfl | (first | rfl | assumption | (exact Hid.out (by assumption)) | (exact tokL_size _) | (rw [arr8_size]; first | rfl | assumption | (exact Hid.out (by assumption)) | exact tokL_size _ | exact List.length_replicate ..) | (simp [arr8_size]; done))) gw ?_) | (refine step_loadR 27 _ _ _ rfl _ (S.old_range hy) _ Tryd.underlying27 rfl 36 (by kernel_rfl) (by first | rfl | (first | rfl | assumption | (exact Hid.out (by assumption)) | (exact tokL_size _) | (rw [arr8_size]; first | rfl | assumption | (exact Hid.out (by assumption)) | exact tokL_size _ | exact List.length_replicate ..) | (simp [arr8_size]; done))) _ rfl gw ?_)) | ((with_reducible show wpList _ _ _ (⟨none, .store 27 (.tmp 1) (.tmp 48), _, _, _, _⟩ :: _) _ _); refine step_store S 27 (.tmp 1) (.tmp 48) _ _ rfl rfl _ _ pk 36 (by kernel_rfl) (by first | rfl | (first | rfl | assumption | (exact Hid.out (by assumption)) | (exact tokL_size _) | (rw [arr8_size]; first | rfl | assumption | (exact Hid.out (by assumption)) | exact tokL_size _ | exact List.length_replicate ..) | (simp [arr8_size]; done))) (by first | rfl | (first | rfl | assumption | (exact Hid.out (by assumption)) | (exact tokL_size _) | (rw [arr8_size]; first | rfl | assumption | (exact Hid.out (by assumption)) | exact tokL_size _ | exact List.length_replicate ..) | (simp [arr8_size]; done))) on1 gw ?_; clear S; intro w S) | fail)
    refine ret_tct rfl g1 27 _ (S.get (r := blk g1 _) pk) _ Tryd.underlying27 36 (by kernel_rfl) (tokL_size _) rfl rfl rfl ?_
    exact ⟨_, rfl, S.sub (k := [rowM (.slice (some ⟨g3, 0, none⟩) 1 c3) ring1]) (by repeat (first | exact Sub.nil _ | refine Sub.cons pk ?_))⟩

theorem enc_258 : (encT ⟨1, 2, 258, 3, zs32, rfl⟩).take 14 = [1, 2, 0, 0, 0, 0, 0, 0, 1, 2, 0, 0, 0, 3] := by decide

set_option maxRecDepth 100000 in
set_option maxHeartbeats 16000000 in
theorem alive_s (w0 : World) (hK : KT w0) (hP : PT w0) : Calls Tryd.prog 31 #[] w0 fun e w' => e = .returned (.bool true) ∧ Has w0 w' [] := by
  have S := Has.start w0
  have p1 := fun w hK => given_s w hK
  have p2 := fun w => key_s w
  have p3 := fun w => enc_s ⟨1, 2, 258, 3, zs32, rfl⟩ w
  have hX := enc_258
  have hXl := encT_length ⟨1, 2, 258, 3, zs32, rfl⟩
  generalize encT ⟨1, 2, 258, 3, zs32, rfl⟩ = X at p3 hX hXl
  have p4 : ∀ v w, Rg w v ring1 → Calls Tryd.prog 34 #[v, .int .u32 1] w (MadeM2 w (revR ring1 1) 0) := fun v w h => by
    have := revoke_r v ring1 1 w h (by decide)
    rw [rev1E] at this
    exact this
  have p5 : ∀ v0 v1 w, Rg w v0 ring1 → Bs w v1 dock → KT w → PT w → Calls Tryd.prog 29 #[v0, v1, .int .i64 1, .agg (tokL tok1).toArray, .int .u8 1, .int .u64 14] w fun e w' => e = .returned (.int .i64 0) ∧ Has w w' [] := fun v0 v1 w h1 h2 h3 h4 => by
    have := authz_s v0 v1 ring1 dock 1 tok1 1 14 w h1 h2 h3 h4 (by decide) (by decide) (by decide)
    rw [auz1_14] at this
    exact this
  have p6 : ∀ v0 v1 w, Rg w v0 ring1 → Bs w v1 dock → KT w → PT w → Calls Tryd.prog 29 #[v0, v1, .int .i64 1, .agg (tokL tok1).toArray, .int .u8 1, .int .u64 15] w fun e w' => e = .returned (.int .i64 193) ∧ Has w w' [] := fun v0 v1 w h1 h2 h3 h4 => by
    have := authz_s v0 v1 ring1 dock 1 tok1 1 15 w h1 h2 h3 h4 (by decide) (by decide) (by decide)
    rw [auz1_15] at this
    exact this
  have p7 : ∀ v0 v1 w, Rg w v0 (revR ring1 1) → Bs w v1 dock → KT w → PT w → Calls Tryd.prog 29 #[v0, v1, .int .i64 1, .agg (tokL tok1).toArray, .int .u8 1, .int .u64 10] w fun e w' => e = .returned (.int .i64 192) ∧ Has w w' [] := fun v0 v1 w h1 h2 h3 h4 => by
    have := authz_s v0 v1 (revR ring1 1) dock 1 tok1 1 10 w h1 h2 h3 h4 (by decide) (by decide) (by decide)
    rw [auz1_rev] at this
    exact this
  have p8 : ∀ w, PT w → Calls Tryd.prog 27 #[.int .u8 1, .int .u8 4] w fun e w' => e = .returned (.bool true) ∧ Has w w' [] := fun w h => permits_s 1 4 w h (by decide) (by decide)
  have p9 : ∀ w, PT w → Calls Tryd.prog 27 #[.int .u8 1, .int .u8 1] w fun e w' => e = .returned (.bool false) ∧ Has w w' [] := fun w h => permits_s 1 1 w h (by decide) (by decide)
  generalize tok1 = T1 at p1 p5 p6 p7
  generalize revR ring1 1 = RR at p4 p7
  generalize ring1 = R at p1 p4 p5 p6
  generalize dock = D at p2 p5 p6 p7
  have hst : (!(strB [1, 2, 0, 0, 0, 0, 0, 0, 1, 2, 0, 0, 0, 3]).toList == [1, 2, 0, 0, 0, 0, 0, 0, 1, 2, 0, 0, 0, 3]) = false := by rw [ByteArray.toList_eq, strB_list]; rfl
  have HK := Lib.hid hK; have HP := Lib.hid hP; have P1 := Lib.hid p1; have P2 := Lib.hid p2; have P3 := Lib.hid p3; have P4 := Lib.hid p4; have P5 := Lib.hid p5; have P6 := Lib.hid p6; have P7 := Lib.hid p7; have P8 := Lib.hid p8; have P9 := Lib.hid p9; have HX := Lib.hid hX; have HXL := Lib.hid hXl; clear hK hP p1 p2 p3 p4 p5 p6 p7 p8 p9 hX hXl
  go_enter Tryd.func31, Tryd.ntmps31
  go_wp2_with (first | ((with_reducible show wpList _ _ _ (⟨some 12, .build 27 _, _, _, _, _⟩ :: _) _ _); refine step_buildT4 _ _ _ _ 1 2 258 3 rfl rfl rfl rfl rfl ?_) | ((with_reducible show wpList _ _ _ (⟨some 24, .convert _ _ _, _, _, _, _⟩ :: _) _ _); refine step_conv 22 9 5 (.tmp 23) _ [1, 2, 0, 0, 0, 0, 0, 0, 1, 2, 0, 0, 0, 3] rfl Tryd.underlying22 Tryd.underlying5 Tryd.underlying9 (HX.out ▸ ((S.bs (xs := X) pk).cutH 14 (by decide) HXL.out)) gw ?_) | (go_at_call 43; (with_reducible refine (P1.out _ (S.kt (Hid.out (by assumption)))).mono ?_); rintro e w1 ⟨v1, rfl, T⟩; replace S := S.call T; clear T; (try simp only [List.nil_append, List.cons_append] at S); obtain ⟨a1, c1, rfl, k1, k2⟩ := Sl.shape (S.sl (v := v1) pk); unfold maxLen at k2) | ((with_reducible show wpList _ _ _ (⟨some 2, .alloc 27, _, _, _, _⟩ :: _) _ _); refine step_alloc (dst := some 2) S 27 (.agg ((tokL tokZ).toArray)) ((tokL tokZ).toArray) (by kernel_rfl) rfl gw ?_; clear S; intro g2 w S) | ((with_reducible show wpList _ _ _ (⟨none, .store 27 (.tmp 2) (.tmp 10), _, _, _, _⟩ :: _) _ _); refine step_store S 27 (.tmp 2) (.tmp 10) _ _ rfl rfl _ _ pk 36 (by kernel_rfl) (by first | rfl | (first | rfl | assumption | (exact Hid.out (by assumption)) | (exact tokL_size _) | (rw [arr8_size]; first | rfl | assumption | (exact Hid.out (by assumption)) | exact tokL_size _ | exact List.length_replicate ..) | (simp [arr8_size]; done))) (by first | rfl | (first | rfl | assumption | (exact Hid.out (by assumption)) | (exact tokL_size _) | (rw [arr8_size]; first | rfl | assumption | (exact Hid.out (by assumption)) | exact tokL_size _ | exact List.length_replicate ..) | (simp [arr8_size]; done))) on1 gw ?_; clear S; intro w S) | (go_at_call 16; (with_reducible refine (P3.out _).mono ?_); rintro e w1 ⟨v4, rfl, T⟩; replace S := S.call T; clear T; (try simp only [List.nil_append, List.cons_append] at S); obtain ⟨a4, c4, hv4, hc4, hm4⟩ := Sl.shape (S.bs (v := v4) (xs := X) pk); rw [HXL.out] at hv4 hc4; subst hv4) | ((with_reducible show wpList _ _ _ (⟨_, .slice 22 _ _ _ _, _, _, _, _⟩ :: _) _ _); refine step_cutH 22 5 1 _ _ _ _ _ _ _ 14 rfl rfl (by first | rfl | omega) (by first | (first | omega | assumption | (exact Hid.out (by assumption)) | (simp only [List.length_append, List.length_cons, List.length_nil]; omega)) | decide) Tryd.underlying22 (by kernel_rfl) gw ?_) | (go_at_call 34; (with_reducible refine (P4.out _ _ (S.sl (v := .slice a1 _ c1) pk)).mono ?_); rintro e w1 ⟨v5, rfl, T⟩; replace S := S.call T; clear T; (try simp only [List.nil_append, List.cons_append] at S); obtain ⟨a5, c5, rfl, k5, k6⟩ := Sl.shape (S.sl (v := v5) pk); unfold maxLen at k6) | ((with_reducible show wpList _ _ _ (⟨_, .load 27 _, _, _, _, _⟩ :: _) _ _); first | (refine step_load S 27 _ _ rfl _ _ _ pk _ Tryd.underlying27 rfl 36 (by kernel_rfl) (by first | rfl | (first | rfl | assumption | (exact Hid.out (by assumption)) | (exact tokL_size _) | (rw [arr8_size]; first | rfl | assumption | (exact Hid.out (by assumption)) | exact tokL_size _ | exact List.length_replicate ..) | (simp [arr8_size]; done))) gw ?_) | (refine step_loadO 27 _ _ rfl _ _ _ (S.old_heap (Hid.out (by assumption))) _ Tryd.underlying27 rfl 36 (by kernel_rfl) (by first | rfl | (first | rfl | assumption | (exact Hid.out (by assumption)) | (exact tokL_size _) | (rw [arr8_size]; first | rfl | assumption | (exact Hid.out (by assumption)) | exact tokL_size _ | exact List.length_replicate ..) | (simp [arr8_size]; done))) gw ?_) | (refine step_loadR 27 _ _ _ rfl _ (S.old_range hy) _ Tryd.underlying27 rfl 36 (by kernel_rfl) (by first | rfl | (first | rfl | assumption | (exact Hid.out (by assumption)) | (exact tokL_size _) | (rw [arr8_size]; first | rfl | assumption | (exact Hid.out (by assumption)) | exact tokL_size _ | exact List.length_replicate ..) | (simp [arr8_size]; done))) _ rfl gw ?_)) | fail)
  refine wp_rely S [⟨[], [], [], fun _ v => v = (.slice a1 R.length c1), fun _ v => []⟩, ⟨[], [], [], fun _ v => True, fun _ v => [rd8 v D]⟩, ⟨[], [], [], fun _ v => v = .agg (tokL T1).toArray, fun _ v => []⟩, ⟨[0, 1, 2], [], [1], fun _ v => v = .int .i64 0, fun _ v => []⟩, ⟨[0, 1, 2, 3], [], [], fun _ v => v = .bool true, fun _ v => []⟩, ⟨[0, 1, 2, 3, 4], [], [], fun _ v => v = (.bool true), fun _ v => []⟩, ⟨[0, 1, 2, 3, 4, 5], [], [], fun _ v => v = (.slice a1 R.length c1), fun _ v => []⟩, ⟨[0, 1, 2, 3, 4, 5], [], [], fun _ v => True, fun _ v => [rd8 v D]⟩, ⟨[0, 1, 2, 3, 4, 5], [], [], fun _ v => v = .agg (tokL T1).toArray, fun _ v => []⟩, ⟨[0, 1, 2, 3, 4, 5, 6, 7, 8], [], [7], fun _ v => v = .int .i64 193, fun _ v => []⟩, ⟨[0, 1, 2, 3, 4, 5, 6, 7, 8, 9], [], [], fun _ v => v = .bool true, fun _ v => []⟩, ⟨[0, 1, 2, 3, 4, 5, 6, 7, 8, 9, 10], [], [], fun _ v => v = .bool true, fun _ v => []⟩, ⟨[0, 1, 2, 3, 4, 5, 6, 7, 8, 9, 10, 11], [], [], fun _ v => v = (.bool true), fun _ v => []⟩, ⟨[0, 1, 2, 3, 4, 5, 6, 7, 8, 9, 10, 11, 12], [], [], fun _ v => v = (.int .i64 0), fun _ v => []⟩, ⟨[0, 1, 2, 3, 4, 5, 6, 7, 8, 9, 10, 11, 12, 13], [], [], fun _ v => v = .bool true, fun _ v => []⟩, ⟨[0, 1, 2, 3, 4, 5, 6, 7, 8, 9, 10, 11, 12, 13, 14], [], [], fun _ v => v = .bool true, fun _ v => []⟩, ⟨[0, 1, 2, 3, 4, 5, 6, 7, 8, 9, 10, 11, 12, 13, 14, 15], [], [], fun _ v => v = (.bool true), fun _ v => []⟩, ⟨[0, 1, 2, 3, 4, 5, 6, 7, 8, 9, 10, 11, 12, 13, 14, 15, 16], [], [], fun _ v => v = (.slice a5 RR.length c5), fun _ v => []⟩, ⟨[0, 1, 2, 3, 4, 5, 6, 7, 8, 9, 10, 11, 12, 13, 14, 15, 16], [], [], fun _ v => True, fun _ v => [rd8 v D]⟩, ⟨[0, 1, 2, 3, 4, 5, 6, 7, 8, 9, 10, 11, 12, 13, 14, 15, 16], [], [], fun _ v => v = .agg (tokL T1).toArray, fun _ v => []⟩, ⟨[0, 1, 2, 3, 4, 5, 6, 7, 8, 9, 10, 11, 12, 13, 14, 15, 16, 17, 18, 19], [], [18], fun _ v => v = .int .i64 192, fun _ v => []⟩, ⟨[0, 1, 2, 3, 4, 5, 6, 7, 8, 9, 10, 11, 12, 13, 14, 15, 16, 17, 18, 19, 20], [], [], fun _ v => v = .bool true, fun _ v => []⟩, ⟨[0, 1, 2, 3, 4, 5, 6, 7, 8, 9, 10, 11, 12, 13, 14, 15, 16, 17, 18, 19, 20, 21], [], [], fun _ v => v = .bool true, fun _ v => []⟩, ⟨[0, 1, 2, 3, 4, 5, 6, 7, 8, 9, 10, 11, 12, 13, 14, 15, 16, 17, 18, 19, 20, 21, 22], [], [], fun _ v => v = (.bool true), fun _ v => []⟩, ⟨[0, 1, 2, 3, 4, 5, 6, 7, 8, 9, 10, 11, 12, 13, 14, 15, 16, 17, 18, 19, 20, 21, 22, 23], [], [], fun _ v => v = .bool true, fun _ v => []⟩, ⟨[0, 1, 2, 3, 4, 5, 6, 7, 8, 9, 10, 11, 12, 13, 14, 15, 16, 17, 18, 19, 20, 21, 22, 23, 24], [], [], fun _ v => v = .bool true, fun _ v => []⟩, ⟨[0, 1, 2, 3, 4, 5, 6, 7, 8, 9, 10, 11, 12, 13, 14, 15, 16, 17, 18, 19, 20, 21, 22, 23, 24, 25], [], [], fun _ v => v = (.bool true), fun _ v => []⟩, ⟨[0, 1, 2, 3, 4, 5, 6, 7, 8, 9, 10, 11, 12, 13, 14, 15, 16, 17, 18, 19, 20, 21, 22, 23, 24, 25, 26], [], [], fun _ v => v = .bool false, fun _ v => []⟩, ⟨[0, 1, 2, 3, 4, 5, 6, 7, 8, 9, 10, 11, 12, 13, 14, 15, 16, 17, 18, 19, 20, 21, 22, 23, 24, 25, 26, 27], [], [], fun _ v => v = .bool true, fun _ v => []⟩, ⟨[0, 1, 2, 3, 4, 5, 6, 7, 8, 9, 10, 11, 12, 13, 14, 15, 16, 17, 18, 19, 20, 21, 22, 23, 24, 25, 26, 27, 28], [], [], fun _ v => v = .bool true, fun _ v => []⟩, ⟨[0, 1, 2, 3, 4, 5, 6, 7, 8, 9, 10, 11, 12, 13, 14, 15, 16, 17, 18, 19, 20, 21, 22, 23, 24, 25, 26, 27, 28, 29], [], [], fun _ v => v = (.bool true), fun _ v => []⟩] ?A2 ?hA2 (by kernel_rfl) (by kernel_rfl) (by kernel_rfl) [0, 1, 2, 3, 4, 5, 6, 7, 8, 9, 10, 11, 12, 13, 14, 15, 16, 17, 18, 19, 20, 21, 22, 23, 24, 25, 26, 27, 28, 29, 30] (by kernel_rfl) ?hok2 ?fin2
  case hA2 => intro u; simp only [putAll, List.length_cons, List.length_nil, Nat.zero_add, Nat.reduceAdd, dstAt, List.getElem?_toArray, List.getElem?_cons_zero, List.getElem?_cons_succ, Option.bind_some, Act.put, List.setIfInBounds_toArray, List.set_cons_zero, List.set_cons_succ]; rfl
  case hok2 =>
    intro i hi
    obtain rfl | rfl | rfl | rfl | rfl | rfl | rfl | rfl | rfl | rfl | rfl | rfl | rfl | rfl | rfl | rfl | rfl | rfl | rfl | rfl | rfl | rfl | rfl | rfl | rfl | rfl | rfl | rfl | rfl | rfl | rfl : i = 0 ∨ i = 1 ∨ i = 2 ∨ i = 3 ∨ i = 4 ∨ i = 5 ∨ i = 6 ∨ i = 7 ∨ i = 8 ∨ i = 9 ∨ i = 10 ∨ i = 11 ∨ i = 12 ∨ i = 13 ∨ i = 14 ∨ i = 15 ∨ i = 16 ∨ i = 17 ∨ i = 18 ∨ i = 19 ∨ i = 20 ∨ i = 21 ∨ i = 22 ∨ i = 23 ∨ i = 24 ∨ i = 25 ∨ i = 26 ∨ i = 27 ∨ i = 28 ∨ i = 29 ∨ i = 30 := by simp only [List.length_cons, List.length_nil, Nat.zero_add, Nat.reduceAdd] at hi; omega
    · clear hi
      refine step_of rfl rfl rfl ?_
      intro u G w hf S
      simp only [resOf, spec, RSpec.resAt, z0, z1, z2, z3, z4, z5, z6, z7, ptrBlk] at S ⊢
      simp only [does]
      go_simp
      try first | exact S | exact ⟨vv, S⟩ | exact vv
    · clear hi
      refine step_of rfl rfl rfl ?_
      intro u G w hf S
      simp only [resOf, spec, RSpec.resAt, z0, z1, z2, z3, z4, z5, z6, z7, ptrBlk] at S ⊢
      refine does_fn (args := []) Tryd.func44 (by kernel_rfl) (by kernel_rfl) (P2.out w) rfl ?_
      rintro e w1 ⟨v, rfl, T⟩
      exact ⟨_, rfl, trivial, S.call T⟩
    · clear hi
      refine step_of rfl rfl rfl ?_
      intro u G w hf S
      simp only [resOf, spec, RSpec.resAt, z0, z1, z2, z3, z4, z5, z6, z7, ptrBlk] at S ⊢
      refine does_load 27 (.tmp 2) g2 rfl _ _ _ (S.get (r := blk g2 _) pk) _ Tryd.underlying27 rfl 36 (by kernel_rfl) (by first | rfl | (first | rfl | assumption | (exact Hid.out (by assumption)) | (exact tokL_size _) | (rw [arr8_size]; first | rfl | assumption | (exact Hid.out (by assumption)) | exact tokL_size _ | exact List.length_replicate ..) | (simp [arr8_size]; done))) ?_; exact ⟨rfl, S⟩
    · clear hi
      refine step_of rfl rfl rfl ?_
      intro u G w hf S
      have f0 : u 0 = (.slice a1 R.length c1) := hf 0 (by simp)
      have f2 : u 2 = .agg (tokL T1).toArray := hf 2 (by simp)
      simp only [resOf, spec, RSpec.resAt, z0, z1, z2, z3, z4, z5, z6, z7, ptrBlk] at S ⊢
      simp only [f0, f2] at S ⊢
      try simp only [ptrBlk] at S
      refine does_fn (args := [((.slice a1 R.length c1)), u 1, (.int .i64 1), (.agg (tokL T1).toArray), (.int .u8 1), (.int .u64 14)]) Tryd.func29 (by kernel_rfl) (by kernel_rfl) (P5.out _ _ w (S.sl (v := .slice a1 R.length c1) pk) (S.bsr pk) (S.kt HK.out) (S.pt HP.out)) rfl ?_
      rintro e w1 ⟨rfl, T⟩
      exact ⟨_, rfl, rfl, S.call T⟩
    · clear hi
      refine step_of rfl rfl rfl ?_
      intro u G w hf S
      have f0 : u 0 = (.slice a1 R.length c1) := hf 0 (by simp)
      have f2 : u 2 = .agg (tokL T1).toArray := hf 2 (by simp)
      have f3 : u 3 = .int .i64 0 := hf 3 (by simp)
      simp only [resOf, spec, RSpec.resAt, z0, z1, z2, z3, z4, z5, z6, z7, ptrBlk] at S ⊢
      simp only [f0, f2, f3]
      simp only [does]
      go_simp
      try first | exact S | exact ⟨vv, S⟩ | exact vv
    · clear hi
      refine step_of rfl rfl rfl ?_
      intro u G w hf S
      have f0 : u 0 = (.slice a1 R.length c1) := hf 0 (by simp)
      have f2 : u 2 = .agg (tokL T1).toArray := hf 2 (by simp)
      have f3 : u 3 = .int .i64 0 := hf 3 (by simp)
      have f4 : u 4 = .bool true := hf 4 (by simp)
      simp only [resOf, spec, RSpec.resAt, z0, z1, z2, z3, z4, z5, z6, z7, ptrBlk] at S ⊢
      simp only [f0, f2, f3, f4]
      simp only [does]
      go_simp
      try first | exact S | exact ⟨vv, S⟩ | exact vv
    · clear hi
      refine step_of_g rfl rfl ?_
      intro u G w hf S
      have f0 : u 0 = (.slice a1 R.length c1) := hf 0 (by simp)
      have f2 : u 2 = .agg (tokL T1).toArray := hf 2 (by simp)
      have f3 : u 3 = .int .i64 0 := hf 3 (by simp)
      have f4 : u 4 = .bool true := hf 4 (by simp)
      have f5 : u 5 = (.bool true) := hf 5 (by simp)
      simp only [resOf, spec, RSpec.resAt, z0, z1, z2, z3, z4, z5, z6, z7, ptrBlk] at S ⊢
      simp only [f0, f2, f3, f4, f5]
      refine ⟨rfl, ?_⟩
      simp only [does]
      go_simp
      try first | exact S | exact ⟨vv, S⟩ | exact vv
    · clear hi
      refine step_of_g rfl rfl ?_
      intro u G w hf S
      have f0 : u 0 = (.slice a1 R.length c1) := hf 0 (by simp)
      have f2 : u 2 = .agg (tokL T1).toArray := hf 2 (by simp)
      have f3 : u 3 = .int .i64 0 := hf 3 (by simp)
      have f4 : u 4 = .bool true := hf 4 (by simp)
      have f5 : u 5 = (.bool true) := hf 5 (by simp)
      simp only [resOf, spec, RSpec.resAt, z0, z1, z2, z3, z4, z5, z6, z7, ptrBlk] at S ⊢
      simp only [f0, f2, f3, f4, f5]
      refine ⟨rfl, ?_⟩
      refine does_fn (args := []) Tryd.func44 (by kernel_rfl) (by kernel_rfl) (P2.out w) rfl ?_
      rintro e w1 ⟨v, rfl, T⟩
      exact ⟨_, rfl, trivial, S.call T⟩
    · clear hi
      refine step_of_g rfl rfl ?_
      intro u G w hf S
      have f0 : u 0 = (.slice a1 R.length c1) := hf 0 (by simp)
      have f2 : u 2 = .agg (tokL T1).toArray := hf 2 (by simp)
      have f3 : u 3 = .int .i64 0 := hf 3 (by simp)
      have f4 : u 4 = .bool true := hf 4 (by simp)
      have f5 : u 5 = (.bool true) := hf 5 (by simp)
      simp only [resOf, spec, RSpec.resAt, z0, z1, z2, z3, z4, z5, z6, z7, ptrBlk] at S ⊢
      simp only [f0, f2, f3, f4, f5]
      refine ⟨rfl, ?_⟩
      refine does_load 27 (.tmp 2) g2 rfl _ _ _ (S.get (r := blk g2 _) pk) _ Tryd.underlying27 rfl 36 (by kernel_rfl) (by first | rfl | (first | rfl | assumption | (exact Hid.out (by assumption)) | (exact tokL_size _) | (rw [arr8_size]; first | rfl | assumption | (exact Hid.out (by assumption)) | exact tokL_size _ | exact List.length_replicate ..) | (simp [arr8_size]; done))) ?_; exact ⟨rfl, S⟩
    · clear hi
      refine step_of_g rfl rfl ?_
      intro u G w hf S
      have f0 : u 0 = (.slice a1 R.length c1) := hf 0 (by simp)
      have f2 : u 2 = .agg (tokL T1).toArray := hf 2 (by simp)
      have f3 : u 3 = .int .i64 0 := hf 3 (by simp)
      have f4 : u 4 = .bool true := hf 4 (by simp)
      have f5 : u 5 = (.bool true) := hf 5 (by simp)
      have f6 : u 6 = (.slice a1 R.length c1) := hf 6 (by simp)
      have f8 : u 8 = .agg (tokL T1).toArray := hf 8 (by simp)
      simp only [resOf, spec, RSpec.resAt, z0, z1, z2, z3, z4, z5, z6, z7, ptrBlk] at S ⊢
      simp only [f0, f2, f3, f4, f5, f6, f8] at S ⊢
      try simp only [ptrBlk] at S
      refine ⟨rfl, ?_⟩
      refine does_fn (args := [((.slice a1 R.length c1)), u 7, (.int .i64 1), (.agg (tokL T1).toArray), (.int .u8 1), (.int .u64 15)]) Tryd.func29 (by kernel_rfl) (by kernel_rfl) (P6.out _ _ w (S.sl (v := .slice a1 R.length c1) pk) (S.bsr pk) (S.kt HK.out) (S.pt HP.out)) rfl ?_
      rintro e w1 ⟨rfl, T⟩
      exact ⟨_, rfl, rfl, S.call T⟩
    · clear hi
      refine step_of_g rfl rfl ?_
      intro u G w hf S
      have f0 : u 0 = (.slice a1 R.length c1) := hf 0 (by simp)
      have f2 : u 2 = .agg (tokL T1).toArray := hf 2 (by simp)
      have f3 : u 3 = .int .i64 0 := hf 3 (by simp)
      have f4 : u 4 = .bool true := hf 4 (by simp)
      have f5 : u 5 = (.bool true) := hf 5 (by simp)
      have f6 : u 6 = (.slice a1 R.length c1) := hf 6 (by simp)
      have f8 : u 8 = .agg (tokL T1).toArray := hf 8 (by simp)
      have f9 : u 9 = .int .i64 193 := hf 9 (by simp)
      simp only [resOf, spec, RSpec.resAt, z0, z1, z2, z3, z4, z5, z6, z7, ptrBlk] at S ⊢
      simp only [f0, f2, f3, f4, f5, f6, f8, f9]
      refine ⟨rfl, ?_⟩
      simp only [does]
      go_simp
      try first | exact S | exact ⟨vv, S⟩ | exact vv
    · clear hi
      refine step_of rfl rfl rfl ?_
      intro u G w hf S
      have f0 : u 0 = (.slice a1 R.length c1) := hf 0 (by simp)
      have f2 : u 2 = .agg (tokL T1).toArray := hf 2 (by simp)
      have f3 : u 3 = .int .i64 0 := hf 3 (by simp)
      have f4 : u 4 = .bool true := hf 4 (by simp)
      have f5 : u 5 = (.bool true) := hf 5 (by simp)
      have f6 : u 6 = (.slice a1 R.length c1) := hf 6 (by simp)
      have f8 : u 8 = .agg (tokL T1).toArray := hf 8 (by simp)
      have f9 : u 9 = .int .i64 193 := hf 9 (by simp)
      have f10 : u 10 = .bool true := hf 10 (by simp)
      simp only [resOf, spec, RSpec.resAt, z0, z1, z2, z3, z4, z5, z6, z7, ptrBlk] at S ⊢
      simp only [f0, f2, f3, f4, f5, f6, f8, f9, f10]
      simp only [does]
      go_simp
      try first | exact S | exact ⟨vv, S⟩ | exact vv
    · clear hi
      refine step_of rfl rfl rfl ?_
      intro u G w hf S
      have f0 : u 0 = (.slice a1 R.length c1) := hf 0 (by simp)
      have f2 : u 2 = .agg (tokL T1).toArray := hf 2 (by simp)
      have f3 : u 3 = .int .i64 0 := hf 3 (by simp)
      have f4 : u 4 = .bool true := hf 4 (by simp)
      have f5 : u 5 = (.bool true) := hf 5 (by simp)
      have f6 : u 6 = (.slice a1 R.length c1) := hf 6 (by simp)
      have f8 : u 8 = .agg (tokL T1).toArray := hf 8 (by simp)
      have f9 : u 9 = .int .i64 193 := hf 9 (by simp)
      have f10 : u 10 = .bool true := hf 10 (by simp)
      have f11 : u 11 = .bool true := hf 11 (by simp)
      simp only [resOf, spec, RSpec.resAt, z0, z1, z2, z3, z4, z5, z6, z7, ptrBlk] at S ⊢
      simp only [f0, f2, f3, f4, f5, f6, f8, f9, f10, f11]
      simp only [does]
      go_simp
      try first | exact S | exact ⟨vv, S⟩ | exact vv
    · clear hi
      refine step_of_g rfl rfl ?_
      intro u G w hf S
      have f0 : u 0 = (.slice a1 R.length c1) := hf 0 (by simp)
      have f2 : u 2 = .agg (tokL T1).toArray := hf 2 (by simp)
      have f3 : u 3 = .int .i64 0 := hf 3 (by simp)
      have f4 : u 4 = .bool true := hf 4 (by simp)
      have f5 : u 5 = (.bool true) := hf 5 (by simp)
      have f6 : u 6 = (.slice a1 R.length c1) := hf 6 (by simp)
      have f8 : u 8 = .agg (tokL T1).toArray := hf 8 (by simp)
      have f9 : u 9 = .int .i64 193 := hf 9 (by simp)
      have f10 : u 10 = .bool true := hf 10 (by simp)
      have f11 : u 11 = .bool true := hf 11 (by simp)
      have f12 : u 12 = (.bool true) := hf 12 (by simp)
      simp only [resOf, spec, RSpec.resAt, z0, z1, z2, z3, z4, z5, z6, z7, ptrBlk] at S ⊢
      simp only [f0, f2, f3, f4, f5, f6, f8, f9, f10, f11, f12]
      refine ⟨rfl, ?_⟩
      simp only [does]
      go_simp
      try first | exact S | exact ⟨vv, S⟩ | exact vv
    · clear hi
      refine step_of_g rfl rfl ?_
      intro u G w hf S
      have f0 : u 0 = (.slice a1 R.length c1) := hf 0 (by simp)
      have f2 : u 2 = .agg (tokL T1).toArray := hf 2 (by simp)
      have f3 : u 3 = .int .i64 0 := hf 3 (by simp)
      have f4 : u 4 = .bool true := hf 4 (by simp)
      have f5 : u 5 = (.bool true) := hf 5 (by simp)
      have f6 : u 6 = (.slice a1 R.length c1) := hf 6 (by simp)
      have f8 : u 8 = .agg (tokL T1).toArray := hf 8 (by simp)
      have f9 : u 9 = .int .i64 193 := hf 9 (by simp)
      have f10 : u 10 = .bool true := hf 10 (by simp)
      have f11 : u 11 = .bool true := hf 11 (by simp)
      have f12 : u 12 = (.bool true) := hf 12 (by simp)
      have f13 : u 13 = (.int .i64 0) := hf 13 (by simp)
      simp only [resOf, spec, RSpec.resAt, z0, z1, z2, z3, z4, z5, z6, z7, ptrBlk] at S ⊢
      simp only [f0, f2, f3, f4, f5, f6, f8, f9, f10, f11, f12, f13]
      refine ⟨rfl, ?_⟩
      simp only [does]
      go_simp
      try first | exact S | exact ⟨vv, S⟩ | exact vv
    · clear hi
      refine step_of rfl rfl rfl ?_
      intro u G w hf S
      have f0 : u 0 = (.slice a1 R.length c1) := hf 0 (by simp)
      have f2 : u 2 = .agg (tokL T1).toArray := hf 2 (by simp)
      have f3 : u 3 = .int .i64 0 := hf 3 (by simp)
      have f4 : u 4 = .bool true := hf 4 (by simp)
      have f5 : u 5 = (.bool true) := hf 5 (by simp)
      have f6 : u 6 = (.slice a1 R.length c1) := hf 6 (by simp)
      have f8 : u 8 = .agg (tokL T1).toArray := hf 8 (by simp)
      have f9 : u 9 = .int .i64 193 := hf 9 (by simp)
      have f10 : u 10 = .bool true := hf 10 (by simp)
      have f11 : u 11 = .bool true := hf 11 (by simp)
      have f12 : u 12 = (.bool true) := hf 12 (by simp)
      have f13 : u 13 = (.int .i64 0) := hf 13 (by simp)
      have f14 : u 14 = .bool true := hf 14 (by simp)
      simp only [resOf, spec, RSpec.resAt, z0, z1, z2, z3, z4, z5, z6, z7, ptrBlk] at S ⊢
      simp only [f0, f2, f3, f4, f5, f6, f8, f9, f10, f11, f12, f13, f14]
      simp only [does]
      go_simp
      try first | exact S | exact ⟨vv, S⟩ | exact vv
    · clear hi
      refine step_of rfl rfl rfl ?_
      intro u G w hf S
      have f0 : u 0 = (.slice a1 R.length c1) := hf 0 (by simp)
      have f2 : u 2 = .agg (tokL T1).toArray := hf 2 (by simp)
      have f3 : u 3 = .int .i64 0 := hf 3 (by simp)
      have f4 : u 4 = .bool true := hf 4 (by simp)
      have f5 : u 5 = (.bool true) := hf 5 (by simp)
      have f6 : u 6 = (.slice a1 R.length c1) := hf 6 (by simp)
      have f8 : u 8 = .agg (tokL T1).toArray := hf 8 (by simp)
      have f9 : u 9 = .int .i64 193 := hf 9 (by simp)
      have f10 : u 10 = .bool true := hf 10 (by simp)
      have f11 : u 11 = .bool true := hf 11 (by simp)
      have f12 : u 12 = (.bool true) := hf 12 (by simp)
      have f13 : u 13 = (.int .i64 0) := hf 13 (by simp)
      have f14 : u 14 = .bool true := hf 14 (by simp)
      have f15 : u 15 = .bool true := hf 15 (by simp)
      simp only [resOf, spec, RSpec.resAt, z0, z1, z2, z3, z4, z5, z6, z7, ptrBlk] at S ⊢
      simp only [f0, f2, f3, f4, f5, f6, f8, f9, f10, f11, f12, f13, f14, f15]
      simp only [does]
      go_simp
      try first | exact S | exact ⟨vv, S⟩ | exact vv
    · clear hi
      refine step_of_g rfl rfl ?_
      intro u G w hf S
      have f0 : u 0 = (.slice a1 R.length c1) := hf 0 (by simp)
      have f2 : u 2 = .agg (tokL T1).toArray := hf 2 (by simp)
      have f3 : u 3 = .int .i64 0 := hf 3 (by simp)
      have f4 : u 4 = .bool true := hf 4 (by simp)
      have f5 : u 5 = (.bool true) := hf 5 (by simp)
      have f6 : u 6 = (.slice a1 R.length c1) := hf 6 (by simp)
      have f8 : u 8 = .agg (tokL T1).toArray := hf 8 (by simp)
      have f9 : u 9 = .int .i64 193 := hf 9 (by simp)
      have f10 : u 10 = .bool true := hf 10 (by simp)
      have f11 : u 11 = .bool true := hf 11 (by simp)
      have f12 : u 12 = (.bool true) := hf 12 (by simp)
      have f13 : u 13 = (.int .i64 0) := hf 13 (by simp)
      have f14 : u 14 = .bool true := hf 14 (by simp)
      have f15 : u 15 = .bool true := hf 15 (by simp)
      have f16 : u 16 = (.bool true) := hf 16 (by simp)
      simp only [resOf, spec, RSpec.resAt, z0, z1, z2, z3, z4, z5, z6, z7, ptrBlk] at S ⊢
      simp only [f0, f2, f3, f4, f5, f6, f8, f9, f10, f11, f12, f13, f14, f15, f16]
      refine ⟨rfl, ?_⟩
      simp only [does]
      go_simp
      try first | exact S | exact ⟨vv, S⟩ | exact vv
    · clear hi
      refine step_of_g rfl rfl ?_
      intro u G w hf S
      have f0 : u 0 = (.slice a1 R.length c1) := hf 0 (by simp)
      have f2 : u 2 = .agg (tokL T1).toArray := hf 2 (by simp)
      have f3 : u 3 = .int .i64 0 := hf 3 (by simp)
      have f4 : u 4 = .bool true := hf 4 (by simp)
      have f5 : u 5 = (.bool true) := hf 5 (by simp)
      have f6 : u 6 = (.slice a1 R.length c1) := hf 6 (by simp)
      have f8 : u 8 = .agg (tokL T1).toArray := hf 8 (by simp)
      have f9 : u 9 = .int .i64 193 := hf 9 (by simp)
      have f10 : u 10 = .bool true := hf 10 (by simp)
      have f11 : u 11 = .bool true := hf 11 (by simp)
      have f12 : u 12 = (.bool true) := hf 12 (by simp)
      have f13 : u 13 = (.int .i64 0) := hf 13 (by simp)
      have f14 : u 14 = .bool true := hf 14 (by simp)
      have f15 : u 15 = .bool true := hf 15 (by simp)
      have f16 : u 16 = (.bool true) := hf 16 (by simp)
      simp only [resOf, spec, RSpec.resAt, z0, z1, z2, z3, z4, z5, z6, z7, ptrBlk] at S ⊢
      simp only [f0, f2, f3, f4, f5, f6, f8, f9, f10, f11, f12, f13, f14, f15, f16]
      refine ⟨rfl, ?_⟩
      refine does_fn (args := []) Tryd.func44 (by kernel_rfl) (by kernel_rfl) (P2.out w) rfl ?_
      rintro e w1 ⟨v, rfl, T⟩
      exact ⟨_, rfl, trivial, S.call T⟩
    · clear hi
      refine step_of_g rfl rfl ?_
      intro u G w hf S
      have f0 : u 0 = (.slice a1 R.length c1) := hf 0 (by simp)
      have f2 : u 2 = .agg (tokL T1).toArray := hf 2 (by simp)
      have f3 : u 3 = .int .i64 0 := hf 3 (by simp)
      have f4 : u 4 = .bool true := hf 4 (by simp)
      have f5 : u 5 = (.bool true) := hf 5 (by simp)
      have f6 : u 6 = (.slice a1 R.length c1) := hf 6 (by simp)
      have f8 : u 8 = .agg (tokL T1).toArray := hf 8 (by simp)
      have f9 : u 9 = .int .i64 193 := hf 9 (by simp)
      have f10 : u 10 = .bool true := hf 10 (by simp)
      have f11 : u 11 = .bool true := hf 11 (by simp)
      have f12 : u 12 = (.bool true) := hf 12 (by simp)
      have f13 : u 13 = (.int .i64 0) := hf 13 (by simp)
      have f14 : u 14 = .bool true := hf 14 (by simp)
      have f15 : u 15 = .bool true := hf 15 (by simp)
      have f16 : u 16 = (.bool true) := hf 16 (by simp)
      simp only [resOf, spec, RSpec.resAt, z0, z1, z2, z3, z4, z5, z6, z7, ptrBlk] at S ⊢
      simp only [f0, f2, f3, f4, f5, f6, f8, f9, f10, f11, f12, f13, f14, f15, f16]
      refine ⟨rfl, ?_⟩
      refine does_load 27 (.tmp 2) g2 rfl _ _ _ (S.get (r := blk g2 _) pk) _ Tryd.underlying27 rfl 36 (by kernel_rfl) (by first | rfl | (first | rfl | assumption | (exact Hid.out (by assumption)) | (exact tokL_size _) | (rw [arr8_size]; first | rfl | assumption | (exact Hid.out (by assumption)) | exact tokL_size _ | exact List.length_replicate ..) | (simp [arr8_size]; done))) ?_; exact ⟨rfl, S⟩
    · clear hi
      refine step_of_g rfl rfl ?_
      intro u G w hf S
      have f0 : u 0 = (.slice a1 R.length c1) := hf 0 (by simp)
      have f2 : u 2 = .agg (tokL T1).toArray := hf 2 (by simp)
      have f3 : u 3 = .int .i64 0 := hf 3 (by simp)
      have f4 : u 4 = .bool true := hf 4 (by simp)
      have f5 : u 5 = (.bool true) := hf 5 (by simp)
      have f6 : u 6 = (.slice a1 R.length c1) := hf 6 (by simp)
      have f8 : u 8 = .agg (tokL T1).toArray := hf 8 (by simp)
      have f9 : u 9 = .int .i64 193 := hf 9 (by simp)
      have f10 : u 10 = .bool true := hf 10 (by simp)
      have f11 : u 11 = .bool true := hf 11 (by simp)
      have f12 : u 12 = (.bool true) := hf 12 (by simp)
      have f13 : u 13 = (.int .i64 0) := hf 13 (by simp)
      have f14 : u 14 = .bool true := hf 14 (by simp)
      have f15 : u 15 = .bool true := hf 15 (by simp)
      have f16 : u 16 = (.bool true) := hf 16 (by simp)
      have f17 : u 17 = (.slice a5 RR.length c5) := hf 17 (by simp)
      have f19 : u 19 = .agg (tokL T1).toArray := hf 19 (by simp)
      simp only [resOf, spec, RSpec.resAt, z0, z1, z2, z3, z4, z5, z6, z7, ptrBlk] at S ⊢
      simp only [f0, f2, f3, f4, f5, f6, f8, f9, f10, f11, f12, f13, f14, f15, f16, f17, f19] at S ⊢
      try simp only [ptrBlk] at S
      refine ⟨rfl, ?_⟩
      refine does_fn (args := [((.slice a5 RR.length c5)), u 18, (.int .i64 1), (.agg (tokL T1).toArray), (.int .u8 1), (.int .u64 10)]) Tryd.func29 (by kernel_rfl) (by kernel_rfl) (P7.out _ _ w (S.sl (v := .slice a5 RR.length c5) pk) (S.bsr pk) (S.kt HK.out) (S.pt HP.out)) rfl ?_
      rintro e w1 ⟨rfl, T⟩
      exact ⟨_, rfl, rfl, S.call T⟩
    · clear hi
      refine step_of_g rfl rfl ?_
      intro u G w hf S
      have f0 : u 0 = (.slice a1 R.length c1) := hf 0 (by simp)
      have f2 : u 2 = .agg (tokL T1).toArray := hf 2 (by simp)
      have f3 : u 3 = .int .i64 0 := hf 3 (by simp)
      have f4 : u 4 = .bool true := hf 4 (by simp)
      have f5 : u 5 = (.bool true) := hf 5 (by simp)
      have f6 : u 6 = (.slice a1 R.length c1) := hf 6 (by simp)
      have f8 : u 8 = .agg (tokL T1).toArray := hf 8 (by simp)
      have f9 : u 9 = .int .i64 193 := hf 9 (by simp)
      have f10 : u 10 = .bool true := hf 10 (by simp)
      have f11 : u 11 = .bool true := hf 11 (by simp)
      have f12 : u 12 = (.bool true) := hf 12 (by simp)
      have f13 : u 13 = (.int .i64 0) := hf 13 (by simp)
      have f14 : u 14 = .bool true := hf 14 (by simp)
      have f15 : u 15 = .bool true := hf 15 (by simp)
      have f16 : u 16 = (.bool true) := hf 16 (by simp)
      have f17 : u 17 = (.slice a5 RR.length c5) := hf 17 (by simp)
      have f19 : u 19 = .agg (tokL T1).toArray := hf 19 (by simp)
      have f20 : u 20 = .int .i64 192 := hf 20 (by simp)
      simp only [resOf, spec, RSpec.resAt, z0, z1, z2, z3, z4, z5, z6, z7, ptrBlk] at S ⊢
      simp only [f0, f2, f3, f4, f5, f6, f8, f9, f10, f11, f12, f13, f14, f15, f16, f17, f19, f20]
      refine ⟨rfl, ?_⟩
      simp only [does]
      go_simp
      try first | exact S | exact ⟨vv, S⟩ | exact vv
    · clear hi
      refine step_of rfl rfl rfl ?_
      intro u G w hf S
      have f0 : u 0 = (.slice a1 R.length c1) := hf 0 (by simp)
      have f2 : u 2 = .agg (tokL T1).toArray := hf 2 (by simp)
      have f3 : u 3 = .int .i64 0 := hf 3 (by simp)
      have f4 : u 4 = .bool true := hf 4 (by simp)
      have f5 : u 5 = (.bool true) := hf 5 (by simp)
      have f6 : u 6 = (.slice a1 R.length c1) := hf 6 (by simp)
      have f8 : u 8 = .agg (tokL T1).toArray := hf 8 (by simp)
      have f9 : u 9 = .int .i64 193 := hf 9 (by simp)
      have f10 : u 10 = .bool true := hf 10 (by simp)
      have f11 : u 11 = .bool true := hf 11 (by simp)
      have f12 : u 12 = (.bool true) := hf 12 (by simp)
      have f13 : u 13 = (.int .i64 0) := hf 13 (by simp)
      have f14 : u 14 = .bool true := hf 14 (by simp)
      have f15 : u 15 = .bool true := hf 15 (by simp)
      have f16 : u 16 = (.bool true) := hf 16 (by simp)
      have f17 : u 17 = (.slice a5 RR.length c5) := hf 17 (by simp)
      have f19 : u 19 = .agg (tokL T1).toArray := hf 19 (by simp)
      have f20 : u 20 = .int .i64 192 := hf 20 (by simp)
      have f21 : u 21 = .bool true := hf 21 (by simp)
      simp only [resOf, spec, RSpec.resAt, z0, z1, z2, z3, z4, z5, z6, z7, ptrBlk] at S ⊢
      simp only [f0, f2, f3, f4, f5, f6, f8, f9, f10, f11, f12, f13, f14, f15, f16, f17, f19, f20, f21]
      simp only [does]
      go_simp
      try first | exact S | exact ⟨vv, S⟩ | exact vv
    · clear hi
      refine step_of rfl rfl rfl ?_
      intro u G w hf S
      have f0 : u 0 = (.slice a1 R.length c1) := hf 0 (by simp)
      have f2 : u 2 = .agg (tokL T1).toArray := hf 2 (by simp)
      have f3 : u 3 = .int .i64 0 := hf 3 (by simp)
      have f4 : u 4 = .bool true := hf 4 (by simp)
      have f5 : u 5 = (.bool true) := hf 5 (by simp)
      have f6 : u 6 = (.slice a1 R.length c1) := hf 6 (by simp)
      have f8 : u 8 = .agg (tokL T1).toArray := hf 8 (by simp)
      have f9 : u 9 = .int .i64 193 := hf 9 (by simp)
      have f10 : u 10 = .bool true := hf 10 (by simp)
      have f11 : u 11 = .bool true := hf 11 (by simp)
      have f12 : u 12 = (.bool true) := hf 12 (by simp)
      have f13 : u 13 = (.int .i64 0) := hf 13 (by simp)
      have f14 : u 14 = .bool true := hf 14 (by simp)
      have f15 : u 15 = .bool true := hf 15 (by simp)
      have f16 : u 16 = (.bool true) := hf 16 (by simp)
      have f17 : u 17 = (.slice a5 RR.length c5) := hf 17 (by simp)
      have f19 : u 19 = .agg (tokL T1).toArray := hf 19 (by simp)
      have f20 : u 20 = .int .i64 192 := hf 20 (by simp)
      have f21 : u 21 = .bool true := hf 21 (by simp)
      have f22 : u 22 = .bool true := hf 22 (by simp)
      simp only [resOf, spec, RSpec.resAt, z0, z1, z2, z3, z4, z5, z6, z7, ptrBlk] at S ⊢
      simp only [f0, f2, f3, f4, f5, f6, f8, f9, f10, f11, f12, f13, f14, f15, f16, f17, f19, f20, f21, f22]
      simp only [does]
      go_simp
      try first | exact S | exact ⟨vv, S⟩ | exact vv
    · clear hi
      refine step_of_g rfl rfl ?_
      intro u G w hf S
      have f0 : u 0 = (.slice a1 R.length c1) := hf 0 (by simp)
      have f2 : u 2 = .agg (tokL T1).toArray := hf 2 (by simp)
      have f3 : u 3 = .int .i64 0 := hf 3 (by simp)
      have f4 : u 4 = .bool true := hf 4 (by simp)
      have f5 : u 5 = (.bool true) := hf 5 (by simp)
      have f6 : u 6 = (.slice a1 R.length c1) := hf 6 (by simp)
      have f8 : u 8 = .agg (tokL T1).toArray := hf 8 (by simp)
      have f9 : u 9 = .int .i64 193 := hf 9 (by simp)
      have f10 : u 10 = .bool true := hf 10 (by simp)
      have f11 : u 11 = .bool true := hf 11 (by simp)
      have f12 : u 12 = (.bool true) := hf 12 (by simp)
      have f13 : u 13 = (.int .i64 0) := hf 13 (by simp)
      have f14 : u 14 = .bool true := hf 14 (by simp)
      have f15 : u 15 = .bool true := hf 15 (by simp)
      have f16 : u 16 = (.bool true) := hf 16 (by simp)
      have f17 : u 17 = (.slice a5 RR.length c5) := hf 17 (by simp)
      have f19 : u 19 = .agg (tokL T1).toArray := hf 19 (by simp)
      have f20 : u 20 = .int .i64 192 := hf 20 (by simp)
      have f21 : u 21 = .bool true := hf 21 (by simp)
      have f22 : u 22 = .bool true := hf 22 (by simp)
      have f23 : u 23 = (.bool true) := hf 23 (by simp)
      simp only [resOf, spec, RSpec.resAt, z0, z1, z2, z3, z4, z5, z6, z7, ptrBlk] at S ⊢
      simp only [f0, f2, f3, f4, f5, f6, f8, f9, f10, f11, f12, f13, f14, f15, f16, f17, f19, f20, f21, f22, f23]
      refine ⟨rfl, ?_⟩
      refine does_fn (args := [(.int .u8 1), (.int .u8 4)]) Tryd.func27 (by kernel_rfl) (by kernel_rfl) (P8.out w (S.pt HP.out)) rfl ?_
      rintro e w1 ⟨rfl, T⟩
      exact ⟨_, rfl, rfl, S.call T⟩
    · clear hi
      refine step_of rfl rfl rfl ?_
      intro u G w hf S
      have f0 : u 0 = (.slice a1 R.length c1) := hf 0 (by simp)
      have f2 : u 2 = .agg (tokL T1).toArray := hf 2 (by simp)
      have f3 : u 3 = .int .i64 0 := hf 3 (by simp)
      have f4 : u 4 = .bool true := hf 4 (by simp)
      have f5 : u 5 = (.bool true) := hf 5 (by simp)
      have f6 : u 6 = (.slice a1 R.length c1) := hf 6 (by simp)
      have f8 : u 8 = .agg (tokL T1).toArray := hf 8 (by simp)
      have f9 : u 9 = .int .i64 193 := hf 9 (by simp)
      have f10 : u 10 = .bool true := hf 10 (by simp)
      have f11 : u 11 = .bool true := hf 11 (by simp)
      have f12 : u 12 = (.bool true) := hf 12 (by simp)
      have f13 : u 13 = (.int .i64 0) := hf 13 (by simp)
      have f14 : u 14 = .bool true := hf 14 (by simp)
      have f15 : u 15 = .bool true := hf 15 (by simp)
      have f16 : u 16 = (.bool true) := hf 16 (by simp)
      have f17 : u 17 = (.slice a5 RR.length c5) := hf 17 (by simp)
      have f19 : u 19 = .agg (tokL T1).toArray := hf 19 (by simp)
      have f20 : u 20 = .int .i64 192 := hf 20 (by simp)
      have f21 : u 21 = .bool true := hf 21 (by simp)
      have f22 : u 22 = .bool true := hf 22 (by simp)
      have f23 : u 23 = (.bool true) := hf 23 (by simp)
      have f24 : u 24 = .bool true := hf 24 (by simp)
      simp only [resOf, spec, RSpec.resAt, z0, z1, z2, z3, z4, z5, z6, z7, ptrBlk] at S ⊢
      simp only [f0, f2, f3, f4, f5, f6, f8, f9, f10, f11, f12, f13, f14, f15, f16, f17, f19, f20, f21, f22, f23, f24]
      simp only [does]
      go_simp
      try first | exact S | exact ⟨vv, S⟩ | exact vv
    · clear hi
      refine step_of rfl rfl rfl ?_
      intro u G w hf S
      have f0 : u 0 = (.slice a1 R.length c1) := hf 0 (by simp)
      have f2 : u 2 = .agg (tokL T1).toArray := hf 2 (by simp)
      have f3 : u 3 = .int .i64 0 := hf 3 (by simp)
      have f4 : u 4 = .bool true := hf 4 (by simp)
      have f5 : u 5 = (.bool true) := hf 5 (by simp)
      have f6 : u 6 = (.slice a1 R.length c1) := hf 6 (by simp)
      have f8 : u 8 = .agg (tokL T1).toArray := hf 8 (by simp)
      have f9 : u 9 = .int .i64 193 := hf 9 (by simp)
      have f10 : u 10 = .bool true := hf 10 (by simp)
      have f11 : u 11 = .bool true := hf 11 (by simp)
      have f12 : u 12 = (.bool true) := hf 12 (by simp)
      have f13 : u 13 = (.int .i64 0) := hf 13 (by simp)
      have f14 : u 14 = .bool true := hf 14 (by simp)
      have f15 : u 15 = .bool true := hf 15 (by simp)
      have f16 : u 16 = (.bool true) := hf 16 (by simp)
      have f17 : u 17 = (.slice a5 RR.length c5) := hf 17 (by simp)
      have f19 : u 19 = .agg (tokL T1).toArray := hf 19 (by simp)
      have f20 : u 20 = .int .i64 192 := hf 20 (by simp)
      have f21 : u 21 = .bool true := hf 21 (by simp)
      have f22 : u 22 = .bool true := hf 22 (by simp)
      have f23 : u 23 = (.bool true) := hf 23 (by simp)
      have f24 : u 24 = .bool true := hf 24 (by simp)
      have f25 : u 25 = .bool true := hf 25 (by simp)
      simp only [resOf, spec, RSpec.resAt, z0, z1, z2, z3, z4, z5, z6, z7, ptrBlk] at S ⊢
      simp only [f0, f2, f3, f4, f5, f6, f8, f9, f10, f11, f12, f13, f14, f15, f16, f17, f19, f20, f21, f22, f23, f24, f25]
      simp only [does]
      go_simp
      try first | exact S | exact ⟨vv, S⟩ | exact vv
    · clear hi
      refine step_of_g rfl rfl ?_
      intro u G w hf S
      have f0 : u 0 = (.slice a1 R.length c1) := hf 0 (by simp)
      have f2 : u 2 = .agg (tokL T1).toArray := hf 2 (by simp)
      have f3 : u 3 = .int .i64 0 := hf 3 (by simp)
      have f4 : u 4 = .bool true := hf 4 (by simp)
      have f5 : u 5 = (.bool true) := hf 5 (by simp)
      have f6 : u 6 = (.slice a1 R.length c1) := hf 6 (by simp)
      have f8 : u 8 = .agg (tokL T1).toArray := hf 8 (by simp)
      have f9 : u 9 = .int .i64 193 := hf 9 (by simp)
      have f10 : u 10 = .bool true := hf 10 (by simp)
      have f11 : u 11 = .bool true := hf 11 (by simp)
      have f12 : u 12 = (.bool true) := hf 12 (by simp)
      have f13 : u 13 = (.int .i64 0) := hf 13 (by simp)
      have f14 : u 14 = .bool true := hf 14 (by simp)
      have f15 : u 15 = .bool true := hf 15 (by simp)
      have f16 : u 16 = (.bool true) := hf 16 (by simp)
      have f17 : u 17 = (.slice a5 RR.length c5) := hf 17 (by simp)
      have f19 : u 19 = .agg (tokL T1).toArray := hf 19 (by simp)
      have f20 : u 20 = .int .i64 192 := hf 20 (by simp)
      have f21 : u 21 = .bool true := hf 21 (by simp)
      have f22 : u 22 = .bool true := hf 22 (by simp)
      have f23 : u 23 = (.bool true) := hf 23 (by simp)
      have f24 : u 24 = .bool true := hf 24 (by simp)
      have f25 : u 25 = .bool true := hf 25 (by simp)
      have f26 : u 26 = (.bool true) := hf 26 (by simp)
      simp only [resOf, spec, RSpec.resAt, z0, z1, z2, z3, z4, z5, z6, z7, ptrBlk] at S ⊢
      simp only [f0, f2, f3, f4, f5, f6, f8, f9, f10, f11, f12, f13, f14, f15, f16, f17, f19, f20, f21, f22, f23, f24, f25, f26]
      refine ⟨rfl, ?_⟩
      refine does_fn (args := [(.int .u8 1), (.int .u8 1)]) Tryd.func27 (by kernel_rfl) (by kernel_rfl) (P9.out w (S.pt HP.out)) rfl ?_
      rintro e w1 ⟨rfl, T⟩
      exact ⟨_, rfl, rfl, S.call T⟩
    · clear hi
      refine step_of_g rfl rfl ?_
      intro u G w hf S
      have f0 : u 0 = (.slice a1 R.length c1) := hf 0 (by simp)
      have f2 : u 2 = .agg (tokL T1).toArray := hf 2 (by simp)
      have f3 : u 3 = .int .i64 0 := hf 3 (by simp)
      have f4 : u 4 = .bool true := hf 4 (by simp)
      have f5 : u 5 = (.bool true) := hf 5 (by simp)
      have f6 : u 6 = (.slice a1 R.length c1) := hf 6 (by simp)
      have f8 : u 8 = .agg (tokL T1).toArray := hf 8 (by simp)
      have f9 : u 9 = .int .i64 193 := hf 9 (by simp)
      have f10 : u 10 = .bool true := hf 10 (by simp)
      have f11 : u 11 = .bool true := hf 11 (by simp)
      have f12 : u 12 = (.bool true) := hf 12 (by simp)
      have f13 : u 13 = (.int .i64 0) := hf 13 (by simp)
      have f14 : u 14 = .bool true := hf 14 (by simp)
      have f15 : u 15 = .bool true := hf 15 (by simp)
      have f16 : u 16 = (.bool true) := hf 16 (by simp)
      have f17 : u 17 = (.slice a5 RR.length c5) := hf 17 (by simp)
      have f19 : u 19 = .agg (tokL T1).toArray := hf 19 (by simp)
      have f20 : u 20 = .int .i64 192 := hf 20 (by simp)
      have f21 : u 21 = .bool true := hf 21 (by simp)
      have f22 : u 22 = .bool true := hf 22 (by simp)
      have f23 : u 23 = (.bool true) := hf 23 (by simp)
      have f24 : u 24 = .bool true := hf 24 (by simp)
      have f25 : u 25 = .bool true := hf 25 (by simp)
      have f26 : u 26 = (.bool true) := hf 26 (by simp)
      have f27 : u 27 = .bool false := hf 27 (by simp)
      simp only [resOf, spec, RSpec.resAt, z0, z1, z2, z3, z4, z5, z6, z7, ptrBlk] at S ⊢
      simp only [f0, f2, f3, f4, f5, f6, f8, f9, f10, f11, f12, f13, f14, f15, f16, f17, f19, f20, f21, f22, f23, f24, f25, f26, f27]
      refine ⟨rfl, ?_⟩
      simp only [does]
      go_simp
      try first | exact S | exact ⟨vv, S⟩ | exact vv
    · clear hi
      refine step_of rfl rfl rfl ?_
      intro u G w hf S
      have f0 : u 0 = (.slice a1 R.length c1) := hf 0 (by simp)
      have f2 : u 2 = .agg (tokL T1).toArray := hf 2 (by simp)
      have f3 : u 3 = .int .i64 0 := hf 3 (by simp)
      have f4 : u 4 = .bool true := hf 4 (by simp)
      have f5 : u 5 = (.bool true) := hf 5 (by simp)
      have f6 : u 6 = (.slice a1 R.length c1) := hf 6 (by simp)
      have f8 : u 8 = .agg (tokL T1).toArray := hf 8 (by simp)
      have f9 : u 9 = .int .i64 193 := hf 9 (by simp)
      have f10 : u 10 = .bool true := hf 10 (by simp)
      have f11 : u 11 = .bool true := hf 11 (by simp)
      have f12 : u 12 = (.bool true) := hf 12 (by simp)
      have f13 : u 13 = (.int .i64 0) := hf 13 (by simp)
      have f14 : u 14 = .bool true := hf 14 (by simp)
      have f15 : u 15 = .bool true := hf 15 (by simp)
      have f16 : u 16 = (.bool true) := hf 16 (by simp)
      have f17 : u 17 = (.slice a5 RR.length c5) := hf 17 (by simp)
      have f19 : u 19 = .agg (tokL T1).toArray := hf 19 (by simp)
      have f20 : u 20 = .int .i64 192 := hf 20 (by simp)
      have f21 : u 21 = .bool true := hf 21 (by simp)
      have f22 : u 22 = .bool true := hf 22 (by simp)
      have f23 : u 23 = (.bool true) := hf 23 (by simp)
      have f24 : u 24 = .bool true := hf 24 (by simp)
      have f25 : u 25 = .bool true := hf 25 (by simp)
      have f26 : u 26 = (.bool true) := hf 26 (by simp)
      have f27 : u 27 = .bool false := hf 27 (by simp)
      have f28 : u 28 = .bool true := hf 28 (by simp)
      simp only [resOf, spec, RSpec.resAt, z0, z1, z2, z3, z4, z5, z6, z7, ptrBlk] at S ⊢
      simp only [f0, f2, f3, f4, f5, f6, f8, f9, f10, f11, f12, f13, f14, f15, f16, f17, f19, f20, f21, f22, f23, f24, f25, f26, f27, f28]
      simp only [does]
      go_simp
      try first | exact S | exact ⟨vv, S⟩ | exact vv
    · clear hi
      refine step_of rfl rfl rfl ?_
      intro u G w hf S
      have f0 : u 0 = (.slice a1 R.length c1) := hf 0 (by simp)
      have f2 : u 2 = .agg (tokL T1).toArray := hf 2 (by simp)
      have f3 : u 3 = .int .i64 0 := hf 3 (by simp)
      have f4 : u 4 = .bool true := hf 4 (by simp)
      have f5 : u 5 = (.bool true) := hf 5 (by simp)
      have f6 : u 6 = (.slice a1 R.length c1) := hf 6 (by simp)
      have f8 : u 8 = .agg (tokL T1).toArray := hf 8 (by simp)
      have f9 : u 9 = .int .i64 193 := hf 9 (by simp)
      have f10 : u 10 = .bool true := hf 10 (by simp)
      have f11 : u 11 = .bool true := hf 11 (by simp)
      have f12 : u 12 = (.bool true) := hf 12 (by simp)
      have f13 : u 13 = (.int .i64 0) := hf 13 (by simp)
      have f14 : u 14 = .bool true := hf 14 (by simp)
      have f15 : u 15 = .bool true := hf 15 (by simp)
      have f16 : u 16 = (.bool true) := hf 16 (by simp)
      have f17 : u 17 = (.slice a5 RR.length c5) := hf 17 (by simp)
      have f19 : u 19 = .agg (tokL T1).toArray := hf 19 (by simp)
      have f20 : u 20 = .int .i64 192 := hf 20 (by simp)
      have f21 : u 21 = .bool true := hf 21 (by simp)
      have f22 : u 22 = .bool true := hf 22 (by simp)
      have f23 : u 23 = (.bool true) := hf 23 (by simp)
      have f24 : u 24 = .bool true := hf 24 (by simp)
      have f25 : u 25 = .bool true := hf 25 (by simp)
      have f26 : u 26 = (.bool true) := hf 26 (by simp)
      have f27 : u 27 = .bool false := hf 27 (by simp)
      have f28 : u 28 = .bool true := hf 28 (by simp)
      have f29 : u 29 = .bool true := hf 29 (by simp)
      simp only [resOf, spec, RSpec.resAt, z0, z1, z2, z3, z4, z5, z6, z7, ptrBlk] at S ⊢
      simp only [f0, f2, f3, f4, f5, f6, f8, f9, f10, f11, f12, f13, f14, f15, f16, f17, f19, f20, f21, f22, f23, f24, f25, f26, f27, f28, f29]
      simp only [does]
      go_simp
      try first | exact S | exact ⟨vv, S⟩ | exact vv
  case fin2 =>
    intro u w hf S
    have f0 : u 0 = (.slice a1 R.length c1) := hf 0 (by simp)
    have f2 : u 2 = .agg (tokL T1).toArray := hf 2 (by simp)
    have f3 : u 3 = .int .i64 0 := hf 3 (by simp)
    have f4 : u 4 = .bool true := hf 4 (by simp)
    have f5 : u 5 = (.bool true) := hf 5 (by simp)
    have f6 : u 6 = (.slice a1 R.length c1) := hf 6 (by simp)
    have f8 : u 8 = .agg (tokL T1).toArray := hf 8 (by simp)
    have f9 : u 9 = .int .i64 193 := hf 9 (by simp)
    have f10 : u 10 = .bool true := hf 10 (by simp)
    have f11 : u 11 = .bool true := hf 11 (by simp)
    have f12 : u 12 = (.bool true) := hf 12 (by simp)
    have f13 : u 13 = (.int .i64 0) := hf 13 (by simp)
    have f14 : u 14 = .bool true := hf 14 (by simp)
    have f15 : u 15 = .bool true := hf 15 (by simp)
    have f16 : u 16 = (.bool true) := hf 16 (by simp)
    have f17 : u 17 = (.slice a5 RR.length c5) := hf 17 (by simp)
    have f19 : u 19 = .agg (tokL T1).toArray := hf 19 (by simp)
    have f20 : u 20 = .int .i64 192 := hf 20 (by simp)
    have f21 : u 21 = .bool true := hf 21 (by simp)
    have f22 : u 22 = .bool true := hf 22 (by simp)
    have f23 : u 23 = (.bool true) := hf 23 (by simp)
    have f24 : u 24 = .bool true := hf 24 (by simp)
    have f25 : u 25 = .bool true := hf 25 (by simp)
    have f26 : u 26 = (.bool true) := hf 26 (by simp)
    have f27 : u 27 = .bool false := hf 27 (by simp)
    have f28 : u 28 = .bool true := hf 28 (by simp)
    have f29 : u 29 = .bool true := hf 29 (by simp)
    have f30 : u 30 = (.bool true) := hf 30 (by simp)
    simp only [resOf, spec, RSpec.resAt, z0, z1, z2, z3, z4, z5, z6, z7, ptrBlk] at S
    clear hf
    simp only [List.length_cons, List.length_nil, Nat.zero_add, Nat.reduceAdd, List.drop_succ_cons, List.drop_zero, f0, f2, f3, f4, f5, f6, f8, f9, f10, f11, f12, f13, f14, f15, f16, f17, f19, f20, f21, f22, f23, f24, f25, f26, f27, f28, f29, f30]
    try simp only [f0, f2, f3, f4, f5, f6, f8, f9, f10, f11, f12, f13, f14, f15, f16, f17, f19, f20, f21, f22, f23, f24, f25, f26, f27, f28, f29, f30, ptrBlk] at S
    clear f0 f2 f3 f4 f5 f6 f8 f9 f10 f11 f12 f13 f14 f15 f16 f17 f19 f20 f21 f22 f23 f24 f25 f26 f27 f28 f29 f30
    generalize u 1 = v33 at S ⊢
    generalize u 7 = v39 at S ⊢
    generalize u 18 = v50 at S ⊢
    go_wp2_with (first | ((with_reducible show wpList _ _ _ (⟨some 2, .alloc 27, _, _, _, _⟩ :: _) _ _); refine step_alloc (dst := some 2) S 27 (.agg ((tokL tokZ).toArray)) ((tokL tokZ).toArray) (by kernel_rfl) rfl gw ?_; clear S; intro g2 w S) | ((with_reducible show wpList _ _ _ (⟨none, .store 27 (.tmp 2) (.tmp 10), _, _, _, _⟩ :: _) _ _); refine step_store S 27 (.tmp 2) (.tmp 10) _ _ rfl rfl _ _ pk 36 (by kernel_rfl) (by first | rfl | (first | rfl | assumption | (exact Hid.out (by assumption)) | (exact tokL_size _) | (rw [arr8_size]; first | rfl | assumption | (exact Hid.out (by assumption)) | exact tokL_size _ | exact List.length_replicate ..) | (simp [arr8_size]; done))) (by first | rfl | (first | rfl | assumption | (exact Hid.out (by assumption)) | (exact tokL_size _) | (rw [arr8_size]; first | rfl | assumption | (exact Hid.out (by assumption)) | exact tokL_size _ | exact List.length_replicate ..) | (simp [arr8_size]; done))) on1 gw ?_; clear S; intro w S) | ((with_reducible show wpList _ _ _ (⟨_, .slice 22 _ _ _ _, _, _, _, _⟩ :: _) _ _); refine step_cutH 22 5 1 _ _ _ _ _ _ _ 14 rfl rfl (by first | rfl | omega) (by first | (first | omega | assumption | (exact Hid.out (by assumption)) | (simp only [List.length_append, List.length_cons, List.length_nil]; omega)) | decide) Tryd.underlying22 (by kernel_rfl) gw ?_) | ((with_reducible show wpList _ _ _ (⟨_, .load 27 _, _, _, _, _⟩ :: _) _ _); first | (refine step_load S 27 _ _ rfl _ _ _ pk _ Tryd.underlying27 rfl 36 (by kernel_rfl) (by first | rfl | (first | rfl | assumption | (exact Hid.out (by assumption)) | (exact tokL_size _) | (rw [arr8_size]; first | rfl | assumption | (exact Hid.out (by assumption)) | exact tokL_size _ | exact List.length_replicate ..) | (simp [arr8_size]; done))) gw ?_) | (refine step_loadO 27 _ _ rfl _ _ _ (S.old_heap (Hid.out (by assumption))) _ Tryd.underlying27 rfl 36 (by kernel_rfl) (by first | rfl | (first | rfl | assumption | (exact Hid.out (by assumption)) | (exact tokL_size _) | (rw [arr8_size]; first | rfl | assumption | (exact Hid.out (by assumption)) | exact tokL_size _ | exact List.length_replicate ..) | (simp [arr8_size]; done))) gw ?_) | (refine step_loadR 27 _ _ _ rfl _ (S.old_range hy) _ Tryd.underlying27 rfl 36 (by kernel_rfl) (by first | rfl | (first | rfl | assumption | (exact Hid.out (by assumption)) | (exact tokL_size _) | (rw [arr8_size]; first | rfl | assumption | (exact Hid.out (by assumption)) | exact tokL_size _ | exact List.length_replicate ..) | (simp [arr8_size]; done))) _ rfl gw ?_)) | fail)
    go_ret
    exact ⟨rfl, S.nil⟩
end Go.Proofs.YtioonimpobcglaaDoor
