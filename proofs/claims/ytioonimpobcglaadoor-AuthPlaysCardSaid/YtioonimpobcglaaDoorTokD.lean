/- Tokens: what Decode of the program and of the specification return. No condition. -/
import Derived.Test.YtioonimpobcglaaDoorBd
import Derived.Test.YtioonimpobcglaaDoorBe
set_option linter.unusedSimpArgs false
set_option linter.unusedVariables false
namespace Go.Proofs.YtioonimpobcglaaDoor
open Go.RowKit

theorem u64_val (ys : List UInt8) (h : ys.length ≤ 8) : (val ys : Int) = ((UInt64.ofNat (val ys)).toNat : Int) := by
  have h1 := val_lt ys
  have h2 : 256 ^ ys.length ≤ 256 ^ 8 := Nat.pow_le_pow_right (by decide) h
  rw [UInt64.toNat_ofNat', Nat.mod_eq_of_lt (by omega)]

theorem u32_val (ys : List UInt8) (h : ys.length ≤ 4) : (val ys : Int) = ((UInt32.ofNat (val ys)).toNat : Int) := by
  have h1 := val_lt ys
  have h2 : 256 ^ ys.length ≤ 256 ^ 4 := Nat.pow_le_pow_right (by decide) h
  rw [UInt32.toNat_ofNat', Nat.mod_eq_of_lt (by omega)]

/-- The number in n bytes from an index on. -/
theorem takeAt (v : Value) (xs : List UInt8) (p s : Nat) (pi si ni : Int) (hpi : pi = (p : Int)) (hsi : si = (s : Int)) (hni : ni = ((p + s : Nat) : Int)) (w : World) (hv : Bs w v xs) (h1 : 1 ≤ s) (h8 : s ≤ 8) (hl : p + s ≤ xs.length) (hx : xs.length ≤ 8192) :
    Calls Tryd.prog 47 #[v, .int .i64 pi, .int .i64 si] w fun e w' => e = .returned (.tuple #[.int .u64 ((val ((xs.drop p).take s) : Nat) : Int), .int .i64 ni, .int .i64 0]) ∧ Has w w' [] := by
  subst hpi
  subst hsi
  subst hni
  have := takeUint_s v xs p s w hv (by omega) (by omega) (by omega)
  have e1 : takeE xs.length p s = 0 := by
    unfold takeE
    rw [if_neg (by omega), if_neg (by omega)]
  have e2 : tuE xs.length p s = 0 := by unfold tuE; rw [if_neg (by omega), e1]
  have e3 : tuN xs.length p s = ((p + s : Nat) : Int) := by unfold tuN takeN; rw [if_neg (by omega), if_pos e1]; omega
  have e4 : tuV xs p s = val ((xs.drop p).take s) := by
    unfold tuV takeR
    rw [if_neg (by omega), if_pos e1, Int.toNat_natCast, Int.toNat_natCast]
  rwa [e2, e3, e4] at this

set_option maxRecDepth 100000 in
set_option maxHeartbeats 4000000 in
theorem dec_s (v : Value) (xs : List UInt8) (w0 : World) (h : Bs w0 v xs) : Calls Tryd.prog 18 #[v] w0 fun e w' => e = .returned (.tuple #[.agg (tokL (decT xs)).toArray, .int .i64 (decE xs)]) ∧ Has w0 w' [] := by
  have S := Has.start w0
  obtain ⟨a0, c0, rfl, k1, k2⟩ := Sl.shape h
  unfold maxLen at k2
  by_cases hl : xs.length = 46
  · rw [show decT xs = deT xs hl from dif_pos hl, show decE xs = 0 from if_pos hl]
    rw [hl] at h k1 ⊢
    have p1 := fun w hv => takeAt (.slice a0 46 c0) xs 2 8 2 8 10 rfl rfl rfl w hv (by decide) (by decide) (by omega) (by omega)
    have p2 := fun w hv => takeAt (.slice a0 46 c0) xs 10 4 10 4 14 rfl rfl rfl w hv (by decide) (by decide) (by omega) (by omega)
    obtain ⟨t, ht⟩ : ∃ t, t = deT xs hl := ⟨_, rfl⟩
    rw [← ht]
    have e2 : ((val ((xs.drop 2).take 8) : Nat) : Int) = (t.expiry.toNat : Int) := by rw [ht]; exact u64_val _ (by simp; omega)
    have e3 : ((val ((xs.drop 10).take 4) : Nat) : Int) = (t.serial.toNat : Int) := by rw [ht]; exact u32_val _ (by simp; omega)
    rw [e2] at p1
    rw [e3] at p2
    have hb : Sl w0 1 (.slice a0 46 c0) 46 (xs.map by8) := by unfold Bs at h; rwa [hl] at h
    obtain ⟨b, off, rfl, hc⟩ := hb.atA (by decide)
    have hc0 := hc 0 (.int .u8 (t.tenant.toNat : Int)) (by rw [List.getElem?_map, List.getElem?_eq_getElem (by omega), ht]; rfl)
    have hc1 := hc 1 (.int .u8 (t.role.toNat : Int)) (by rw [List.getElem?_map, List.getElem?_eq_getElem (by omega), ht]; rfl)
    rw [Nat.add_zero] at hc0
    have hr : w0.rangeAt b (off + 14) (t.tag.map by8) := by
      intro j v hj
      rw [Nat.add_assoc]
      refine hc (14 + j) v ?_
      rw [← hj, ht]
      show (xs.map by8)[14 + j]? = ((xs.drop 14).map by8)[j]?
      rw [List.getElem?_map, List.getElem?_map, List.getElem?_drop]
    have hs2 : (t.serial.toNat : Int) < 4294967296 := by have := t.serial.toNat_lt; omega
    have hcut : cutA (some ⟨b, off, none⟩) c0 14 1 = some ⟨b, off + 14, none⟩ := by
      unfold cutA
      rw [if_neg (by omega)]
      simp [Addr.add]
    have H := Lib.hid h; have P1 := Lib.hid p1; have P2 := Lib.hid p2; have HC0 := Lib.hid hc0; have HC1 := Lib.hid hc1; have HR := Lib.hid hr; have HCUT := Lib.hid hcut; clear h p1 p2 hc0 hc1 hr hcut
    clear ht e2 e3 hb hc
    go_enter Tryd.func18, Tryd.ntmps18
    go_wp2_with (first | ((with_reducible show wpList _ _ _ (⟨some 2, .alloc 27, _, _, _, _⟩ :: _) _ _); refine step_alloc (dst := some 2) S 27 (.agg ((tokL tokZ).toArray)) ((tokL tokZ).toArray) (by kernel_rfl) rfl rfl ?_; clear S; intro g2 w S) | ((with_reducible show wpList _ _ _ (⟨some 12, .build 27 _, _, _, _, _⟩ :: _) _ _); refine step_buildZ 27 (.agg ((tokL tokZ).toArray)) (fun w => by kernel_rfl) rfl ?_) | ((with_reducible show wpList _ _ _ (⟨none, .store 27 (.tmp 2) (.tmp 12), _, _, _, _⟩ :: _) _ _); refine step_store S 27 (.tmp 2) (.tmp 12) _ _ rfl rfl _ _ pk 36 (by kernel_rfl) (by first | rfl | (first | rfl | assumption | (exact Hid.out (by assumption)) | (exact tokL_size _) | (rw [arr8_size]; first | rfl | assumption | (exact Hid.out (by assumption)) | exact tokL_size _ | exact List.length_replicate ..) | (simp [arr8_size]; done))) (by first | rfl | (first | rfl | assumption | (exact Hid.out (by assumption)) | (exact tokL_size _) | (rw [arr8_size]; first | rfl | assumption | (exact Hid.out (by assumption)) | exact tokL_size _ | exact List.length_replicate ..) | (simp [arr8_size]; done))) on1 rfl ?_; clear S; intro w S) | (go_at_call 47; (with_reducible refine (P1.out _ (by first | assumption | exact S.oldB (Hid.out (by assumption)) | exact Bs.mk0 _ _ | exact S.bs pk | exact S.bsr pk)).mono ?_); rintro e w1 ⟨rfl, T⟩; replace S := S.call T; clear T; (try simp only [List.nil_append, List.cons_append] at S)) | (go_at_call 47; (with_reducible refine (P2.out _ (by first | assumption | exact S.oldB (Hid.out (by assumption)) | exact Bs.mk0 _ _ | exact S.bs pk | exact S.bsr pk)).mono ?_); rintro e w1 ⟨rfl, T⟩; replace S := S.call T; clear T; (try simp only [List.nil_append, List.cons_append] at S)) | ((with_reducible show wpList _ _ _ (⟨_, .load 5 _, _, _, _, _⟩ :: _) _ _); first | (refine step_load1 5 _ _ _ rfl (S.cell pk co) _ Tryd.underlying5 rfl rfl ?_) | (refine step_load1 5 _ _ _ rfl (S.row_cell pk _ _ hyr) _ Tryd.underlying5 rfl rfl ?_) | (refine step_load1 5 _ _ _ rfl (S.row_cellS pk _ _ hy) _ Tryd.underlying5 rfl rfl ?_) | (refine step_load1 5 _ _ _ rfl (S.old_cell hy) _ Tryd.underlying5 rfl rfl ?_)) | ((with_reducible show wpList _ _ _ (⟨_, .slice 22 _ _ _ _, _, _, _, _⟩ :: _) _ _); refine step_cutL 22 5 1 _ _ _ _ _ _ _ _ rfl rfl (by first | rfl | omega) (by first | (first | omega | assumption | (exact Hid.out (by assumption)) | (simp only [List.length_append, List.length_cons, List.length_nil]; omega)) | decide) Tryd.underlying22 (by kernel_rfl) rfl ?_) | ((with_reducible show wpList _ _ _ (⟨_, .load 25 _, _, _, _, _⟩ :: _) _ _); first | (refine step_load S 25 _ _ rfl _ _ _ pk _ Tryd.underlying25 rfl 32 (by kernel_rfl) (by first | rfl | (first | rfl | assumption | (exact Hid.out (by assumption)) | (exact tokL_size _) | (rw [arr8_size]; first | rfl | assumption | (exact Hid.out (by assumption)) | exact tokL_size _ | exact List.length_replicate ..) | (simp [arr8_size]; done))) rfl ?_) | (refine step_loadO 25 _ _ rfl _ _ _ (S.old_heap (Hid.out (by assumption))) _ Tryd.underlying25 rfl 32 (by kernel_rfl) (by first | rfl | (first | rfl | assumption | (exact Hid.out (by assumption)) | (exact tokL_size _) | (rw [arr8_size]; first | rfl | assumption | (exact Hid.out (by assumption)) | exact tokL_size _ | exact List.length_replicate ..) | (simp [arr8_size]; done))) rfl ?_) | (refine step_loadR 25 _ _ _ rfl _ (S.old_range hy) _ Tryd.underlying25 rfl 32 (by kernel_rfl) (by first | rfl | (first | rfl | assumption | (exact Hid.out (by assumption)) | (exact tokL_size _) | (rw [arr8_size]; first | rfl | assumption | (exact Hid.out (by assumption)) | exact tokL_size _ | exact List.length_replicate ..) | (simp [arr8_size]; done))) _ rfl rfl ?_)) | ((with_reducible show wpList _ _ _ (⟨none, .store 27 (.tmp 2) (.tmp 40), _, _, _, _⟩ :: _) _ _); refine step_store S 27 (.tmp 2) (.tmp 40) _ _ rfl rfl _ _ pk 36 (by kernel_rfl) (by first | rfl | (first | rfl | assumption | (exact Hid.out (by assumption)) | (exact tokL_size _) | (rw [arr8_size]; first | rfl | assumption | (exact Hid.out (by assumption)) | exact tokL_size _ | exact List.length_replicate ..) | (simp [arr8_size]; done))) (by first | rfl | (first | rfl | assumption | (exact Hid.out (by assumption)) | (exact tokL_size _) | (rw [arr8_size]; first | rfl | assumption | (exact Hid.out (by assumption)) | exact tokL_size _ | exact List.length_replicate ..) | (simp [arr8_size]; done))) on1 rfl ?_; clear S; intro w S) | fail)
    refine wp_relyW (e1 := blk g2 (.cells (tokL t).toArray 27 (0, 0))) 15 (S.pick (r := blk g2 _) pk) [⟨[], [], [], fun _ v => v = (.slice (some ⟨b, off, none⟩) 46 c0), fun _ v => []⟩, ⟨[0], [], [], fun _ v => v = .pointer (some ⟨b, off, none⟩), fun _ v => []⟩, ⟨[0, 1], [], [], fun _ v => v = .int .u8 (t.tenant.toNat : Int), fun _ v => []⟩, ⟨[], [], [], fun _ v => v = (.slice (some ⟨b, off, none⟩) 46 c0), fun _ v => []⟩, ⟨[3], [], [], fun _ v => v = .pointer (some ⟨b, off + 1, none⟩), fun _ v => []⟩, ⟨[3, 4], [], [], fun _ v => v = .int .u8 (t.role.toNat : Int), fun _ v => []⟩, ⟨[], [], [], fun _ v => v = (.int .u64 (t.expiry.toNat : Int)), fun _ v => []⟩, ⟨[], [], [], fun _ v => v = (.int .u64 (t.serial.toNat : Int)), fun _ v => []⟩, ⟨[7], [], [], fun _ v => v = .int .u32 (t.serial.toNat : Int), fun _ v => []⟩, ⟨[], [], [], fun _ v => v = (.slice (some ⟨b, off, none⟩) 46 c0), fun _ v => []⟩, ⟨[], [], [], fun _ v => v = (.int .i64 14), fun _ v => []⟩, ⟨[9, 10], [], [], fun _ v => v = .slice (some ⟨b, off + 14, none⟩) 32 (c0 - 14), fun _ v => []⟩, ⟨[9, 10, 11], [], [], fun _ v => v = .pointer (some ⟨b, off + 14, none⟩), fun _ v => []⟩, ⟨[9, 10, 11, 12], [], [], fun _ v => v = .agg (arr8 t.tag), fun _ v => []⟩, ⟨[0, 1, 2, 3, 4, 5, 6, 7, 8, 9, 10, 11, 12, 13], [], [], fun _ v => v = .agg (tokL t).toArray, fun _ v => []⟩, ⟨[0, 1, 2, 3, 4, 5, 6, 7, 8, 9, 10, 11, 12, 13, 14], [], [], fun _ v => True, fun _ v => []⟩, ⟨[0, 1, 2, 3, 4, 5, 6, 7, 8, 9, 10, 11, 12, 13, 14, 15], [], [], fun _ v => v = (.int .i64 0), fun _ v => []⟩] ?A1 ?hA1 (by kernel_rfl) (by kernel_rfl) (by kernel_rfl) [0, 1, 2, 3, 4, 5, 6, 7, 8, 9, 10, 11, 12, 13, 14, 15, 16] (by kernel_rfl) (of_decide_eq_true rfl) ?hok1 ?fin1
    case hA1 => intro u; simp only [putAll, List.length_cons, List.length_nil, Nat.zero_add, Nat.reduceAdd, dstAt, List.getElem?_toArray, List.getElem?_cons_zero, List.getElem?_cons_succ, Option.bind_some, Act.put, List.setIfInBounds_toArray, List.set_cons_zero, List.set_cons_succ]; rfl
    case hok1 =>
      intro i hi
      obtain rfl | rfl | rfl | rfl | rfl | rfl | rfl | rfl | rfl | rfl | rfl | rfl | rfl | rfl | rfl | rfl | rfl : i = 0 ∨ i = 1 ∨ i = 2 ∨ i = 3 ∨ i = 4 ∨ i = 5 ∨ i = 6 ∨ i = 7 ∨ i = 8 ∨ i = 9 ∨ i = 10 ∨ i = 11 ∨ i = 12 ∨ i = 13 ∨ i = 14 ∨ i = 15 ∨ i = 16 := by simp only [List.length_cons, List.length_nil, Nat.zero_add, Nat.reduceAdd] at hi; omega
      · clear hi
        rw [if_neg (by decide)]; intro r0
        refine step_of rfl rfl rfl ?_
        intro u G w hf S
        simp only [resOf, spec, RSpec.resAt, z0, z1, z2, z3, z4, z5, z6, z7, ptrBlk] at S ⊢
        simp only [does]
        go_simp
        try first | exact S | exact ⟨vv, S⟩ | exact vv
      · clear hi
        rw [if_neg (by decide)]; intro r0
        refine step_of rfl rfl rfl ?_
        intro u G w hf S
        have f0 : u 0 = (.slice (some ⟨b, off, none⟩) 46 c0) := hf 0 (by simp)
        simp only [resOf, spec, RSpec.resAt, z0, z1, z2, z3, z4, z5, z6, z7, ptrBlk] at S ⊢
        simp only [f0]
        simp only [does]
        go_simp
        try first | exact S | exact ⟨vv, S⟩ | exact vv
      · clear hi
        rw [if_neg (by decide)]; intro r0
        refine step_of rfl rfl rfl ?_
        intro u G w hf S
        have f0 : u 0 = (.slice (some ⟨b, off, none⟩) 46 c0) := hf 0 (by simp)
        have f1 : u 1 = .pointer (some ⟨b, off, none⟩) := hf 1 (by simp)
        simp only [resOf, spec, RSpec.resAt, z0, z1, z2, z3, z4, z5, z6, z7, ptrBlk] at S ⊢
        simp only [f0, f1]
        refine does_load1 5 (.tmp 27) _ _ rfl (S.old_cell hy) _ Tryd.underlying5 rfl ?_; exact ⟨rfl, S⟩
      · clear hi
        rw [if_neg (by decide)]; intro r0
        refine step_of rfl rfl rfl ?_
        intro u G w hf S
        simp only [resOf, spec, RSpec.resAt, z0, z1, z2, z3, z4, z5, z6, z7, ptrBlk] at S ⊢
        simp only [does]
        go_simp
        try first | exact S | exact ⟨vv, S⟩ | exact vv
      · clear hi
        rw [if_neg (by decide)]; intro r0
        refine step_of rfl rfl rfl ?_
        intro u G w hf S
        have f3 : u 3 = (.slice (some ⟨b, off, none⟩) 46 c0) := hf 3 (by simp)
        simp only [resOf, spec, RSpec.resAt, z0, z1, z2, z3, z4, z5, z6, z7, ptrBlk] at S ⊢
        simp only [f3]
        simp only [does]
        go_simp
        try first | exact S | exact ⟨vv, S⟩ | exact vv
      · clear hi
        rw [if_neg (by decide)]; intro r0
        refine step_of rfl rfl rfl ?_
        intro u G w hf S
        have f3 : u 3 = (.slice (some ⟨b, off, none⟩) 46 c0) := hf 3 (by simp)
        have f4 : u 4 = .pointer (some ⟨b, off + 1, none⟩) := hf 4 (by simp)
        simp only [resOf, spec, RSpec.resAt, z0, z1, z2, z3, z4, z5, z6, z7, ptrBlk] at S ⊢
        simp only [f3, f4]
        refine does_load1 5 (.tmp 30) _ _ rfl (S.old_cell hy) _ Tryd.underlying5 rfl ?_; exact ⟨rfl, S⟩
      · clear hi
        rw [if_neg (by decide)]; intro r0
        refine step_of rfl rfl rfl ?_
        intro u G w hf S
        simp only [resOf, spec, RSpec.resAt, z0, z1, z2, z3, z4, z5, z6, z7, ptrBlk] at S ⊢
        simp only [does]
        go_simp
        try first | exact S | exact ⟨vv, S⟩ | exact vv
      · clear hi
        rw [if_neg (by decide)]; intro r0
        refine step_of rfl rfl rfl ?_
        intro u G w hf S
        simp only [resOf, spec, RSpec.resAt, z0, z1, z2, z3, z4, z5, z6, z7, ptrBlk] at S ⊢
        simp only [does]
        go_simp
        try first | exact S | exact ⟨vv, S⟩ | exact vv
      · clear hi
        rw [if_neg (by decide)]; intro r0
        refine step_of rfl rfl rfl ?_
        intro u G w hf S
        have f7 : u 7 = (.int .u64 (t.serial.toNat : Int)) := hf 7 (by simp)
        simp only [resOf, spec, RSpec.resAt, z0, z1, z2, z3, z4, z5, z6, z7, ptrBlk] at S ⊢
        simp only [f7]
        simp only [does]
        go_simp
        try first | exact S | exact ⟨vv, S⟩ | exact vv
      · clear hi
        rw [if_neg (by decide)]; intro r0
        refine step_of rfl rfl rfl ?_
        intro u G w hf S
        simp only [resOf, spec, RSpec.resAt, z0, z1, z2, z3, z4, z5, z6, z7, ptrBlk] at S ⊢
        simp only [does]
        go_simp
        try first | exact S | exact ⟨vv, S⟩ | exact vv
      · clear hi
        rw [if_neg (by decide)]; intro r0
        refine step_of rfl rfl rfl ?_
        intro u G w hf S
        simp only [resOf, spec, RSpec.resAt, z0, z1, z2, z3, z4, z5, z6, z7, ptrBlk] at S ⊢
        simp only [does]
        go_simp
        try first | exact S | exact ⟨vv, S⟩ | exact vv
      · clear hi
        rw [if_neg (by decide)]; intro r0
        refine step_of rfl rfl rfl ?_
        intro u G w hf S
        have f9 : u 9 = (.slice (some ⟨b, off, none⟩) 46 c0) := hf 9 (by simp)
        have f10 : u 10 = (.int .i64 14) := hf 10 (by simp)
        simp only [resOf, spec, RSpec.resAt, z0, z1, z2, z3, z4, z5, z6, z7, ptrBlk] at S ⊢
        simp only [f9, f10]
        rw [← HCUT.out]; refine does_cutL 22 5 1 (.tmp 35) (.tmp 36) _ _ _ _ _ 14 rfl rfl rfl (by decide) Tryd.underlying22 (by kernel_rfl) ?_; exact ⟨rfl, S⟩
      · clear hi
        rw [if_neg (by decide)]; intro r0
        refine step_of rfl rfl rfl ?_
        intro u G w hf S
        have f9 : u 9 = (.slice (some ⟨b, off, none⟩) 46 c0) := hf 9 (by simp)
        have f10 : u 10 = (.int .i64 14) := hf 10 (by simp)
        have f11 : u 11 = .slice (some ⟨b, off + 14, none⟩) 32 (c0 - 14) := hf 11 (by simp)
        simp only [resOf, spec, RSpec.resAt, z0, z1, z2, z3, z4, z5, z6, z7, ptrBlk] at S ⊢
        simp only [f9, f10, f11]
        simp only [does]
        go_simp
        try first | exact S | exact ⟨vv, S⟩ | exact vv
      · clear hi
        rw [if_neg (by decide)]; intro r0
        refine step_of rfl rfl rfl ?_
        intro u G w hf S
        have f9 : u 9 = (.slice (some ⟨b, off, none⟩) 46 c0) := hf 9 (by simp)
        have f10 : u 10 = (.int .i64 14) := hf 10 (by simp)
        have f11 : u 11 = .slice (some ⟨b, off + 14, none⟩) 32 (c0 - 14) := hf 11 (by simp)
        have f12 : u 12 = .pointer (some ⟨b, off + 14, none⟩) := hf 12 (by simp)
        simp only [resOf, spec, RSpec.resAt, z0, z1, z2, z3, z4, z5, z6, z7, ptrBlk] at S ⊢
        simp only [f9, f10, f11, f12]
        refine does_loadR 25 (.tmp 38) _ _ rfl _ (S.old_range HR.out) _ Tryd.underlying25 rfl 32 (by kernel_rfl) (by rw [List.length_map]; exact t.len) _ rfl ?_; exact ⟨rfl, S⟩
      · clear hi
        rw [if_neg (by decide)]; intro r0
        refine step_of rfl rfl rfl ?_
        intro u G w hf S
        have f0 : u 0 = (.slice (some ⟨b, off, none⟩) 46 c0) := hf 0 (by simp)
        have f1 : u 1 = .pointer (some ⟨b, off, none⟩) := hf 1 (by simp)
        have f2 : u 2 = .int .u8 (t.tenant.toNat : Int) := hf 2 (by simp)
        have f3 : u 3 = (.slice (some ⟨b, off, none⟩) 46 c0) := hf 3 (by simp)
        have f4 : u 4 = .pointer (some ⟨b, off + 1, none⟩) := hf 4 (by simp)
        have f5 : u 5 = .int .u8 (t.role.toNat : Int) := hf 5 (by simp)
        have f6 : u 6 = (.int .u64 (t.expiry.toNat : Int)) := hf 6 (by simp)
        have f7 : u 7 = (.int .u64 (t.serial.toNat : Int)) := hf 7 (by simp)
        have f8 : u 8 = .int .u32 (t.serial.toNat : Int) := hf 8 (by simp)
        have f9 : u 9 = (.slice (some ⟨b, off, none⟩) 46 c0) := hf 9 (by simp)
        have f10 : u 10 = (.int .i64 14) := hf 10 (by simp)
        have f11 : u 11 = .slice (some ⟨b, off + 14, none⟩) 32 (c0 - 14) := hf 11 (by simp)
        have f12 : u 12 = .pointer (some ⟨b, off + 14, none⟩) := hf 12 (by simp)
        have f13 : u 13 = .agg (arr8 t.tag) := hf 13 (by simp)
        simp only [resOf, spec, RSpec.resAt, z0, z1, z2, z3, z4, z5, z6, z7, ptrBlk] at S ⊢
        simp only [f0, f1, f2, f3, f4, f5, f6, f7, f8, f9, f10, f11, f12, f13]
        refine does_buildT5 _ _ _ _ _ t rfl rfl rfl rfl rfl ?_; exact ⟨rfl, S⟩
      · clear hi
        rw [if_pos rfl]
        refine step_ofW rfl rfl rfl ?_
        intro u G w hf S
        have f0 : u 0 = (.slice (some ⟨b, off, none⟩) 46 c0) := hf 0 (by simp)
        have f1 : u 1 = .pointer (some ⟨b, off, none⟩) := hf 1 (by simp)
        have f2 : u 2 = .int .u8 (t.tenant.toNat : Int) := hf 2 (by simp)
        have f3 : u 3 = (.slice (some ⟨b, off, none⟩) 46 c0) := hf 3 (by simp)
        have f4 : u 4 = .pointer (some ⟨b, off + 1, none⟩) := hf 4 (by simp)
        have f5 : u 5 = .int .u8 (t.role.toNat : Int) := hf 5 (by simp)
        have f6 : u 6 = (.int .u64 (t.expiry.toNat : Int)) := hf 6 (by simp)
        have f7 : u 7 = (.int .u64 (t.serial.toNat : Int)) := hf 7 (by simp)
        have f8 : u 8 = .int .u32 (t.serial.toNat : Int) := hf 8 (by simp)
        have f9 : u 9 = (.slice (some ⟨b, off, none⟩) 46 c0) := hf 9 (by simp)
        have f10 : u 10 = (.int .i64 14) := hf 10 (by simp)
        have f11 : u 11 = .slice (some ⟨b, off + 14, none⟩) 32 (c0 - 14) := hf 11 (by simp)
        have f12 : u 12 = .pointer (some ⟨b, off + 14, none⟩) := hf 12 (by simp)
        have f13 : u 13 = .agg (arr8 t.tag) := hf 13 (by simp)
        have f14 : u 14 = .agg (tokL t).toArray := hf 14 (by simp)
        simp only [resOf, spec, RSpec.resAt, z0, z1, z2, z3, z4, z5, z6, z7, ptrBlk] at S ⊢
        simp only [f0, f1, f2, f3, f4, f5, f6, f7, f8, f9, f10, f11, f12, f13, f14]
        refine does_store S 27 (.tmp 2) (.tmp 40) (tokL t).toArray rfl rfl 36 (by kernel_rfl) (tokL_size _) (tokL_size _) (tokL_one _) ?_; intro w1 S; exact ⟨trivial, S⟩
      · clear hi
        rw [if_neg (by decide)]; intro r0
        refine step_of rfl rfl rfl ?_
        intro u G w hf S
        have f0 : u 0 = (.slice (some ⟨b, off, none⟩) 46 c0) := hf 0 (by simp)
        have f1 : u 1 = .pointer (some ⟨b, off, none⟩) := hf 1 (by simp)
        have f2 : u 2 = .int .u8 (t.tenant.toNat : Int) := hf 2 (by simp)
        have f3 : u 3 = (.slice (some ⟨b, off, none⟩) 46 c0) := hf 3 (by simp)
        have f4 : u 4 = .pointer (some ⟨b, off + 1, none⟩) := hf 4 (by simp)
        have f5 : u 5 = .int .u8 (t.role.toNat : Int) := hf 5 (by simp)
        have f6 : u 6 = (.int .u64 (t.expiry.toNat : Int)) := hf 6 (by simp)
        have f7 : u 7 = (.int .u64 (t.serial.toNat : Int)) := hf 7 (by simp)
        have f8 : u 8 = .int .u32 (t.serial.toNat : Int) := hf 8 (by simp)
        have f9 : u 9 = (.slice (some ⟨b, off, none⟩) 46 c0) := hf 9 (by simp)
        have f10 : u 10 = (.int .i64 14) := hf 10 (by simp)
        have f11 : u 11 = .slice (some ⟨b, off + 14, none⟩) 32 (c0 - 14) := hf 11 (by simp)
        have f12 : u 12 = .pointer (some ⟨b, off + 14, none⟩) := hf 12 (by simp)
        have f13 : u 13 = .agg (arr8 t.tag) := hf 13 (by simp)
        have f14 : u 14 = .agg (tokL t).toArray := hf 14 (by simp)
        simp only [resOf, spec, RSpec.resAt, z0, z1, z2, z3, z4, z5, z6, z7, ptrBlk] at S ⊢
        simp only [f0, f1, f2, f3, f4, f5, f6, f7, f8, f9, f10, f11, f12, f13, f14]
        simp only [does]
        go_simp
        try first | exact S | exact ⟨vv, S⟩ | exact vv
    case fin1 =>
      intro u w hf S
      have f0 : u 0 = (.slice (some ⟨b, off, none⟩) 46 c0) := hf 0 (by simp)
      have f1 : u 1 = .pointer (some ⟨b, off, none⟩) := hf 1 (by simp)
      have f2 : u 2 = .int .u8 (t.tenant.toNat : Int) := hf 2 (by simp)
      have f3 : u 3 = (.slice (some ⟨b, off, none⟩) 46 c0) := hf 3 (by simp)
      have f4 : u 4 = .pointer (some ⟨b, off + 1, none⟩) := hf 4 (by simp)
      have f5 : u 5 = .int .u8 (t.role.toNat : Int) := hf 5 (by simp)
      have f6 : u 6 = (.int .u64 (t.expiry.toNat : Int)) := hf 6 (by simp)
      have f7 : u 7 = (.int .u64 (t.serial.toNat : Int)) := hf 7 (by simp)
      have f8 : u 8 = .int .u32 (t.serial.toNat : Int) := hf 8 (by simp)
      have f9 : u 9 = (.slice (some ⟨b, off, none⟩) 46 c0) := hf 9 (by simp)
      have f10 : u 10 = (.int .i64 14) := hf 10 (by simp)
      have f11 : u 11 = .slice (some ⟨b, off + 14, none⟩) 32 (c0 - 14) := hf 11 (by simp)
      have f12 : u 12 = .pointer (some ⟨b, off + 14, none⟩) := hf 12 (by simp)
      have f13 : u 13 = .agg (arr8 t.tag) := hf 13 (by simp)
      have f14 : u 14 = .agg (tokL t).toArray := hf 14 (by simp)
      have f16 : u 16 = (.int .i64 0) := hf 16 (by simp)
      simp only [resOf, spec, RSpec.resAt, z0, z1, z2, z3, z4, z5, z6, z7, ptrBlk] at S
      clear hf
      simp only [List.length_cons, List.length_nil, Nat.zero_add, Nat.reduceAdd, List.drop_succ_cons, List.drop_zero, f0, f1, f2, f3, f4, f5, f6, f7, f8, f9, f10, f11, f12, f13, f14, f16]
      clear f0 f1 f2 f3 f4 f5 f6 f7 f8 f9 f10 f11 f12 f13 f14 f16
      go_wp2_with (first | ((with_reducible show wpList _ _ _ (⟨some 2, .alloc 27, _, _, _, _⟩ :: _) _ _); refine step_alloc (dst := some 2) S 27 (.agg ((tokL tokZ).toArray)) ((tokL tokZ).toArray) (by kernel_rfl) rfl rfl ?_; clear S; intro g2 w S) | ((with_reducible show wpList _ _ _ (⟨some 12, .build 27 _, _, _, _, _⟩ :: _) _ _); refine step_buildZ 27 (.agg ((tokL tokZ).toArray)) (fun w => by kernel_rfl) rfl ?_) | ((with_reducible show wpList _ _ _ (⟨none, .store 27 (.tmp 2) (.tmp 12), _, _, _, _⟩ :: _) _ _); refine step_store S 27 (.tmp 2) (.tmp 12) _ _ rfl rfl _ _ pk 36 (by kernel_rfl) (by first | rfl | (first | rfl | assumption | (exact Hid.out (by assumption)) | (exact tokL_size _) | (rw [arr8_size]; first | rfl | assumption | (exact Hid.out (by assumption)) | exact tokL_size _ | exact List.length_replicate ..) | (simp [arr8_size]; done))) (by first | rfl | (first | rfl | assumption | (exact Hid.out (by assumption)) | (exact tokL_size _) | (rw [arr8_size]; first | rfl | assumption | (exact Hid.out (by assumption)) | exact tokL_size _ | exact List.length_replicate ..) | (simp [arr8_size]; done))) on1 rfl ?_; clear S; intro w S) | (go_at_call 47; (with_reducible refine (takeUint_s _ _ _ _ _ (by first | assumption | exact S.oldB (Hid.out (by assumption)) | exact Bs.mk0 _ _ | exact S.bs pk | exact S.bsr pk) (by (first | omega | assumption | (exact Hid.out (by assumption)) | (simp only [List.length_append, List.length_cons, List.length_nil]; omega))) (by (first | omega | assumption | (exact Hid.out (by assumption)) | (simp only [List.length_append, List.length_cons, List.length_nil]; omega))) (by (first | omega | assumption | (exact Hid.out (by assumption)) | (simp only [List.length_append, List.length_cons, List.length_nil]; omega)))).mono ?_); rintro e w1 ⟨rfl, T⟩; replace S := S.call T; clear T; (try simp only [List.nil_append, List.cons_append] at S)) | ((with_reducible show wpList _ _ _ (⟨_, .load 5 _, _, _, _, _⟩ :: _) _ _); first | (refine step_load1 5 _ _ _ rfl (S.cell pk co) _ Tryd.underlying5 rfl rfl ?_) | (refine step_load1 5 _ _ _ rfl (S.row_cell pk _ _ hyr) _ Tryd.underlying5 rfl rfl ?_) | (refine step_load1 5 _ _ _ rfl (S.row_cellS pk _ _ hy) _ Tryd.underlying5 rfl rfl ?_) | (refine step_load1 5 _ _ _ rfl (S.old_cell hy) _ Tryd.underlying5 rfl rfl ?_)) | ((with_reducible show wpList _ _ _ (⟨_, .slice 22 _ _ _ _, _, _, _, _⟩ :: _) _ _); refine step_cutL 22 5 1 _ _ _ _ _ _ _ _ rfl rfl (by first | rfl | omega) (by first | (first | omega | assumption | (exact Hid.out (by assumption)) | (simp only [List.length_append, List.length_cons, List.length_nil]; omega)) | decide) Tryd.underlying22 (by kernel_rfl) rfl ?_) | ((with_reducible show wpList _ _ _ (⟨_, .load 25 _, _, _, _, _⟩ :: _) _ _); first | (refine step_load S 25 _ _ rfl _ _ _ pk _ Tryd.underlying25 rfl 32 (by kernel_rfl) (by first | rfl | (first | rfl | assumption | (exact Hid.out (by assumption)) | (exact tokL_size _) | (rw [arr8_size]; first | rfl | assumption | (exact Hid.out (by assumption)) | exact tokL_size _ | exact List.length_replicate ..) | (simp [arr8_size]; done))) rfl ?_) | (refine step_loadO 25 _ _ rfl _ _ _ (S.old_heap (Hid.out (by assumption))) _ Tryd.underlying25 rfl 32 (by kernel_rfl) (by first | rfl | (first | rfl | assumption | (exact Hid.out (by assumption)) | (exact tokL_size _) | (rw [arr8_size]; first | rfl | assumption | (exact Hid.out (by assumption)) | exact tokL_size _ | exact List.length_replicate ..) | (simp [arr8_size]; done))) rfl ?_) | (refine step_loadR 25 _ _ _ rfl _ (S.old_range hy) _ Tryd.underlying25 rfl 32 (by kernel_rfl) (by first | rfl | (first | rfl | assumption | (exact Hid.out (by assumption)) | (exact tokL_size _) | (rw [arr8_size]; first | rfl | assumption | (exact Hid.out (by assumption)) | exact tokL_size _ | exact List.length_replicate ..) | (simp [arr8_size]; done))) _ rfl rfl ?_)) | ((with_reducible show wpList _ _ _ (⟨none, .store 27 (.tmp 2) (.tmp 40), _, _, _, _⟩ :: _) _ _); refine step_store S 27 (.tmp 2) (.tmp 40) _ _ rfl rfl _ _ pk 36 (by kernel_rfl) (by first | rfl | (first | rfl | assumption | (exact Hid.out (by assumption)) | (exact tokL_size _) | (rw [arr8_size]; first | rfl | assumption | (exact Hid.out (by assumption)) | exact tokL_size _ | exact List.length_replicate ..) | (simp [arr8_size]; done))) (by first | rfl | (first | rfl | assumption | (exact Hid.out (by assumption)) | (exact tokL_size _) | (rw [arr8_size]; first | rfl | assumption | (exact Hid.out (by assumption)) | exact tokL_size _ | exact List.length_replicate ..) | (simp [arr8_size]; done))) on1 rfl ?_; clear S; intro w S) | fail)
      refine ret_row_tmp rfl g2 27 _ (S.get pk) _ Tryd.underlying27 36 (by kernel_rfl) (by first | rfl | (first | rfl | assumption | (exact Hid.out (by assumption)) | (exact tokL_size _) | (rw [arr8_size]; first | rfl | assumption | (exact Hid.out (by assumption)) | exact tokL_size _ | exact List.length_replicate ..) | (simp [arr8_size]; done))) rfl rfl rfl ?_
      exact ⟨rfl, S.nil⟩
  · rw [show decT xs = tokZ from dif_neg hl, show decE xs = 11 from if_neg hl]
    have i1 : ((xs.length : Int) != 46) = true := by simp; omega
    have H := Lib.hid h; clear h
    go_enter Tryd.func18, Tryd.ntmps18
    go_wp2_with (first | ((with_reducible show wpList _ _ _ (⟨some 2, .alloc 27, _, _, _, _⟩ :: _) _ _); refine step_alloc (dst := some 2) S 27 (.agg ((tokL tokZ).toArray)) ((tokL tokZ).toArray) (by kernel_rfl) rfl rfl ?_; clear S; intro g2 w S) | ((with_reducible show wpList _ _ _ (⟨some 12, .build 27 _, _, _, _, _⟩ :: _) _ _); refine step_buildZ 27 (.agg ((tokL tokZ).toArray)) (fun w => by kernel_rfl) rfl ?_) | ((with_reducible show wpList _ _ _ (⟨none, .store 27 (.tmp 2) (.tmp 12), _, _, _, _⟩ :: _) _ _); refine step_store S 27 (.tmp 2) (.tmp 12) _ _ rfl rfl _ _ pk 36 (by kernel_rfl) (by first | rfl | (first | rfl | assumption | (exact Hid.out (by assumption)) | (exact tokL_size _) | (rw [arr8_size]; first | rfl | assumption | (exact Hid.out (by assumption)) | exact tokL_size _ | exact List.length_replicate ..) | (simp [arr8_size]; done))) (by first | rfl | (first | rfl | assumption | (exact Hid.out (by assumption)) | (exact tokL_size _) | (rw [arr8_size]; first | rfl | assumption | (exact Hid.out (by assumption)) | exact tokL_size _ | exact List.length_replicate ..) | (simp [arr8_size]; done))) on1 rfl ?_; clear S; intro w S) | (go_at_call 47; (with_reducible refine (takeUint_s _ _ _ _ _ (by first | assumption | exact S.oldB (Hid.out (by assumption)) | exact Bs.mk0 _ _ | exact S.bs pk | exact S.bsr pk) (by (first | omega | assumption | (exact Hid.out (by assumption)) | (simp only [List.length_append, List.length_cons, List.length_nil]; omega))) (by (first | omega | assumption | (exact Hid.out (by assumption)) | (simp only [List.length_append, List.length_cons, List.length_nil]; omega))) (by (first | omega | assumption | (exact Hid.out (by assumption)) | (simp only [List.length_append, List.length_cons, List.length_nil]; omega)))).mono ?_); rintro e w1 ⟨rfl, T⟩; replace S := S.call T; clear T; (try simp only [List.nil_append, List.cons_append] at S)) | ((with_reducible show wpList _ _ _ (⟨_, .load 5 _, _, _, _, _⟩ :: _) _ _); first | (refine step_load1 5 _ _ _ rfl (S.cell pk co) _ Tryd.underlying5 rfl rfl ?_) | (refine step_load1 5 _ _ _ rfl (S.row_cell pk _ _ hyr) _ Tryd.underlying5 rfl rfl ?_) | (refine step_load1 5 _ _ _ rfl (S.row_cellS pk _ _ hy) _ Tryd.underlying5 rfl rfl ?_) | (refine step_load1 5 _ _ _ rfl (S.old_cell hy) _ Tryd.underlying5 rfl rfl ?_)) | ((with_reducible show wpList _ _ _ (⟨_, .slice 22 _ _ _ _, _, _, _, _⟩ :: _) _ _); refine step_cutL 22 5 1 _ _ _ _ _ _ _ _ rfl rfl (by first | rfl | omega) (by first | (first | omega | assumption | (exact Hid.out (by assumption)) | (simp only [List.length_append, List.length_cons, List.length_nil]; omega)) | decide) Tryd.underlying22 (by kernel_rfl) rfl ?_) | ((with_reducible show wpList _ _ _ (⟨_, .load 25 _, _, _, _, _⟩ :: _) _ _); first | (refine step_load S 25 _ _ rfl _ _ _ pk _ Tryd.underlying25 rfl 32 (by kernel_rfl) (by first | rfl | (first | rfl | assumption | (exact Hid.out (by assumption)) | (exact tokL_size _) | (rw [arr8_size]; first | rfl | assumption | (exact Hid.out (by assumption)) | exact tokL_size _ | exact List.length_replicate ..) | (simp [arr8_size]; done))) rfl ?_) | (refine step_loadO 25 _ _ rfl _ _ _ (S.old_heap (Hid.out (by assumption))) _ Tryd.underlying25 rfl 32 (by kernel_rfl) (by first | rfl | (first | rfl | assumption | (exact Hid.out (by assumption)) | (exact tokL_size _) | (rw [arr8_size]; first | rfl | assumption | (exact Hid.out (by assumption)) | exact tokL_size _ | exact List.length_replicate ..) | (simp [arr8_size]; done))) rfl ?_) | (refine step_loadR 25 _ _ _ rfl _ (S.old_range hy) _ Tryd.underlying25 rfl 32 (by kernel_rfl) (by first | rfl | (first | rfl | assumption | (exact Hid.out (by assumption)) | (exact tokL_size _) | (rw [arr8_size]; first | rfl | assumption | (exact Hid.out (by assumption)) | exact tokL_size _ | exact List.length_replicate ..) | (simp [arr8_size]; done))) _ rfl rfl ?_)) | ((with_reducible show wpList _ _ _ (⟨none, .store 27 (.tmp 2) (.tmp 40), _, _, _, _⟩ :: _) _ _); refine step_store S 27 (.tmp 2) (.tmp 40) _ _ rfl rfl _ _ pk 36 (by kernel_rfl) (by first | rfl | (first | rfl | assumption | (exact Hid.out (by assumption)) | (exact tokL_size _) | (rw [arr8_size]; first | rfl | assumption | (exact Hid.out (by assumption)) | exact tokL_size _ | exact List.length_replicate ..) | (simp [arr8_size]; done))) (by first | rfl | (first | rfl | assumption | (exact Hid.out (by assumption)) | (exact tokL_size _) | (rw [arr8_size]; first | rfl | assumption | (exact Hid.out (by assumption)) | exact tokL_size _ | exact List.length_replicate ..) | (simp [arr8_size]; done))) on1 rfl ?_; clear S; intro w S) | fail)
    refine ret_row_tmp rfl g2 27 _ (S.get pk) _ Tryd.underlying27 36 (by kernel_rfl) (by first | rfl | (first | rfl | assumption | (exact Hid.out (by assumption)) | (exact tokL_size _) | (rw [arr8_size]; first | rfl | assumption | (exact Hid.out (by assumption)) | exact tokL_size _ | exact List.length_replicate ..) | (simp [arr8_size]; done))) rfl rfl rfl ?_
    exact ⟨rfl, S.nil⟩

/-- The cells of a token whose first k bytes of the tag are there. -/
def cellsK (t : Tok) (k : Nat) : Array Value := ([Value.int .u8 (t.tenant.toNat : Int), .int .u8 (t.role.toNat : Int), .int .u64 (t.expiry.toNat : Int), .int .u32 (t.serial.toNat : Int)] ++ (t.tag.take k ++ List.replicate (32 - k) 0).map by8).toArray
theorem cellsK_zero (t : Tok) : cellsK t 0 = (tokL ⟨t.tenant, t.role, t.expiry, t.serial, zs32, rfl⟩).toArray := by simp [cellsK, tokL, zs32]
theorem cellsK_all (t : Tok) : cellsK t 32 = (tokL t).toArray := by
  unfold cellsK tokL
  rw [List.take_of_length_le (by rw [t.len]; exact Nat.le_refl _)]
  simp
theorem cellsK_size (t : Tok) (k : Nat) (hk : k ≤ 32) : (cellsK t k).size = 36 := by simp [cellsK, t.len]; omega
theorem cellsK_set (t : Tok) (k : Nat) (x : UInt8) (hx : t.tag[k]? = some x) : (cellsK t k).setIfInBounds (4 + k) (by8 x) = cellsK t (k + 1) := by
  obtain ⟨hi, rfl⟩ := List.getElem?_eq_some_iff.1 hx
  have h32 := t.len
  unfold cellsK
  apply Array.ext'
  rw [Array.toList_setIfInBounds]
  have hl : (t.tag.take k).length = k := by simp; omega
  obtain ⟨m, hm⟩ : ∃ m, 32 - k = m + 1 := ⟨32 - k - 1, by omega⟩
  have hm2 : 32 - (k + 1) = m := by omega
  simp only [List.map_append, hm, hm2, List.replicate_succ, List.map_cons]
  rw [List.set_append_right _ _ (by simp), List.set_append_right _ _ (by simp; omega)]
  simp only [List.length_cons, List.length_nil, List.length_map, hl, Nat.zero_add, Nat.reduceAdd, Nat.add_sub_cancel_left, Nat.sub_self, List.set_cons_zero]
  rw [List.take_succ_eq_append_getElem hi]
  simp only [List.map_append, List.map_cons, List.map_nil, List.append_assoc, List.cons_append, List.nil_append]

set_option maxRecDepth 100000 in
set_option maxHeartbeats 4000000 in
theorem refDec_s (v : Value) (xs : List UInt8) (w0 : World) (h : Bs w0 v xs) : Calls Tryd.prog 19 #[v] w0 fun e w' => e = .returned (.tuple #[.agg (tokL (decT xs)).toArray, .int .i64 (decE xs)]) ∧ Has w0 w' [] := by
  have S := Has.start w0
  obtain ⟨a0, c0, rfl, k1, k2⟩ := Sl.shape h
  unfold maxLen at k2
  by_cases hl : xs.length = 46
  · rw [show decT xs = deT xs hl from dif_pos hl, show decE xs = 0 from if_pos hl]
    rw [hl] at h k1 ⊢
    obtain ⟨t, ht⟩ : ∃ t, t = deT xs hl := ⟨_, rfl⟩
    rw [← ht]
    have e2 : ((val ((xs.drop 2).take 8) : Nat) : Int) = (t.expiry.toNat : Int) := by rw [ht]; exact u64_val _ (by simp; omega)
    have e3 : ((val ((xs.drop 10).take 4) : Nat) : Int) = (t.serial.toNat : Int) := by rw [ht]; exact u32_val _ (by simp; omega)
    have p1 := fun v w hv => valRef_s v ((xs.drop 2).take 8) w hv (by simp; omega)
    have p2 := fun v w hv => valRef_s v ((xs.drop 10).take 4) w hv (by simp; omega)
    rw [e2] at p1
    rw [e3] at p2
    have hb1 := h.cut 2 8 (by decide) hl
    have hb2 := h.cut 10 4 (by decide) hl
    have hb : Sl w0 1 (.slice a0 46 c0) 46 (xs.map by8) := by unfold Bs at h; rwa [hl] at h
    obtain ⟨b, off, rfl, hc⟩ := hb.atA (by decide)
    have hc0 := hc 0 (.int .u8 (t.tenant.toNat : Int)) (by rw [List.getElem?_map, List.getElem?_eq_getElem (by omega), ht]; rfl)
    have hc1 := hc 1 (.int .u8 (t.role.toNat : Int)) (by rw [List.getElem?_map, List.getElem?_eq_getElem (by omega), ht]; rfl)
    rw [Nat.add_zero] at hc0
    have hr : ∀ j x, t.tag[j]? = some x → w0.cell? ⟨b, off + (14 + j), none⟩ = some (by8 x) := by
      intro j x hj
      refine hc (14 + j) _ ?_
      rw [ht] at hj
      rw [List.getElem?_map]
      have : xs[14 + j]? = some x := by
        rw [← hj]
        show _ = (xs.drop 14)[j]?
        rw [List.getElem?_drop]
      rw [this]
      rfl
    have hs2 : (t.serial.toNat : Int) < 4294967296 := by have := t.serial.toNat_lt; omega
    have hcut : cutA (some ⟨b, off, none⟩) c0 2 1 = some ⟨b, off + 2, none⟩ := by
      unfold cutA
      rw [if_neg (by omega)]
      simp [Addr.add]
    have hcut2 : cutA (some ⟨b, off, none⟩) c0 10 1 = some ⟨b, off + 10, none⟩ := by
      unfold cutA
      rw [if_neg (by omega)]
      simp [Addr.add]
    rw [hcut] at hb1
    rw [hcut2] at hb2
    have H := Lib.hid h; have P1 := Lib.hid p1; have P2 := Lib.hid p2; have HC0 := Lib.hid hc0; have HC1 := Lib.hid hc1; have HR := Lib.hid hr; have HCUT := Lib.hid hcut; have HCUT2 := Lib.hid hcut2; have HB1 := Lib.hid hb1; have HB2 := Lib.hid hb2; clear h p1 p2 hc0 hc1 hr hcut hcut2 hb1 hb2
    clear ht e2 e3 hb hc
    go_enter Tryd.func19, Tryd.ntmps19
    go_wp2_with (first | ((with_reducible show wpList _ _ _ (⟨some 2, .alloc 27, _, _, _, _⟩ :: _) _ _); refine step_alloc (dst := some 2) S 27 (.agg ((tokL tokZ).toArray)) ((tokL tokZ).toArray) (by kernel_rfl) rfl rfl ?_; clear S; intro g2 w S) | ((with_reducible show wpList _ _ _ (⟨some 9, .build 27 _, _, _, _, _⟩ :: _) _ _); refine step_buildZ 27 (.agg ((tokL tokZ).toArray)) (fun w => by kernel_rfl) rfl ?_) | ((with_reducible show wpList _ _ _ (⟨none, .store 27 (.tmp 2) (.tmp 9), _, _, _, _⟩ :: _) _ _); refine step_store S 27 (.tmp 2) (.tmp 9) _ _ rfl rfl _ _ pk 36 (by kernel_rfl) (by first | rfl | (first | rfl | assumption | (exact Hid.out (by assumption)) | (exact tokL_size _) | (rw [arr8_size]; first | rfl | assumption | (exact Hid.out (by assumption)) | exact tokL_size _ | exact List.length_replicate ..) | (simp [arr8_size]; done))) (by first | rfl | (first | rfl | assumption | (exact Hid.out (by assumption)) | (exact tokL_size _) | (rw [arr8_size]; first | rfl | assumption | (exact Hid.out (by assumption)) | exact tokL_size _ | exact List.length_replicate ..) | (simp [arr8_size]; done))) on1 rfl ?_; clear S; intro w S) | ((with_reducible show wpList _ _ _ (⟨_, .load 5 _, _, _, _, _⟩ :: _) _ _); first | (refine step_load1 5 _ _ _ rfl (S.cell pk co) _ Tryd.underlying5 rfl rfl ?_) | (refine step_load1 5 _ _ _ rfl (S.row_cell pk _ _ hyr) _ Tryd.underlying5 rfl rfl ?_) | (refine step_load1 5 _ _ _ rfl (S.row_cellS pk _ _ hy) _ Tryd.underlying5 rfl rfl ?_) | (refine step_load1 5 _ _ _ rfl (S.old_cell hy) _ Tryd.underlying5 rfl rfl ?_)) | ((with_reducible show wpList _ _ _ (⟨_, .slice 22 _ _ _ _, _, _, _, _⟩ :: _) _ _); refine step_cutLH 22 5 1 _ _ _ _ _ _ _ _ _ _ 2 10 rfl rfl rfl (by first | rfl | omega) (by first | rfl | omega) (by first | (first | omega | assumption | (exact Hid.out (by assumption)) | (simp only [List.length_append, List.length_cons, List.length_nil]; omega)) | decide) (by first | (first | omega | assumption | (exact Hid.out (by assumption)) | (simp only [List.length_append, List.length_cons, List.length_nil]; omega)) | decide) Tryd.underlying22 (by kernel_rfl) rfl ?_) | ((with_reducible show wpList _ _ _ (⟨_, .slice 22 _ _ _ _, _, _, _, _⟩ :: _) _ _); refine step_cutLH 22 5 1 _ _ _ _ _ _ _ _ _ _ 10 14 rfl rfl rfl (by first | rfl | omega) (by first | rfl | omega) (by first | (first | omega | assumption | (exact Hid.out (by assumption)) | (simp only [List.length_append, List.length_cons, List.length_nil]; omega)) | decide) (by first | (first | omega | assumption | (exact Hid.out (by assumption)) | (simp only [List.length_append, List.length_cons, List.length_nil]; omega)) | decide) Tryd.underlying22 (by kernel_rfl) rfl ?_) | ((with_reducible show wpList _ _ _ (⟨some 4, .alloc 27, _, _, _, _⟩ :: _) _ _); refine step_alloc (dst := some 4) S 27 (.agg ((tokL tokZ).toArray)) ((tokL tokZ).toArray) (by kernel_rfl) rfl rfl ?_; clear S; intro g4 w S) | ((with_reducible show wpList _ _ _ (⟨none, .store 27 (.tmp 4) (.tmp 23), _, _, _, _⟩ :: _) _ _); refine step_store S 27 (.tmp 4) (.tmp 23) _ _ rfl rfl _ _ pk 36 (by kernel_rfl) (by first | rfl | (first | rfl | assumption | (exact Hid.out (by assumption)) | (exact tokL_size _) | (rw [arr8_size]; first | rfl | assumption | (exact Hid.out (by assumption)) | exact tokL_size _ | exact List.length_replicate ..) | (simp [arr8_size]; done))) (by first | rfl | (first | rfl | assumption | (exact Hid.out (by assumption)) | (exact tokL_size _) | (rw [arr8_size]; first | rfl | assumption | (exact Hid.out (by assumption)) | exact tokL_size _ | exact List.length_replicate ..) | (simp [arr8_size]; done))) on1 rfl ?_; clear S; intro w S) | ((with_reducible show wpList _ _ _ (⟨none, .store 5 (.tmp 35) (.tmp 33), _, _, _, _⟩ :: _) _ _); first | (refine step_store1 S 5 (.tmp 35) (.tmp 33) _ _ (.int _ _) rfl rfl _ _ pk (by kernel_rfl) rfl rfl (by first | rfl | (first | rfl | assumption | (exact Hid.out (by assumption)) | (exact tokL_size _) | (rw [arr8_size]; first | rfl | assumption | (exact Hid.out (by assumption)) | exact tokL_size _ | exact List.length_replicate ..) | (simp [arr8_size]; done))) rfl ?_; clear S; intro w S; try simp only [List.setIfInBounds_toArray, List.set_cons_zero, List.set_cons_succ] at S) | (refine step_storeR S 5 (.tmp 35) (.tmp 33) _ _ (.int _ _) rfl rfl _ _ _ _ pk (by (first | omega | assumption | (exact Hid.out (by assumption)) | (simp only [List.length_append, List.length_cons, List.length_nil]; omega))) (by kernel_rfl) rfl rfl rfl ?_; clear S; intro w S) | (refine step_storeS S 5 (.tmp 35) (.tmp 33) _ _ (.int _ _) rfl rfl _ _ _ _ _ pk (by (first | omega | assumption | (exact Hid.out (by assumption)) | (simp only [List.length_append, List.length_cons, List.length_nil]; omega))) (by kernel_rfl) rfl rfl rfl ?_; clear S; intro w S)) | ((with_reducible show wpList _ _ _ (⟨_, .load 27 _, _, _, _, _⟩ :: _) _ _); first | (refine step_load S 27 _ _ rfl _ _ _ pk _ Tryd.underlying27 rfl 36 (by kernel_rfl) (by first | rfl | (first | rfl | assumption | (exact Hid.out (by assumption)) | (exact tokL_size _) | (rw [arr8_size]; first | rfl | assumption | (exact Hid.out (by assumption)) | exact tokL_size _ | exact List.length_replicate ..) | (simp [arr8_size]; done))) rfl ?_) | (refine step_loadO 27 _ _ rfl _ _ _ (S.old_heap (Hid.out (by assumption))) _ Tryd.underlying27 rfl 36 (by kernel_rfl) (by first | rfl | (first | rfl | assumption | (exact Hid.out (by assumption)) | (exact tokL_size _) | (rw [arr8_size]; first | rfl | assumption | (exact Hid.out (by assumption)) | exact tokL_size _ | exact List.length_replicate ..) | (simp [arr8_size]; done))) rfl ?_) | (refine step_loadR 27 _ _ _ rfl _ (S.old_range hy) _ Tryd.underlying27 rfl 36 (by kernel_rfl) (by first | rfl | (first | rfl | assumption | (exact Hid.out (by assumption)) | (exact tokL_size _) | (rw [arr8_size]; first | rfl | assumption | (exact Hid.out (by assumption)) | exact tokL_size _ | exact List.length_replicate ..) | (simp [arr8_size]; done))) _ rfl rfl ?_)) | ((with_reducible show wpList _ _ _ (⟨none, .store 27 (.tmp 2) (.tmp 36), _, _, _, _⟩ :: _) _ _); refine step_store S 27 (.tmp 2) (.tmp 36) _ _ rfl rfl _ _ pk 36 (by kernel_rfl) (by first | rfl | (first | rfl | assumption | (exact Hid.out (by assumption)) | (exact tokL_size _) | (rw [arr8_size]; first | rfl | assumption | (exact Hid.out (by assumption)) | exact tokL_size _ | exact List.length_replicate ..) | (simp [arr8_size]; done))) (by first | rfl | (first | rfl | assumption | (exact Hid.out (by assumption)) | (exact tokL_size _) | (rw [arr8_size]; first | rfl | assumption | (exact Hid.out (by assumption)) | exact tokL_size _ | exact List.length_replicate ..) | (simp [arr8_size]; done))) on1 rfl ?_; clear S; intro w S) | fail)
    refine wp_rely S [⟨[], [], [], fun _ v => v = (.slice (some ⟨b, off, none⟩) 46 c0), fun _ v => []⟩, ⟨[0], [], [], fun _ v => v = .pointer (some ⟨b, off, none⟩), fun _ v => []⟩, ⟨[0, 1], [], [], fun _ v => v = .int .u8 (t.tenant.toNat : Int), fun _ v => []⟩, ⟨[], [], [], fun _ v => v = (.slice (some ⟨b, off, none⟩) 46 c0), fun _ v => []⟩, ⟨[3], [], [], fun _ v => v = .pointer (some ⟨b, off + 1, none⟩), fun _ v => []⟩, ⟨[3, 4], [], [], fun _ v => v = .int .u8 (t.role.toNat : Int), fun _ v => []⟩, ⟨[], [], [], fun _ v => v = (.slice (some ⟨b, off, none⟩) 46 c0), fun _ v => []⟩, ⟨[6], [], [], fun _ v => v = .slice (some ⟨b, off + 2, none⟩) 8 (c0 - 2), fun _ v => []⟩, ⟨[6, 7], [], [], fun _ v => v = .int .u64 (t.expiry.toNat : Int), fun _ v => []⟩, ⟨[], [], [], fun _ v => v = (.slice (some ⟨b, off, none⟩) 46 c0), fun _ v => []⟩, ⟨[9], [], [], fun _ v => v = .slice (some ⟨b, off + 10, none⟩) 4 (c0 - 10), fun _ v => []⟩, ⟨[6, 7, 8, 9, 10], [], [], fun _ v => v = .int .u64 (t.serial.toNat : Int), fun _ v => []⟩, ⟨[6, 7, 8, 9, 10, 11], [], [], fun _ v => v = .int .u32 (t.serial.toNat : Int), fun _ v => []⟩, ⟨[0, 1, 2, 3, 4, 5, 6, 7, 8, 9, 10, 11, 12], [], [], fun _ v => v = .agg (tokL ⟨t.tenant, t.role, t.expiry, t.serial, zs32, rfl⟩).toArray, fun _ v => []⟩, ⟨[], [], [], fun _ v => ∃ g, v = .pointer (some ⟨g, 0, none⟩), fun _ v => [blk (ptrBlk v) (.cells ((tokL tokZ).toArray) 27 (0, 0))]⟩, ⟨[0, 1, 2, 3, 4, 5, 6, 7, 8, 9, 10, 11, 12, 13, 14], [14], [], fun _ v => True, fun d v => [blk (ptrBlk (d 14)) (.cells ((tokL ⟨t.tenant, t.role, t.expiry, t.serial, zs32, rfl⟩).toArray) 27 (0, 0))]⟩] ?A2 ?hA2 (by kernel_rfl) (by kernel_rfl) (by kernel_rfl) [0, 1, 2, 3, 4, 5, 6, 7, 8, 9, 10, 11, 12, 13, 15] (by kernel_rfl) ?hok2 ?fin2
    case hA2 => intro u; simp only [putAll, List.length_cons, List.length_nil, Nat.zero_add, Nat.reduceAdd, dstAt, List.getElem?_toArray, List.getElem?_cons_zero, List.getElem?_cons_succ, Option.bind_some, Act.put, List.setIfInBounds_toArray, List.set_cons_zero, List.set_cons_succ]; rfl
    case hok2 =>
      intro i hi
      obtain rfl | rfl | rfl | rfl | rfl | rfl | rfl | rfl | rfl | rfl | rfl | rfl | rfl | rfl | rfl | rfl : i = 0 ∨ i = 1 ∨ i = 2 ∨ i = 3 ∨ i = 4 ∨ i = 5 ∨ i = 6 ∨ i = 7 ∨ i = 8 ∨ i = 9 ∨ i = 10 ∨ i = 11 ∨ i = 12 ∨ i = 13 ∨ i = 14 ∨ i = 15 := by simp only [List.length_cons, List.length_nil, Nat.zero_add, Nat.reduceAdd] at hi; omega
      · clear hi
        refine step_of rfl rfl rfl ?_
        intro u G w hf S
        simp only [resOf, spec, RSpec.resAt, z0, z1, z2, z3, z4, z5, z6, z7, ptrBlk] at S ⊢
        simp only [does]
        go_simp
        try first | exact S | exact ⟨vv, S⟩ | exact vv
      · clear hi
        refine step_of rfl rfl rfl ?_
        intro u G w hf S
        have f0 : u 0 = (.slice (some ⟨b, off, none⟩) 46 c0) := hf 0 (by simp)
        simp only [resOf, spec, RSpec.resAt, z0, z1, z2, z3, z4, z5, z6, z7, ptrBlk] at S ⊢
        simp only [f0]
        simp only [does]
        go_simp
        try first | exact S | exact ⟨vv, S⟩ | exact vv
      · clear hi
        refine step_of rfl rfl rfl ?_
        intro u G w hf S
        have f0 : u 0 = (.slice (some ⟨b, off, none⟩) 46 c0) := hf 0 (by simp)
        have f1 : u 1 = .pointer (some ⟨b, off, none⟩) := hf 1 (by simp)
        simp only [resOf, spec, RSpec.resAt, z0, z1, z2, z3, z4, z5, z6, z7, ptrBlk] at S ⊢
        simp only [f0, f1]
        refine does_load1 5 (.tmp 11) _ _ rfl (S.old_cell hy) _ Tryd.underlying5 rfl ?_; exact ⟨rfl, S⟩
      · clear hi
        refine step_of rfl rfl rfl ?_
        intro u G w hf S
        simp only [resOf, spec, RSpec.resAt, z0, z1, z2, z3, z4, z5, z6, z7, ptrBlk] at S ⊢
        simp only [does]
        go_simp
        try first | exact S | exact ⟨vv, S⟩ | exact vv
      · clear hi
        refine step_of rfl rfl rfl ?_
        intro u G w hf S
        have f3 : u 3 = (.slice (some ⟨b, off, none⟩) 46 c0) := hf 3 (by simp)
        simp only [resOf, spec, RSpec.resAt, z0, z1, z2, z3, z4, z5, z6, z7, ptrBlk] at S ⊢
        simp only [f3]
        simp only [does]
        go_simp
        try first | exact S | exact ⟨vv, S⟩ | exact vv
      · clear hi
        refine step_of rfl rfl rfl ?_
        intro u G w hf S
        have f3 : u 3 = (.slice (some ⟨b, off, none⟩) 46 c0) := hf 3 (by simp)
        have f4 : u 4 = .pointer (some ⟨b, off + 1, none⟩) := hf 4 (by simp)
        simp only [resOf, spec, RSpec.resAt, z0, z1, z2, z3, z4, z5, z6, z7, ptrBlk] at S ⊢
        simp only [f3, f4]
        refine does_load1 5 (.tmp 14) _ _ rfl (S.old_cell hy) _ Tryd.underlying5 rfl ?_; exact ⟨rfl, S⟩
      · clear hi
        refine step_of rfl rfl rfl ?_
        intro u G w hf S
        simp only [resOf, spec, RSpec.resAt, z0, z1, z2, z3, z4, z5, z6, z7, ptrBlk] at S ⊢
        simp only [does]
        go_simp
        try first | exact S | exact ⟨vv, S⟩ | exact vv
      · clear hi
        refine step_of rfl rfl rfl ?_
        intro u G w hf S
        have f6 : u 6 = (.slice (some ⟨b, off, none⟩) 46 c0) := hf 6 (by simp)
        simp only [resOf, spec, RSpec.resAt, z0, z1, z2, z3, z4, z5, z6, z7, ptrBlk] at S ⊢
        simp only [f6]
        rw [← HCUT.out]; refine does_cutLH 22 5 1 (.tmp 16) _ _ _ _ _ _ _ _ _ 2 10 rfl rfl rfl rfl rfl (by decide) (by omega) Tryd.underlying22 (by kernel_rfl) ?_; exact ⟨rfl, S⟩
      · clear hi
        refine step_of rfl rfl rfl ?_
        intro u G w hf S
        have f6 : u 6 = (.slice (some ⟨b, off, none⟩) 46 c0) := hf 6 (by simp)
        have f7 : u 7 = .slice (some ⟨b, off + 2, none⟩) 8 (c0 - 2) := hf 7 (by simp)
        simp only [resOf, spec, RSpec.resAt, z0, z1, z2, z3, z4, z5, z6, z7, ptrBlk] at S ⊢
        simp only [f6, f7]
        refine does_fn (args := [(.slice (some ⟨b, off + 2, none⟩) 8 (c0 - 2))]) Tryd.func48 (by kernel_rfl) (by kernel_rfl) (P1.out _ w (S.oldB HB1.out)) rfl ?_
        rintro e w1 ⟨rfl, T⟩
        exact ⟨_, rfl, rfl, S.call T⟩
      · clear hi
        refine step_of rfl rfl rfl ?_
        intro u G w hf S
        simp only [resOf, spec, RSpec.resAt, z0, z1, z2, z3, z4, z5, z6, z7, ptrBlk] at S ⊢
        simp only [does]
        go_simp
        try first | exact S | exact ⟨vv, S⟩ | exact vv
      · clear hi
        refine step_of rfl rfl rfl ?_
        intro u G w hf S
        have f9 : u 9 = (.slice (some ⟨b, off, none⟩) 46 c0) := hf 9 (by simp)
        simp only [resOf, spec, RSpec.resAt, z0, z1, z2, z3, z4, z5, z6, z7, ptrBlk] at S ⊢
        simp only [f9]
        rw [← HCUT2.out]; refine does_cutLH 22 5 1 (.tmp 19) _ _ _ _ _ _ _ _ _ 10 14 rfl rfl rfl rfl rfl (by decide) (by omega) Tryd.underlying22 (by kernel_rfl) ?_; exact ⟨rfl, S⟩
      · clear hi
        refine step_of rfl rfl rfl ?_
        intro u G w hf S
        have f6 : u 6 = (.slice (some ⟨b, off, none⟩) 46 c0) := hf 6 (by simp)
        have f7 : u 7 = .slice (some ⟨b, off + 2, none⟩) 8 (c0 - 2) := hf 7 (by simp)
        have f8 : u 8 = .int .u64 (t.expiry.toNat : Int) := hf 8 (by simp)
        have f9 : u 9 = (.slice (some ⟨b, off, none⟩) 46 c0) := hf 9 (by simp)
        have f10 : u 10 = .slice (some ⟨b, off + 10, none⟩) 4 (c0 - 10) := hf 10 (by simp)
        simp only [resOf, spec, RSpec.resAt, z0, z1, z2, z3, z4, z5, z6, z7, ptrBlk] at S ⊢
        simp only [f6, f7, f8, f9, f10]
        refine does_fn (args := [(.slice (some ⟨b, off + 10, none⟩) 4 (c0 - 10))]) Tryd.func48 (by kernel_rfl) (by kernel_rfl) (P2.out _ w (S.oldB HB2.out)) rfl ?_
        rintro e w1 ⟨rfl, T⟩
        exact ⟨_, rfl, rfl, S.call T⟩
      · clear hi
        refine step_of rfl rfl rfl ?_
        intro u G w hf S
        have f6 : u 6 = (.slice (some ⟨b, off, none⟩) 46 c0) := hf 6 (by simp)
        have f7 : u 7 = .slice (some ⟨b, off + 2, none⟩) 8 (c0 - 2) := hf 7 (by simp)
        have f8 : u 8 = .int .u64 (t.expiry.toNat : Int) := hf 8 (by simp)
        have f9 : u 9 = (.slice (some ⟨b, off, none⟩) 46 c0) := hf 9 (by simp)
        have f10 : u 10 = .slice (some ⟨b, off + 10, none⟩) 4 (c0 - 10) := hf 10 (by simp)
        have f11 : u 11 = .int .u64 (t.serial.toNat : Int) := hf 11 (by simp)
        simp only [resOf, spec, RSpec.resAt, z0, z1, z2, z3, z4, z5, z6, z7, ptrBlk] at S ⊢
        simp only [f6, f7, f8, f9, f10, f11]
        simp only [does]
        go_simp
        try first | exact S | exact ⟨vv, S⟩ | exact vv
      · clear hi
        refine step_of rfl rfl rfl ?_
        intro u G w hf S
        have f0 : u 0 = (.slice (some ⟨b, off, none⟩) 46 c0) := hf 0 (by simp)
        have f1 : u 1 = .pointer (some ⟨b, off, none⟩) := hf 1 (by simp)
        have f2 : u 2 = .int .u8 (t.tenant.toNat : Int) := hf 2 (by simp)
        have f3 : u 3 = (.slice (some ⟨b, off, none⟩) 46 c0) := hf 3 (by simp)
        have f4 : u 4 = .pointer (some ⟨b, off + 1, none⟩) := hf 4 (by simp)
        have f5 : u 5 = .int .u8 (t.role.toNat : Int) := hf 5 (by simp)
        have f6 : u 6 = (.slice (some ⟨b, off, none⟩) 46 c0) := hf 6 (by simp)
        have f7 : u 7 = .slice (some ⟨b, off + 2, none⟩) 8 (c0 - 2) := hf 7 (by simp)
        have f8 : u 8 = .int .u64 (t.expiry.toNat : Int) := hf 8 (by simp)
        have f9 : u 9 = (.slice (some ⟨b, off, none⟩) 46 c0) := hf 9 (by simp)
        have f10 : u 10 = .slice (some ⟨b, off + 10, none⟩) 4 (c0 - 10) := hf 10 (by simp)
        have f11 : u 11 = .int .u64 (t.serial.toNat : Int) := hf 11 (by simp)
        have f12 : u 12 = .int .u32 (t.serial.toNat : Int) := hf 12 (by simp)
        simp only [resOf, spec, RSpec.resAt, z0, z1, z2, z3, z4, z5, z6, z7, ptrBlk] at S ⊢
        simp only [f0, f1, f2, f3, f4, f5, f6, f7, f8, f9, f10, f11, f12]
        refine does_buildT4 _ _ _ _ t.tenant t.role t.expiry t.serial rfl rfl rfl rfl ?_; exact ⟨rfl, S⟩
      · clear hi
        refine step_of rfl rfl rfl ?_
        intro u G w hf S
        simp only [resOf, spec, RSpec.resAt, z0, z1, z2, z3, z4, z5, z6, z7, ptrBlk] at S ⊢
        refine does_alloc S 27 (.agg ((tokL tokZ).toArray)) ((tokL tokZ).toArray) (by kernel_rfl) rfl ?_; intro g w1 S; exact ⟨⟨g, rfl⟩, S⟩
      · clear hi
        refine step_of rfl rfl rfl ?_
        intro u G w hf S
        have f0 : u 0 = (.slice (some ⟨b, off, none⟩) 46 c0) := hf 0 (by simp)
        have f1 : u 1 = .pointer (some ⟨b, off, none⟩) := hf 1 (by simp)
        have f2 : u 2 = .int .u8 (t.tenant.toNat : Int) := hf 2 (by simp)
        have f3 : u 3 = (.slice (some ⟨b, off, none⟩) 46 c0) := hf 3 (by simp)
        have f4 : u 4 = .pointer (some ⟨b, off + 1, none⟩) := hf 4 (by simp)
        have f5 : u 5 = .int .u8 (t.role.toNat : Int) := hf 5 (by simp)
        have f6 : u 6 = (.slice (some ⟨b, off, none⟩) 46 c0) := hf 6 (by simp)
        have f7 : u 7 = .slice (some ⟨b, off + 2, none⟩) 8 (c0 - 2) := hf 7 (by simp)
        have f8 : u 8 = .int .u64 (t.expiry.toNat : Int) := hf 8 (by simp)
        have f9 : u 9 = (.slice (some ⟨b, off, none⟩) 46 c0) := hf 9 (by simp)
        have f10 : u 10 = .slice (some ⟨b, off + 10, none⟩) 4 (c0 - 10) := hf 10 (by simp)
        have f11 : u 11 = .int .u64 (t.serial.toNat : Int) := hf 11 (by simp)
        have f12 : u 12 = .int .u32 (t.serial.toNat : Int) := hf 12 (by simp)
        have f13 : u 13 = .agg (tokL ⟨t.tenant, t.role, t.expiry, t.serial, zs32, rfl⟩).toArray := hf 13 (by simp)
        have f14 : ∃ g, u 14 = .pointer (some ⟨g, 0, none⟩) := hf 14 (by simp)
        obtain ⟨g4, f14⟩ := f14
        have m14 : mask [0, 1, 2, 3, 4, 5, 6, 7, 8, 9, 10, 11, 12, 13, 14] u 14 = u 14 := rfl
        simp only [resOf, spec, RSpec.resAt, List.getD_cons_zero, List.getD_cons_succ, List.flatMap_cons, List.flatMap_nil, List.nil_append, List.cons_append, List.append_nil, List.append_assoc, m14, ptrBlk] at S ⊢
        simp only [m14, f0, f1, f2, f3, f4, f5, f6, f7, f8, f9, f10, f11, f12, f13, f14] at S ⊢
        try simp only [ptrBlk] at S
        refine does_store S 27 (.tmp 4) (.tmp 23) _ rfl rfl 36 (by kernel_rfl) (by first | rfl | (first | rfl | assumption | (exact Hid.out (by assumption)) | (exact tokL_size _) | (rw [arr8_size]; first | rfl | assumption | (exact Hid.out (by assumption)) | exact tokL_size _ | exact List.length_replicate ..) | (simp [arr8_size]; done))) (by first | rfl | (first | rfl | assumption | (exact Hid.out (by assumption)) | (exact tokL_size _) | (rw [arr8_size]; first | rfl | assumption | (exact Hid.out (by assumption)) | exact tokL_size _ | exact List.length_replicate ..) | (simp [arr8_size]; done))) on1 ?_; intro w1 S; exact ⟨trivial, S⟩
    case fin2 =>
      intro u w hf S
      have f0 : u 0 = (.slice (some ⟨b, off, none⟩) 46 c0) := hf 0 (by simp)
      have f1 : u 1 = .pointer (some ⟨b, off, none⟩) := hf 1 (by simp)
      have f2 : u 2 = .int .u8 (t.tenant.toNat : Int) := hf 2 (by simp)
      have f3 : u 3 = (.slice (some ⟨b, off, none⟩) 46 c0) := hf 3 (by simp)
      have f4 : u 4 = .pointer (some ⟨b, off + 1, none⟩) := hf 4 (by simp)
      have f5 : u 5 = .int .u8 (t.role.toNat : Int) := hf 5 (by simp)
      have f6 : u 6 = (.slice (some ⟨b, off, none⟩) 46 c0) := hf 6 (by simp)
      have f7 : u 7 = .slice (some ⟨b, off + 2, none⟩) 8 (c0 - 2) := hf 7 (by simp)
      have f8 : u 8 = .int .u64 (t.expiry.toNat : Int) := hf 8 (by simp)
      have f9 : u 9 = (.slice (some ⟨b, off, none⟩) 46 c0) := hf 9 (by simp)
      have f10 : u 10 = .slice (some ⟨b, off + 10, none⟩) 4 (c0 - 10) := hf 10 (by simp)
      have f11 : u 11 = .int .u64 (t.serial.toNat : Int) := hf 11 (by simp)
      have f12 : u 12 = .int .u32 (t.serial.toNat : Int) := hf 12 (by simp)
      have f13 : u 13 = .agg (tokL ⟨t.tenant, t.role, t.expiry, t.serial, zs32, rfl⟩).toArray := hf 13 (by simp)
      have f14 : ∃ g, u 14 = .pointer (some ⟨g, 0, none⟩) := hf 14 (by simp)
      obtain ⟨g4, f14⟩ := f14
      have m15_14 : mask [0, 1, 2, 3, 4, 5, 6, 7, 8, 9, 10, 11, 12, 13, 14] u 14 = u 14 := rfl
      simp only [resOf, spec, RSpec.resAt, List.getD_cons_zero, List.getD_cons_succ, List.flatMap_cons, List.flatMap_nil, List.nil_append, List.cons_append, List.append_nil, List.append_assoc, m15_14, ptrBlk] at S
      clear hf
      simp only [List.length_cons, List.length_nil, Nat.zero_add, Nat.reduceAdd, List.drop_succ_cons, List.drop_zero, f0, f1, f2, f3, f4, f5, f6, f7, f8, f9, f10, f11, f12, f13, f14]
      try simp only [f0, f1, f2, f3, f4, f5, f6, f7, f8, f9, f10, f11, f12, f13, f14, ptrBlk] at S
      clear f0 f1 f2 f3 f4 f5 f6 f7 f8 f9 f10 f11 f12 f13 f14 m15_14
      rw [← cellsK_zero] at S
      go_wp2_with (first | ((with_reducible show wpList _ _ _ (⟨some 2, .alloc 27, _, _, _, _⟩ :: _) _ _); refine step_alloc (dst := some 2) S 27 (.agg ((tokL tokZ).toArray)) ((tokL tokZ).toArray) (by kernel_rfl) rfl rfl ?_; clear S; intro g2 w S) | ((with_reducible show wpList _ _ _ (⟨some 9, .build 27 _, _, _, _, _⟩ :: _) _ _); refine step_buildZ 27 (.agg ((tokL tokZ).toArray)) (fun w => by kernel_rfl) rfl ?_) | ((with_reducible show wpList _ _ _ (⟨none, .store 27 (.tmp 2) (.tmp 9), _, _, _, _⟩ :: _) _ _); refine step_store S 27 (.tmp 2) (.tmp 9) _ _ rfl rfl _ _ pk 36 (by kernel_rfl) (by first | rfl | (first | rfl | assumption | (exact Hid.out (by assumption)) | (exact tokL_size _) | (rw [arr8_size]; first | rfl | assumption | (exact Hid.out (by assumption)) | exact tokL_size _ | exact List.length_replicate ..) | (simp [arr8_size]; done))) (by first | rfl | (first | rfl | assumption | (exact Hid.out (by assumption)) | (exact tokL_size _) | (rw [arr8_size]; first | rfl | assumption | (exact Hid.out (by assumption)) | exact tokL_size _ | exact List.length_replicate ..) | (simp [arr8_size]; done))) on1 rfl ?_; clear S; intro w S) | ((with_reducible show wpList _ _ _ (⟨_, .load 5 _, _, _, _, _⟩ :: _) _ _); first | (refine step_load1 5 _ _ _ rfl (S.cell pk co) _ Tryd.underlying5 rfl rfl ?_) | (refine step_load1 5 _ _ _ rfl (S.row_cell pk _ _ hyr) _ Tryd.underlying5 rfl rfl ?_) | (refine step_load1 5 _ _ _ rfl (S.row_cellS pk _ _ hy) _ Tryd.underlying5 rfl rfl ?_) | (refine step_load1 5 _ _ _ rfl (S.old_cell hy) _ Tryd.underlying5 rfl rfl ?_)) | ((with_reducible show wpList _ _ _ (⟨_, .slice 22 _ _ _ _, _, _, _, _⟩ :: _) _ _); refine step_cutLH 22 5 1 _ _ _ _ _ _ _ _ _ _ 2 10 rfl rfl rfl (by first | rfl | omega) (by first | rfl | omega) (by first | (first | omega | assumption | (exact Hid.out (by assumption)) | (simp only [List.length_append, List.length_cons, List.length_nil]; omega)) | decide) (by first | (first | omega | assumption | (exact Hid.out (by assumption)) | (simp only [List.length_append, List.length_cons, List.length_nil]; omega)) | decide) Tryd.underlying22 (by kernel_rfl) rfl ?_) | ((with_reducible show wpList _ _ _ (⟨_, .slice 22 _ _ _ _, _, _, _, _⟩ :: _) _ _); refine step_cutLH 22 5 1 _ _ _ _ _ _ _ _ _ _ 10 14 rfl rfl rfl (by first | rfl | omega) (by first | rfl | omega) (by first | (first | omega | assumption | (exact Hid.out (by assumption)) | (simp only [List.length_append, List.length_cons, List.length_nil]; omega)) | decide) (by first | (first | omega | assumption | (exact Hid.out (by assumption)) | (simp only [List.length_append, List.length_cons, List.length_nil]; omega)) | decide) Tryd.underlying22 (by kernel_rfl) rfl ?_) | ((with_reducible show wpList _ _ _ (⟨some 4, .alloc 27, _, _, _, _⟩ :: _) _ _); refine step_alloc (dst := some 4) S 27 (.agg ((tokL tokZ).toArray)) ((tokL tokZ).toArray) (by kernel_rfl) rfl rfl ?_; clear S; intro g4 w S) | ((with_reducible show wpList _ _ _ (⟨none, .store 27 (.tmp 4) (.tmp 23), _, _, _, _⟩ :: _) _ _); refine step_store S 27 (.tmp 4) (.tmp 23) _ _ rfl rfl _ _ pk 36 (by kernel_rfl) (by first | rfl | (first | rfl | assumption | (exact Hid.out (by assumption)) | (exact tokL_size _) | (rw [arr8_size]; first | rfl | assumption | (exact Hid.out (by assumption)) | exact tokL_size _ | exact List.length_replicate ..) | (simp [arr8_size]; done))) (by first | rfl | (first | rfl | assumption | (exact Hid.out (by assumption)) | (exact tokL_size _) | (rw [arr8_size]; first | rfl | assumption | (exact Hid.out (by assumption)) | exact tokL_size _ | exact List.length_replicate ..) | (simp [arr8_size]; done))) on1 rfl ?_; clear S; intro w S) | ((with_reducible show wpList _ _ _ (⟨none, .store 5 (.tmp 35) (.tmp 33), _, _, _, _⟩ :: _) _ _); first | (refine step_store1 S 5 (.tmp 35) (.tmp 33) _ _ (.int _ _) rfl rfl _ _ pk (by kernel_rfl) rfl rfl (by first | rfl | (first | rfl | assumption | (exact Hid.out (by assumption)) | (exact tokL_size _) | (rw [arr8_size]; first | rfl | assumption | (exact Hid.out (by assumption)) | exact tokL_size _ | exact List.length_replicate ..) | (simp [arr8_size]; done))) rfl ?_; clear S; intro w S; try simp only [List.setIfInBounds_toArray, List.set_cons_zero, List.set_cons_succ] at S) | (refine step_storeR S 5 (.tmp 35) (.tmp 33) _ _ (.int _ _) rfl rfl _ _ _ _ pk (by (first | omega | assumption | (exact Hid.out (by assumption)) | (simp only [List.length_append, List.length_cons, List.length_nil]; omega))) (by kernel_rfl) rfl rfl rfl ?_; clear S; intro w S) | (refine step_storeS S 5 (.tmp 35) (.tmp 33) _ _ (.int _ _) rfl rfl _ _ _ _ _ pk (by (first | omega | assumption | (exact Hid.out (by assumption)) | (simp only [List.length_append, List.length_cons, List.length_nil]; omega))) (by kernel_rfl) rfl rfl rfl ?_; clear S; intro w S)) | ((with_reducible show wpList _ _ _ (⟨_, .load 27 _, _, _, _, _⟩ :: _) _ _); first | (refine step_load S 27 _ _ rfl _ _ _ pk _ Tryd.underlying27 rfl 36 (by kernel_rfl) (by first | rfl | (first | rfl | assumption | (exact Hid.out (by assumption)) | (exact tokL_size _) | (rw [arr8_size]; first | rfl | assumption | (exact Hid.out (by assumption)) | exact tokL_size _ | exact List.length_replicate ..) | (simp [arr8_size]; done))) rfl ?_) | (refine step_loadO 27 _ _ rfl _ _ _ (S.old_heap (Hid.out (by assumption))) _ Tryd.underlying27 rfl 36 (by kernel_rfl) (by first | rfl | (first | rfl | assumption | (exact Hid.out (by assumption)) | (exact tokL_size _) | (rw [arr8_size]; first | rfl | assumption | (exact Hid.out (by assumption)) | exact tokL_size _ | exact List.length_replicate ..) | (simp [arr8_size]; done))) rfl ?_) | (refine step_loadR 27 _ _ _ rfl _ (S.old_range hy) _ Tryd.underlying27 rfl 36 (by kernel_rfl) (by first | rfl | (first | rfl | assumption | (exact Hid.out (by assumption)) | (exact tokL_size _) | (rw [arr8_size]; first | rfl | assumption | (exact Hid.out (by assumption)) | exact tokL_size _ | exact List.length_replicate ..) | (simp [arr8_size]; done))) _ rfl rfl ?_)) | ((with_reducible show wpList _ _ _ (⟨none, .store 27 (.tmp 2) (.tmp 36), _, _, _, _⟩ :: _) _ _); refine step_store S 27 (.tmp 2) (.tmp 36) _ _ rfl rfl _ _ pk 36 (by kernel_rfl) (by first | rfl | (first | rfl | assumption | (exact Hid.out (by assumption)) | (exact tokL_size _) | (rw [arr8_size]; first | rfl | assumption | (exact Hid.out (by assumption)) | exact tokL_size _ | exact List.length_replicate ..) | (simp [arr8_size]; done))) (by first | rfl | (first | rfl | assumption | (exact Hid.out (by assumption)) | (exact tokL_size _) | (rw [arr8_size]; first | rfl | assumption | (exact Hid.out (by assumption)) | exact tokL_size _ | exact List.length_replicate ..) | (simp [arr8_size]; done))) on1 rfl ?_; clear S; intro w S) | fail)
      go_loopw [5] (fun i wr => ∃ (k : Nat), k ≤ 32 ∧ i = .int .i64 (k : Int) ∧ Has w0 wr [blk g4 (.cells (cellsK t k) 27 (0, 0)), blk g2 (.cells (tokL tokZ).toArray 27 (0, 0))]) (fun i _ => 32 - (intOf i).toNat)
      case atStart => exact ⟨0, Nat.zero_le _, rfl, S⟩
      case round =>
        obtain ⟨k, hk, rfl, S⟩ := hrel
        by_cases hlt : k < 32
        · have hki : (k : Int) < 32 := by omega
          have hki2 : 14 + (k : Int) < 46 := by omega
          obtain ⟨x, hx⟩ : ∃ x, t.tag[k]? = some x := ⟨_, List.getElem?_eq_getElem (by rw [t.len]; exact hlt)⟩
          have hxc := HR.out k x hx
          have hcs := cellsK_set t k x hx
          have hks := cellsK_size t k hk
          have hks2 : 4 + k < (cellsK t k).size := by omega
          have HXC := Lib.hid hxc; have HCS := Lib.hid hcs; have HKS := Lib.hid hks; have HKS2 := Lib.hid hks2; clear hxc hcs hks hks2
          clear hx
          go_wp2_with (first | ((with_reducible show wpList _ _ _ (⟨some 2, .alloc 27, _, _, _, _⟩ :: _) _ _); refine step_alloc (dst := some 2) S 27 (.agg ((tokL tokZ).toArray)) ((tokL tokZ).toArray) (by kernel_rfl) rfl rfl ?_; clear S; intro g2 w S) | ((with_reducible show wpList _ _ _ (⟨some 9, .build 27 _, _, _, _, _⟩ :: _) _ _); refine step_buildZ 27 (.agg ((tokL tokZ).toArray)) (fun w => by kernel_rfl) rfl ?_) | ((with_reducible show wpList _ _ _ (⟨none, .store 27 (.tmp 2) (.tmp 9), _, _, _, _⟩ :: _) _ _); refine step_store S 27 (.tmp 2) (.tmp 9) _ _ rfl rfl _ _ pk 36 (by kernel_rfl) (by first | rfl | (first | rfl | assumption | (exact Hid.out (by assumption)) | (exact tokL_size _) | (rw [arr8_size]; first | rfl | assumption | (exact Hid.out (by assumption)) | exact tokL_size _ | exact List.length_replicate ..) | (simp [arr8_size]; done))) (by first | rfl | (first | rfl | assumption | (exact Hid.out (by assumption)) | (exact tokL_size _) | (rw [arr8_size]; first | rfl | assumption | (exact Hid.out (by assumption)) | exact tokL_size _ | exact List.length_replicate ..) | (simp [arr8_size]; done))) on1 rfl ?_; clear S; intro w S) | ((with_reducible show wpList _ _ _ (⟨_, .load 5 _, _, _, _, _⟩ :: _) _ _); first | (refine step_load1 5 _ _ _ rfl (S.cell pk co) _ Tryd.underlying5 rfl rfl ?_) | (refine step_load1 5 _ _ _ rfl (S.row_cell pk _ _ hyr) _ Tryd.underlying5 rfl rfl ?_) | (refine step_load1 5 _ _ _ rfl (S.row_cellS pk _ _ hy) _ Tryd.underlying5 rfl rfl ?_) | (refine step_load1 5 _ _ _ rfl (S.old_cell hy) _ Tryd.underlying5 rfl rfl ?_)) | ((with_reducible show wpList _ _ _ (⟨_, .slice 22 _ _ _ _, _, _, _, _⟩ :: _) _ _); refine step_cutLH 22 5 1 _ _ _ _ _ _ _ _ _ _ 2 10 rfl rfl rfl (by first | rfl | omega) (by first | rfl | omega) (by first | (first | omega | assumption | (exact Hid.out (by assumption)) | (simp only [List.length_append, List.length_cons, List.length_nil]; omega)) | decide) (by first | (first | omega | assumption | (exact Hid.out (by assumption)) | (simp only [List.length_append, List.length_cons, List.length_nil]; omega)) | decide) Tryd.underlying22 (by kernel_rfl) rfl ?_) | ((with_reducible show wpList _ _ _ (⟨_, .slice 22 _ _ _ _, _, _, _, _⟩ :: _) _ _); refine step_cutLH 22 5 1 _ _ _ _ _ _ _ _ _ _ 10 14 rfl rfl rfl (by first | rfl | omega) (by first | rfl | omega) (by first | (first | omega | assumption | (exact Hid.out (by assumption)) | (simp only [List.length_append, List.length_cons, List.length_nil]; omega)) | decide) (by first | (first | omega | assumption | (exact Hid.out (by assumption)) | (simp only [List.length_append, List.length_cons, List.length_nil]; omega)) | decide) Tryd.underlying22 (by kernel_rfl) rfl ?_) | ((with_reducible show wpList _ _ _ (⟨some 4, .alloc 27, _, _, _, _⟩ :: _) _ _); refine step_alloc (dst := some 4) S 27 (.agg ((tokL tokZ).toArray)) ((tokL tokZ).toArray) (by kernel_rfl) rfl rfl ?_; clear S; intro g4 w S) | ((with_reducible show wpList _ _ _ (⟨none, .store 27 (.tmp 4) (.tmp 23), _, _, _, _⟩ :: _) _ _); refine step_store S 27 (.tmp 4) (.tmp 23) _ _ rfl rfl _ _ pk 36 (by kernel_rfl) (by first | rfl | (first | rfl | assumption | (exact Hid.out (by assumption)) | (exact tokL_size _) | (rw [arr8_size]; first | rfl | assumption | (exact Hid.out (by assumption)) | exact tokL_size _ | exact List.length_replicate ..) | (simp [arr8_size]; done))) (by first | rfl | (first | rfl | assumption | (exact Hid.out (by assumption)) | (exact tokL_size _) | (rw [arr8_size]; first | rfl | assumption | (exact Hid.out (by assumption)) | exact tokL_size _ | exact List.length_replicate ..) | (simp [arr8_size]; done))) on1 rfl ?_; clear S; intro w S) | ((with_reducible show wpList _ _ _ (⟨none, .store 5 (.tmp 35) (.tmp 33), _, _, _, _⟩ :: _) _ _); first | (refine step_store1 S 5 (.tmp 35) (.tmp 33) _ _ (.int _ _) rfl rfl _ _ pk (by kernel_rfl) rfl rfl (by first | rfl | (first | rfl | assumption | (exact Hid.out (by assumption)) | (exact tokL_size _) | (rw [arr8_size]; first | rfl | assumption | (exact Hid.out (by assumption)) | exact tokL_size _ | exact List.length_replicate ..) | (simp [arr8_size]; done))) rfl ?_; clear S; intro w S; try simp only [List.setIfInBounds_toArray, List.set_cons_zero, List.set_cons_succ] at S) | (refine step_storeR S 5 (.tmp 35) (.tmp 33) _ _ (.int _ _) rfl rfl _ _ _ _ pk (by (first | omega | assumption | (exact Hid.out (by assumption)) | (simp only [List.length_append, List.length_cons, List.length_nil]; omega))) (by kernel_rfl) rfl rfl rfl ?_; clear S; intro w S) | (refine step_storeS S 5 (.tmp 35) (.tmp 33) _ _ (.int _ _) rfl rfl _ _ _ _ _ pk (by (first | omega | assumption | (exact Hid.out (by assumption)) | (simp only [List.length_append, List.length_cons, List.length_nil]; omega))) (by kernel_rfl) rfl rfl rfl ?_; clear S; intro w S)) | ((with_reducible show wpList _ _ _ (⟨_, .load 27 _, _, _, _, _⟩ :: _) _ _); first | (refine step_load S 27 _ _ rfl _ _ _ pk _ Tryd.underlying27 rfl 36 (by kernel_rfl) (by first | rfl | (first | rfl | assumption | (exact Hid.out (by assumption)) | (exact tokL_size _) | (rw [arr8_size]; first | rfl | assumption | (exact Hid.out (by assumption)) | exact tokL_size _ | exact List.length_replicate ..) | (simp [arr8_size]; done))) rfl ?_) | (refine step_loadO 27 _ _ rfl _ _ _ (S.old_heap (Hid.out (by assumption))) _ Tryd.underlying27 rfl 36 (by kernel_rfl) (by first | rfl | (first | rfl | assumption | (exact Hid.out (by assumption)) | (exact tokL_size _) | (rw [arr8_size]; first | rfl | assumption | (exact Hid.out (by assumption)) | exact tokL_size _ | exact List.length_replicate ..) | (simp [arr8_size]; done))) rfl ?_) | (refine step_loadR 27 _ _ _ rfl _ (S.old_range hy) _ Tryd.underlying27 rfl 36 (by kernel_rfl) (by first | rfl | (first | rfl | assumption | (exact Hid.out (by assumption)) | (exact tokL_size _) | (rw [arr8_size]; first | rfl | assumption | (exact Hid.out (by assumption)) | exact tokL_size _ | exact List.length_replicate ..) | (simp [arr8_size]; done))) _ rfl rfl ?_)) | ((with_reducible show wpList _ _ _ (⟨none, .store 27 (.tmp 2) (.tmp 36), _, _, _, _⟩ :: _) _ _); refine step_store S 27 (.tmp 2) (.tmp 36) _ _ rfl rfl _ _ pk 36 (by kernel_rfl) (by first | rfl | (first | rfl | assumption | (exact Hid.out (by assumption)) | (exact tokL_size _) | (rw [arr8_size]; first | rfl | assumption | (exact Hid.out (by assumption)) | exact tokL_size _ | exact List.length_replicate ..) | (simp [arr8_size]; done))) (by first | rfl | (first | rfl | assumption | (exact Hid.out (by assumption)) | (exact tokL_size _) | (rw [arr8_size]; first | rfl | assumption | (exact Hid.out (by assumption)) | exact tokL_size _ | exact List.length_replicate ..) | (simp [arr8_size]; done))) on1 rfl ?_; clear S; intro w S) | fail)
          go_roundw
          case rel => exact ⟨k + 1, by omega, by go_num, by rw [← HCS.out]; exact S.sub (by repeat (first | exact Sub.nil _ | refine Sub.cons pk ?_))⟩
          case measure => simp [intOf]; omega
        · obtain rfl : k = 32 := by omega
          rw [cellsK_all] at S
          go_wp2_with (first | ((with_reducible show wpList _ _ _ (⟨some 2, .alloc 27, _, _, _, _⟩ :: _) _ _); refine step_alloc (dst := some 2) S 27 (.agg ((tokL tokZ).toArray)) ((tokL tokZ).toArray) (by kernel_rfl) rfl rfl ?_; clear S; intro g2 w S) | ((with_reducible show wpList _ _ _ (⟨some 9, .build 27 _, _, _, _, _⟩ :: _) _ _); refine step_buildZ 27 (.agg ((tokL tokZ).toArray)) (fun w => by kernel_rfl) rfl ?_) | ((with_reducible show wpList _ _ _ (⟨none, .store 27 (.tmp 2) (.tmp 9), _, _, _, _⟩ :: _) _ _); refine step_store S 27 (.tmp 2) (.tmp 9) _ _ rfl rfl _ _ pk 36 (by kernel_rfl) (by first | rfl | (first | rfl | assumption | (exact Hid.out (by assumption)) | (exact tokL_size _) | (rw [arr8_size]; first | rfl | assumption | (exact Hid.out (by assumption)) | exact tokL_size _ | exact List.length_replicate ..) | (simp [arr8_size]; done))) (by first | rfl | (first | rfl | assumption | (exact Hid.out (by assumption)) | (exact tokL_size _) | (rw [arr8_size]; first | rfl | assumption | (exact Hid.out (by assumption)) | exact tokL_size _ | exact List.length_replicate ..) | (simp [arr8_size]; done))) on1 rfl ?_; clear S; intro w S) | ((with_reducible show wpList _ _ _ (⟨_, .load 5 _, _, _, _, _⟩ :: _) _ _); first | (refine step_load1 5 _ _ _ rfl (S.cell pk co) _ Tryd.underlying5 rfl rfl ?_) | (refine step_load1 5 _ _ _ rfl (S.row_cell pk _ _ hyr) _ Tryd.underlying5 rfl rfl ?_) | (refine step_load1 5 _ _ _ rfl (S.row_cellS pk _ _ hy) _ Tryd.underlying5 rfl rfl ?_) | (refine step_load1 5 _ _ _ rfl (S.old_cell hy) _ Tryd.underlying5 rfl rfl ?_)) | ((with_reducible show wpList _ _ _ (⟨_, .slice 22 _ _ _ _, _, _, _, _⟩ :: _) _ _); refine step_cutLH 22 5 1 _ _ _ _ _ _ _ _ _ _ 2 10 rfl rfl rfl (by first | rfl | omega) (by first | rfl | omega) (by first | (first | omega | assumption | (exact Hid.out (by assumption)) | (simp only [List.length_append, List.length_cons, List.length_nil]; omega)) | decide) (by first | (first | omega | assumption | (exact Hid.out (by assumption)) | (simp only [List.length_append, List.length_cons, List.length_nil]; omega)) | decide) Tryd.underlying22 (by kernel_rfl) rfl ?_) | ((with_reducible show wpList _ _ _ (⟨_, .slice 22 _ _ _ _, _, _, _, _⟩ :: _) _ _); refine step_cutLH 22 5 1 _ _ _ _ _ _ _ _ _ _ 10 14 rfl rfl rfl (by first | rfl | omega) (by first | rfl | omega) (by first | (first | omega | assumption | (exact Hid.out (by assumption)) | (simp only [List.length_append, List.length_cons, List.length_nil]; omega)) | decide) (by first | (first | omega | assumption | (exact Hid.out (by assumption)) | (simp only [List.length_append, List.length_cons, List.length_nil]; omega)) | decide) Tryd.underlying22 (by kernel_rfl) rfl ?_) | ((with_reducible show wpList _ _ _ (⟨some 4, .alloc 27, _, _, _, _⟩ :: _) _ _); refine step_alloc (dst := some 4) S 27 (.agg ((tokL tokZ).toArray)) ((tokL tokZ).toArray) (by kernel_rfl) rfl rfl ?_; clear S; intro g4 w S) | ((with_reducible show wpList _ _ _ (⟨none, .store 27 (.tmp 4) (.tmp 23), _, _, _, _⟩ :: _) _ _); refine step_store S 27 (.tmp 4) (.tmp 23) _ _ rfl rfl _ _ pk 36 (by kernel_rfl) (by first | rfl | (first | rfl | assumption | (exact Hid.out (by assumption)) | (exact tokL_size _) | (rw [arr8_size]; first | rfl | assumption | (exact Hid.out (by assumption)) | exact tokL_size _ | exact List.length_replicate ..) | (simp [arr8_size]; done))) (by first | rfl | (first | rfl | assumption | (exact Hid.out (by assumption)) | (exact tokL_size _) | (rw [arr8_size]; first | rfl | assumption | (exact Hid.out (by assumption)) | exact tokL_size _ | exact List.length_replicate ..) | (simp [arr8_size]; done))) on1 rfl ?_; clear S; intro w S) | ((with_reducible show wpList _ _ _ (⟨none, .store 5 (.tmp 35) (.tmp 33), _, _, _, _⟩ :: _) _ _); first | (refine step_store1 S 5 (.tmp 35) (.tmp 33) _ _ (.int _ _) rfl rfl _ _ pk (by kernel_rfl) rfl rfl (by first | rfl | (first | rfl | assumption | (exact Hid.out (by assumption)) | (exact tokL_size _) | (rw [arr8_size]; first | rfl | assumption | (exact Hid.out (by assumption)) | exact tokL_size _ | exact List.length_replicate ..) | (simp [arr8_size]; done))) rfl ?_; clear S; intro w S; try simp only [List.setIfInBounds_toArray, List.set_cons_zero, List.set_cons_succ] at S) | (refine step_storeR S 5 (.tmp 35) (.tmp 33) _ _ (.int _ _) rfl rfl _ _ _ _ pk (by (first | omega | assumption | (exact Hid.out (by assumption)) | (simp only [List.length_append, List.length_cons, List.length_nil]; omega))) (by kernel_rfl) rfl rfl rfl ?_; clear S; intro w S) | (refine step_storeS S 5 (.tmp 35) (.tmp 33) _ _ (.int _ _) rfl rfl _ _ _ _ _ pk (by (first | omega | assumption | (exact Hid.out (by assumption)) | (simp only [List.length_append, List.length_cons, List.length_nil]; omega))) (by kernel_rfl) rfl rfl rfl ?_; clear S; intro w S)) | ((with_reducible show wpList _ _ _ (⟨_, .load 27 _, _, _, _, _⟩ :: _) _ _); first | (refine step_load S 27 _ _ rfl _ _ _ pk _ Tryd.underlying27 rfl 36 (by kernel_rfl) (by first | rfl | (first | rfl | assumption | (exact Hid.out (by assumption)) | (exact tokL_size _) | (rw [arr8_size]; first | rfl | assumption | (exact Hid.out (by assumption)) | exact tokL_size _ | exact List.length_replicate ..) | (simp [arr8_size]; done))) rfl ?_) | (refine step_loadO 27 _ _ rfl _ _ _ (S.old_heap (Hid.out (by assumption))) _ Tryd.underlying27 rfl 36 (by kernel_rfl) (by first | rfl | (first | rfl | assumption | (exact Hid.out (by assumption)) | (exact tokL_size _) | (rw [arr8_size]; first | rfl | assumption | (exact Hid.out (by assumption)) | exact tokL_size _ | exact List.length_replicate ..) | (simp [arr8_size]; done))) rfl ?_) | (refine step_loadR 27 _ _ _ rfl _ (S.old_range hy) _ Tryd.underlying27 rfl 36 (by kernel_rfl) (by first | rfl | (first | rfl | assumption | (exact Hid.out (by assumption)) | (exact tokL_size _) | (rw [arr8_size]; first | rfl | assumption | (exact Hid.out (by assumption)) | exact tokL_size _ | exact List.length_replicate ..) | (simp [arr8_size]; done))) _ rfl rfl ?_)) | ((with_reducible show wpList _ _ _ (⟨none, .store 27 (.tmp 2) (.tmp 36), _, _, _, _⟩ :: _) _ _); refine step_store S 27 (.tmp 2) (.tmp 36) _ _ rfl rfl _ _ pk 36 (by kernel_rfl) (by first | rfl | (first | rfl | assumption | (exact Hid.out (by assumption)) | (exact tokL_size _) | (rw [arr8_size]; first | rfl | assumption | (exact Hid.out (by assumption)) | exact tokL_size _ | exact List.length_replicate ..) | (simp [arr8_size]; done))) (by first | rfl | (first | rfl | assumption | (exact Hid.out (by assumption)) | (exact tokL_size _) | (rw [arr8_size]; first | rfl | assumption | (exact Hid.out (by assumption)) | exact tokL_size _ | exact List.length_replicate ..) | (simp [arr8_size]; done))) on1 rfl ?_; clear S; intro w S) | fail)
          refine ret_row_tmp rfl g2 27 _ (S.get pk) _ Tryd.underlying27 36 (by kernel_rfl) (by first | rfl | (first | rfl | assumption | (exact Hid.out (by assumption)) | (exact tokL_size _) | (rw [arr8_size]; first | rfl | assumption | (exact Hid.out (by assumption)) | exact tokL_size _ | exact List.length_replicate ..) | (simp [arr8_size]; done))) rfl rfl rfl ?_
          exact ⟨rfl, S.nil⟩
  · rw [show decT xs = tokZ from dif_neg hl, show decE xs = 11 from if_neg hl]
    have i1 : ((xs.length : Int) != 46) = true := by simp; omega
    have H := Lib.hid h; clear h
    go_enter Tryd.func19, Tryd.ntmps19
    go_wp2_with (first | ((with_reducible show wpList _ _ _ (⟨some 2, .alloc 27, _, _, _, _⟩ :: _) _ _); refine step_alloc (dst := some 2) S 27 (.agg ((tokL tokZ).toArray)) ((tokL tokZ).toArray) (by kernel_rfl) rfl rfl ?_; clear S; intro g2 w S) | ((with_reducible show wpList _ _ _ (⟨some 9, .build 27 _, _, _, _, _⟩ :: _) _ _); refine step_buildZ 27 (.agg ((tokL tokZ).toArray)) (fun w => by kernel_rfl) rfl ?_) | ((with_reducible show wpList _ _ _ (⟨none, .store 27 (.tmp 2) (.tmp 9), _, _, _, _⟩ :: _) _ _); refine step_store S 27 (.tmp 2) (.tmp 9) _ _ rfl rfl _ _ pk 36 (by kernel_rfl) (by first | rfl | (first | rfl | assumption | (exact Hid.out (by assumption)) | (exact tokL_size _) | (rw [arr8_size]; first | rfl | assumption | (exact Hid.out (by assumption)) | exact tokL_size _ | exact List.length_replicate ..) | (simp [arr8_size]; done))) (by first | rfl | (first | rfl | assumption | (exact Hid.out (by assumption)) | (exact tokL_size _) | (rw [arr8_size]; first | rfl | assumption | (exact Hid.out (by assumption)) | exact tokL_size _ | exact List.length_replicate ..) | (simp [arr8_size]; done))) on1 rfl ?_; clear S; intro w S) | ((with_reducible show wpList _ _ _ (⟨_, .load 5 _, _, _, _, _⟩ :: _) _ _); first | (refine step_load1 5 _ _ _ rfl (S.cell pk co) _ Tryd.underlying5 rfl rfl ?_) | (refine step_load1 5 _ _ _ rfl (S.row_cell pk _ _ hyr) _ Tryd.underlying5 rfl rfl ?_) | (refine step_load1 5 _ _ _ rfl (S.row_cellS pk _ _ hy) _ Tryd.underlying5 rfl rfl ?_) | (refine step_load1 5 _ _ _ rfl (S.old_cell hy) _ Tryd.underlying5 rfl rfl ?_)) | ((with_reducible show wpList _ _ _ (⟨_, .slice 22 _ _ _ _, _, _, _, _⟩ :: _) _ _); refine step_cutLH 22 5 1 _ _ _ _ _ _ _ _ _ _ 2 10 rfl rfl rfl (by first | rfl | omega) (by first | rfl | omega) (by first | (first | omega | assumption | (exact Hid.out (by assumption)) | (simp only [List.length_append, List.length_cons, List.length_nil]; omega)) | decide) (by first | (first | omega | assumption | (exact Hid.out (by assumption)) | (simp only [List.length_append, List.length_cons, List.length_nil]; omega)) | decide) Tryd.underlying22 (by kernel_rfl) rfl ?_) | ((with_reducible show wpList _ _ _ (⟨_, .slice 22 _ _ _ _, _, _, _, _⟩ :: _) _ _); refine step_cutLH 22 5 1 _ _ _ _ _ _ _ _ _ _ 10 14 rfl rfl rfl (by first | rfl | omega) (by first | rfl | omega) (by first | (first | omega | assumption | (exact Hid.out (by assumption)) | (simp only [List.length_append, List.length_cons, List.length_nil]; omega)) | decide) (by first | (first | omega | assumption | (exact Hid.out (by assumption)) | (simp only [List.length_append, List.length_cons, List.length_nil]; omega)) | decide) Tryd.underlying22 (by kernel_rfl) rfl ?_) | ((with_reducible show wpList _ _ _ (⟨some 4, .alloc 27, _, _, _, _⟩ :: _) _ _); refine step_alloc (dst := some 4) S 27 (.agg ((tokL tokZ).toArray)) ((tokL tokZ).toArray) (by kernel_rfl) rfl rfl ?_; clear S; intro g4 w S) | ((with_reducible show wpList _ _ _ (⟨none, .store 27 (.tmp 4) (.tmp 23), _, _, _, _⟩ :: _) _ _); refine step_store S 27 (.tmp 4) (.tmp 23) _ _ rfl rfl _ _ pk 36 (by kernel_rfl) (by first | rfl | (first | rfl | assumption | (exact Hid.out (by assumption)) | (exact tokL_size _) | (rw [arr8_size]; first | rfl | assumption | (exact Hid.out (by assumption)) | exact tokL_size _ | exact List.length_replicate ..) | (simp [arr8_size]; done))) (by first | rfl | (first | rfl | assumption | (exact Hid.out (by assumption)) | (exact tokL_size _) | (rw [arr8_size]; first | rfl | assumption | (exact Hid.out (by assumption)) | exact tokL_size _ | exact List.length_replicate ..) | (simp [arr8_size]; done))) on1 rfl ?_; clear S; intro w S) | ((with_reducible show wpList _ _ _ (⟨none, .store 5 (.tmp 35) (.tmp 33), _, _, _, _⟩ :: _) _ _); first | (refine step_store1 S 5 (.tmp 35) (.tmp 33) _ _ (.int _ _) rfl rfl _ _ pk (by kernel_rfl) rfl rfl (by first | rfl | (first | rfl | assumption | (exact Hid.out (by assumption)) | (exact tokL_size _) | (rw [arr8_size]; first | rfl | assumption | (exact Hid.out (by assumption)) | exact tokL_size _ | exact List.length_replicate ..) | (simp [arr8_size]; done))) rfl ?_; clear S; intro w S; try simp only [List.setIfInBounds_toArray, List.set_cons_zero, List.set_cons_succ] at S) | (refine step_storeR S 5 (.tmp 35) (.tmp 33) _ _ (.int _ _) rfl rfl _ _ _ _ pk (by (first | omega | assumption | (exact Hid.out (by assumption)) | (simp only [List.length_append, List.length_cons, List.length_nil]; omega))) (by kernel_rfl) rfl rfl rfl ?_; clear S; intro w S) | (refine step_storeS S 5 (.tmp 35) (.tmp 33) _ _ (.int _ _) rfl rfl _ _ _ _ _ pk (by (first | omega | assumption | (exact Hid.out (by assumption)) | (simp only [List.length_append, List.length_cons, List.length_nil]; omega))) (by kernel_rfl) rfl rfl rfl ?_; clear S; intro w S)) | ((with_reducible show wpList _ _ _ (⟨_, .load 27 _, _, _, _, _⟩ :: _) _ _); first | (refine step_load S 27 _ _ rfl _ _ _ pk _ Tryd.underlying27 rfl 36 (by kernel_rfl) (by first | rfl | (first | rfl | assumption | (exact Hid.out (by assumption)) | (exact tokL_size _) | (rw [arr8_size]; first | rfl | assumption | (exact Hid.out (by assumption)) | exact tokL_size _ | exact List.length_replicate ..) | (simp [arr8_size]; done))) rfl ?_) | (refine step_loadO 27 _ _ rfl _ _ _ (S.old_heap (Hid.out (by assumption))) _ Tryd.underlying27 rfl 36 (by kernel_rfl) (by first | rfl | (first | rfl | assumption | (exact Hid.out (by assumption)) | (exact tokL_size _) | (rw [arr8_size]; first | rfl | assumption | (exact Hid.out (by assumption)) | exact tokL_size _ | exact List.length_replicate ..) | (simp [arr8_size]; done))) rfl ?_) | (refine step_loadR 27 _ _ _ rfl _ (S.old_range hy) _ Tryd.underlying27 rfl 36 (by kernel_rfl) (by first | rfl | (first | rfl | assumption | (exact Hid.out (by assumption)) | (exact tokL_size _) | (rw [arr8_size]; first | rfl | assumption | (exact Hid.out (by assumption)) | exact tokL_size _ | exact List.length_replicate ..) | (simp [arr8_size]; done))) _ rfl rfl ?_)) | ((with_reducible show wpList _ _ _ (⟨none, .store 27 (.tmp 2) (.tmp 36), _, _, _, _⟩ :: _) _ _); refine step_store S 27 (.tmp 2) (.tmp 36) _ _ rfl rfl _ _ pk 36 (by kernel_rfl) (by first | rfl | (first | rfl | assumption | (exact Hid.out (by assumption)) | (exact tokL_size _) | (rw [arr8_size]; first | rfl | assumption | (exact Hid.out (by assumption)) | exact tokL_size _ | exact List.length_replicate ..) | (simp [arr8_size]; done))) (by first | rfl | (first | rfl | assumption | (exact Hid.out (by assumption)) | (exact tokL_size _) | (rw [arr8_size]; first | rfl | assumption | (exact Hid.out (by assumption)) | exact tokL_size _ | exact List.length_replicate ..) | (simp [arr8_size]; done))) on1 rfl ?_; clear S; intro w S) | fail)
    refine ret_row_tmp rfl g2 27 _ (S.get pk) _ Tryd.underlying27 36 (by kernel_rfl) (by first | rfl | (first | rfl | assumption | (exact Hid.out (by assumption)) | (exact tokL_size _) | (rw [arr8_size]; first | rfl | assumption | (exact Hid.out (by assumption)) | exact tokL_size _ | exact List.length_replicate ..) | (simp [arr8_size]; done))) rfl rfl rfl ?_
    exact ⟨rfl, S.nil⟩
end Go.Proofs.YtioonimpobcglaaDoor
