/- Rings: one more entry, a revocation, the live ones: what the specification's and the program's functions return. No condition but the reach. -/
import Derived.Test.YtioonimpobcglaaDoorBd
import Derived.Test.YtioonimpobcglaaDoorBf
set_option linter.unusedSimpArgs false
set_option linter.unusedVariables false
namespace Go.Proofs.YtioonimpobcglaaDoor
open Go.RowKit

theorem mint_parts (l : List Mnt) (role life now : Nat) (hE : mintE l role life now = 0) : chkR l = 0 ∧ ¬ (role < 1 ∨ 3 < role ∨ life = 0 ∨ 4611686018427387904 < life ∨ 4611686018427387904 < now) ∧ l.length ≠ 32 := by
  unfold mintE at hE
  split at hE
  · omega
  · split at hE
    · cases hE
    · split at hE
      · cases hE
      · refine ⟨by omega, by assumption, by assumption⟩

set_option maxRecDepth 100000 in
set_option maxHeartbeats 4000000 in
theorem refMint_r (v : Value) (l : List Mnt) (role life now : Nat) (w0 : World) (h : Rg w0 v l) (hr : role < 256) (hlf : life < 18446744073709551616) (hno : now < 18446744073709551616) :
    Calls Tryd.prog 53 #[v, .int .u8 (role : Int), .int .u64 (life : Int), .int .u64 (now : Int)] w0 (MadeM3 w0 (mintR l role life now) (mintN l role life now) (mintE l role life now)) := by
  have S := Has.start w0
  obtain ⟨a0, c0, rfl, k1, k2⟩ := Sl.shape h
  unfold maxLen at k2
  have hck := fun v w h => refCheck_r v l w h
  by_cases hE : mintE l role life now = 0
  · have hR : mintR l role life now = l ++ [mintM role life now] := if_pos hE
    have hN : mintN l role life now = l.length + 1 := if_pos hE
    rw [hE, hR, hN]
    obtain ⟨hc, hb, hl⟩ := mint_parts l role life now hE
    have h32 := chkR_len l hc
    rw [hc] at hck
    have i1 : ¬ (role : Int) < 1 := by omega
    have i2 : ¬ 3 < (role : Int) := by omega
    have i3 : ¬ (life : Int) < 1 := by omega
    have i4 : ¬ 4611686018427387904 < (life : Int) := by omega
    have i5 : ¬ 4611686018427387904 < (now : Int) := by omega
    have i6 : ((l.length : Int) == 32) = false := by rw [beq_eq_false_iff_ne]; omega
    have hcl := fun v w h => twin_s v l w h (by omega)
    obtain ⟨M, hM⟩ : ∃ M, M = mintM role life now := ⟨_, rfl⟩
    have hle : (l.length + [M].length) * 24 ≤ 140737488355328 := by simp; omega
    have hle2 : (l ++ [M]).length = l.length + 1 := by simp
    by_cases hmn : now + life ≤ 4611686018427387904
    · have hz2 : ¬ 4611686018427387904 < (now : Int) + (life : Int) := by omega
      have hmc := mintM_cells role life now (now + life) hr (if_pos hmn).symm (by omega)
      rw [Int.natCast_add] at hmc
      rw [← hM] at hmc ⊢
      have H := Lib.hid h; have HCK := Lib.hid hck; have HMC := Lib.hid hmc; have HCL := Lib.hid hcl; have HLE := Lib.hid hle; have HLE2 := Lib.hid hle2; clear h hck hmc hcl hle hle2
      clear hM hE hR hN hc hb
      go_enter Tryd.func53, Tryd.ntmps53
      go_wp2_with (first | (go_at_call 42; (with_reducible refine (HCK.out _ _ (by first | assumption | exact S.old (Hid.out (by assumption)) | exact S.sl pk | exact S.sl_rd pk)).mono ?_); rintro e w1 ⟨rfl, T⟩; replace S := S.call T; clear T; (try simp only [List.nil_append, List.cons_append] at S)) | ((with_reducible show wpList _ _ _ (⟨some 12, .alloc 58, _, _, _, _⟩ :: _) _ _); refine step_alloc (dst := some 12) S 58 (.agg ((mintL mintZ).toArray)) ((mintL mintZ).toArray) (by kernel_rfl) rfl gw ?_; clear S; intro g12 w S) | ((with_reducible show wpList _ _ _ (⟨none, .store 58 (.tmp 12) (.tmp 43), _, _, _, _⟩ :: _) _ _); refine step_store S 58 (.tmp 12) (.tmp 43) _ _ rfl rfl _ _ pk 3 (by kernel_rfl) (by first | rfl | (first | rfl | assumption | (exact Hid.out (by assumption)) | (rw [arr8_size]; first | rfl | assumption | (exact Hid.out (by assumption)) | exact List.length_replicate ..) | (simp [arr8_size]; done))) (by first | rfl | (first | rfl | assumption | (exact Hid.out (by assumption)) | (rw [arr8_size]; first | rfl | assumption | (exact Hid.out (by assumption)) | exact List.length_replicate ..) | (simp [arr8_size]; done))) on1 gw ?_; clear S; intro w S) | ((with_reducible show wpList _ _ _ (⟨_, .load 23 _, _, _, _, _⟩ :: _) _ _); first | (refine step_load1 23 _ _ _ rfl (S.cell pk co) _ Tryd.underlying23 rfl gw ?_) | (refine step_load1 23 _ _ _ rfl (S.row_cell pk _ _ hyr) _ Tryd.underlying23 rfl gw ?_) | (refine step_load1 23 _ _ _ rfl (S.row_cellS pk _ _ hy) _ Tryd.underlying23 rfl gw ?_) | (refine step_load1 23 _ _ _ rfl (S.old_cell hy) _ Tryd.underlying23 rfl gw ?_)) | ((with_reducible show wpList _ _ _ (⟨none, .store 23 (.tmp 47) _, _, _, _, _⟩ :: _) _ _); first | (refine step_store1 S 23 (.tmp 47) _ _ _ (.int _ _) rfl rfl _ _ pk (by kernel_rfl) rfl rfl (by first | rfl | (first | rfl | assumption | (exact Hid.out (by assumption)) | (rw [arr8_size]; first | rfl | assumption | (exact Hid.out (by assumption)) | exact List.length_replicate ..) | (simp [arr8_size]; done))) gw ?_; clear S; intro w S; try simp only [List.setIfInBounds_toArray, List.set_cons_zero, List.set_cons_succ] at S) | (refine step_storeR S 23 (.tmp 47) _ _ _ (.int _ _) rfl rfl _ _ _ _ pk (by (first | omega | assumption | (exact Hid.out (by assumption)) | (simp only [List.length_append, List.length_cons, List.length_nil]; omega))) (by kernel_rfl) rfl rfl gw ?_; clear S; intro w S) | (refine step_storeS S 23 (.tmp 47) _ _ _ (.int _ _) rfl rfl _ _ _ _ _ pk (by (first | omega | assumption | (exact Hid.out (by assumption)) | (simp only [List.length_append, List.length_cons, List.length_nil]; omega))) (by kernel_rfl) rfl rfl gw ?_; clear S; intro w S)) | ((with_reducible show wpList _ _ _ (⟨_, .load 58 _, _, _, _, _⟩ :: _) _ _); first | (refine step_load S 58 _ _ rfl _ _ _ pk _ Tryd.underlying58 rfl 3 (by kernel_rfl) (by first | rfl | (first | rfl | assumption | (exact Hid.out (by assumption)) | (rw [arr8_size]; first | rfl | assumption | (exact Hid.out (by assumption)) | exact List.length_replicate ..) | (simp [arr8_size]; done))) gw ?_) | (refine step_loadO 58 _ _ rfl _ _ _ (S.old_heap (Hid.out (by assumption))) _ Tryd.underlying58 rfl 3 (by kernel_rfl) (by first | rfl | (first | rfl | assumption | (exact Hid.out (by assumption)) | (rw [arr8_size]; first | rfl | assumption | (exact Hid.out (by assumption)) | exact List.length_replicate ..) | (simp [arr8_size]; done))) gw ?_) | (refine step_loadR 58 _ _ _ rfl _ (S.old_range hy) _ Tryd.underlying58 rfl 3 (by kernel_rfl) (by first | rfl | (first | rfl | assumption | (exact Hid.out (by assumption)) | (rw [arr8_size]; first | rfl | assumption | (exact Hid.out (by assumption)) | exact List.length_replicate ..) | (simp [arr8_size]; done))) _ rfl gw ?_)) | (at_builtin; refine step_appendM S (.tmp 49) (.tmp 51) _ _ rfl pk _ _ rfl (by first | assumption | exact S.old (Hid.out (by assumption)) | exact S.sl pk | exact S.sl_rd pk) (by (first | omega | assumption | (exact Hid.out (by assumption)) | (simp only [List.length_append, List.length_cons, List.length_nil]; omega))) gw ?_; clear S; intro v52 w S; (try simp only [List.nil_append] at S)) | fail)
      rw [← HMC.out] at S
      refine wp_rely S [⟨[], [], [], fun _ v => v = (.slice a0 l.length c0), fun _ v => []⟩, ⟨[0], [], [], fun _ v => True, fun _ v => [rowM v l]⟩, ⟨[], [], [], fun _ v => v = .agg (mintL M).toArray, fun _ v => []⟩, ⟨[2], [], [], fun _ v => True, fun _ v => [rowM v [M]]⟩, ⟨[0, 1, 2, 3], [1], [3], fun _ v => True, fun _ v => [rowM v (l ++ [M])]⟩, ⟨[], [], [], fun _ v => v = (.slice a0 l.length c0), fun _ v => []⟩, ⟨[5], [], [], fun _ v => v = .int .i64 (l.length : Int), fun _ v => []⟩, ⟨[5, 6], [], [], fun _ v => v = .int .i64 ((l.length : Int) + 1), fun _ v => []⟩, ⟨[5, 6, 7], [], [], fun _ v => v = .int .u32 ((l.length : Int) + 1), fun _ v => []⟩, ⟨[0, 1, 2, 3, 4], [], [], fun d v => v = d 4, fun _ v => []⟩, ⟨[0, 1, 2, 3, 4, 5, 6, 7, 8, 9], [], [], fun _ v => v = (.int .u32 ((l.length : Int) + 1)), fun _ v => []⟩, ⟨[0, 1, 2, 3, 4, 5, 6, 7, 8, 9, 10], [], [], fun _ v => v = (.int .i64 0), fun _ v => []⟩] ?A1 ?hA1 (by kernel_rfl) (by kernel_rfl) (by kernel_rfl) [0, 2, 3, 4, 5, 6, 7, 8, 9, 10, 11] (by kernel_rfl) ?hok1 ?fin1
      case hA1 => intro u; simp only [putAll, List.length_cons, List.length_nil, Nat.zero_add, Nat.reduceAdd, dstAt, List.getElem?_toArray, List.getElem?_cons_zero, List.getElem?_cons_succ, Option.bind_some, Act.put, List.setIfInBounds_toArray, List.set_cons_zero, List.set_cons_succ]; rfl
      case hok1 =>
        intro i hi
        obtain rfl | rfl | rfl | rfl | rfl | rfl | rfl | rfl | rfl | rfl | rfl | rfl : i = 0 ∨ i = 1 ∨ i = 2 ∨ i = 3 ∨ i = 4 ∨ i = 5 ∨ i = 6 ∨ i = 7 ∨ i = 8 ∨ i = 9 ∨ i = 10 ∨ i = 11 := by simp only [List.length_cons, List.length_nil, Nat.zero_add, Nat.reduceAdd] at hi; omega
        · clear hi
          refine step_of rfl rfl rfl ?_
          intro u G w hf S
          simp only [resOf, spec, RSpec.resAt, z0, z1, z2, z3, z4, z5, z6, z7, ptrBlk] at S ⊢
          simp only [does]
          go_simp
          try first | exact S | exact ⟨vv, S⟩ | exact vv
        · clear hi
          refine step_of rfl rfl rfl ?_
          intro u G w hf S
          have f0 : u 0 = (.slice a0 l.length c0) := hf 0 (by simp)
          simp only [resOf, spec, RSpec.resAt, z0, z1, z2, z3, z4, z5, z6, z7, ptrBlk] at S ⊢
          simp only [f0]
          refine does_fn (args := [((.slice a0 l.length c0))]) Tryd.func67 (by kernel_rfl) (by kernel_rfl) (HCL.out _ w (S.old H.out)) rfl ?_
          rintro e w1 ⟨v, rfl, T⟩
          exact ⟨_, rfl, trivial, S.call T⟩
        · clear hi
          refine step_of rfl rfl rfl ?_
          intro u G w hf S
          simp only [resOf, spec, RSpec.resAt, z0, z1, z2, z3, z4, z5, z6, z7, ptrBlk] at S ⊢
          refine does_load 58 (.tmp 12) g12 rfl _ _ _ (S.get (r := blk g12 _) pk) _ Tryd.underlying58 rfl 3 (by kernel_rfl) (by first | rfl | (first | rfl | assumption | (exact Hid.out (by assumption)) | (rw [arr8_size]; first | rfl | assumption | (exact Hid.out (by assumption)) | exact List.length_replicate ..) | (simp [arr8_size]; done))) ?_; exact ⟨rfl, S⟩
        · clear hi
          refine step_of rfl rfl rfl ?_
          intro u G w hf S
          have f2 : u 2 = .agg (mintL M).toArray := hf 2 (by simp)
          simp only [resOf, spec, RSpec.resAt, z0, z1, z2, z3, z4, z5, z6, z7, ptrBlk] at S ⊢
          simp only [f2]
          refine does_buildS1 S 41 58 3 (.tmp 50) (mintL M) _ Tryd.underlying41 infoM2 (by decide) (by decide) rfl rfl ?_; intro v w1 S; exact ⟨trivial, S⟩
        · clear hi
          refine step_of rfl rfl rfl ?_
          intro u G w hf S
          have f0 : u 0 = (.slice a0 l.length c0) := hf 0 (by simp)
          have f2 : u 2 = .agg (mintL M).toArray := hf 2 (by simp)
          simp only [resOf, spec, RSpec.resAt, z0, z1, z2, z3, z4, z5, z6, z7, ptrBlk] at S ⊢
          simp only [f0, f2] at S ⊢
          try simp only [ptrBlk] at S
          refine does_appendM _ _ _ _ rfl S _ [M] rfl (S.tail.sl pk) HLE.out ?_; intro v' w' S; exact ⟨trivial, S⟩
        · clear hi
          refine step_of rfl rfl rfl ?_
          intro u G w hf S
          simp only [resOf, spec, RSpec.resAt, z0, z1, z2, z3, z4, z5, z6, z7, ptrBlk] at S ⊢
          simp only [does]
          go_simp
          try first | exact S | exact ⟨vv, S⟩ | exact vv
        · clear hi
          refine step_of rfl rfl rfl ?_
          intro u G w hf S
          have f5 : u 5 = (.slice a0 l.length c0) := hf 5 (by simp)
          simp only [resOf, spec, RSpec.resAt, z0, z1, z2, z3, z4, z5, z6, z7, ptrBlk] at S ⊢
          simp only [f5]
          simp only [does]
          go_simp
          try first | exact S | exact ⟨vv, S⟩ | exact vv
        · clear hi
          refine step_of rfl rfl rfl ?_
          intro u G w hf S
          have f5 : u 5 = (.slice a0 l.length c0) := hf 5 (by simp)
          have f6 : u 6 = .int .i64 (l.length : Int) := hf 6 (by simp)
          simp only [resOf, spec, RSpec.resAt, z0, z1, z2, z3, z4, z5, z6, z7, ptrBlk] at S ⊢
          simp only [f5, f6]
          simp only [does]
          go_simp
          try first | exact S | exact ⟨vv, S⟩ | exact vv
        · clear hi
          refine step_of rfl rfl rfl ?_
          intro u G w hf S
          have f5 : u 5 = (.slice a0 l.length c0) := hf 5 (by simp)
          have f6 : u 6 = .int .i64 (l.length : Int) := hf 6 (by simp)
          have f7 : u 7 = .int .i64 ((l.length : Int) + 1) := hf 7 (by simp)
          simp only [resOf, spec, RSpec.resAt, z0, z1, z2, z3, z4, z5, z6, z7, ptrBlk] at S ⊢
          simp only [f5, f6, f7]
          simp only [does]
          go_simp
          try first | exact S | exact ⟨vv, S⟩ | exact vv
        · clear hi
          refine step_of rfl rfl rfl ?_
          intro u G w hf S
          have f0 : u 0 = (.slice a0 l.length c0) := hf 0 (by simp)
          have f2 : u 2 = .agg (mintL M).toArray := hf 2 (by simp)
          have m4 : mask [0, 1, 2, 3, 4] u 4 = u 4 := rfl
          simp only [resOf, spec, RSpec.resAt, List.getD_cons_zero, List.getD_cons_succ, List.flatMap_cons, List.flatMap_nil, List.nil_append, List.cons_append, List.append_nil, List.append_assoc, m4, ptrBlk] at S ⊢
          simp only [m4, f0, f2]
          simp only [does]
          go_simp
          try first | exact S | exact ⟨vv, S⟩ | exact vv
        · clear hi
          refine step_of rfl rfl rfl ?_
          intro u G w hf S
          have f0 : u 0 = (.slice a0 l.length c0) := hf 0 (by simp)
          have f2 : u 2 = .agg (mintL M).toArray := hf 2 (by simp)
          have f5 : u 5 = (.slice a0 l.length c0) := hf 5 (by simp)
          have f6 : u 6 = .int .i64 (l.length : Int) := hf 6 (by simp)
          have f7 : u 7 = .int .i64 ((l.length : Int) + 1) := hf 7 (by simp)
          have f8 : u 8 = .int .u32 ((l.length : Int) + 1) := hf 8 (by simp)
          have f9 : u 9 = u 4 := hf 9 (by simp)
          simp only [resOf, spec, RSpec.resAt, z0, z1, z2, z3, z4, z5, z6, z7, ptrBlk] at S ⊢
          simp only [f0, f2, f5, f6, f7, f8, f9]
          simp only [does]
          go_simp
          try first | exact S | exact ⟨vv, S⟩ | exact vv
        · clear hi
          refine step_of rfl rfl rfl ?_
          intro u G w hf S
          have f0 : u 0 = (.slice a0 l.length c0) := hf 0 (by simp)
          have f2 : u 2 = .agg (mintL M).toArray := hf 2 (by simp)
          have f5 : u 5 = (.slice a0 l.length c0) := hf 5 (by simp)
          have f6 : u 6 = .int .i64 (l.length : Int) := hf 6 (by simp)
          have f7 : u 7 = .int .i64 ((l.length : Int) + 1) := hf 7 (by simp)
          have f8 : u 8 = .int .u32 ((l.length : Int) + 1) := hf 8 (by simp)
          have f9 : u 9 = u 4 := hf 9 (by simp)
          have f10 : u 10 = (.int .u32 ((l.length : Int) + 1)) := hf 10 (by simp)
          simp only [resOf, spec, RSpec.resAt, z0, z1, z2, z3, z4, z5, z6, z7, ptrBlk] at S ⊢
          simp only [f0, f2, f5, f6, f7, f8, f9, f10]
          simp only [does]
          go_simp
          try first | exact S | exact ⟨vv, S⟩ | exact vv
      case fin1 =>
        intro u w hf S
        have f0 : u 0 = (.slice a0 l.length c0) := hf 0 (by simp)
        have f2 : u 2 = .agg (mintL M).toArray := hf 2 (by simp)
        have f5 : u 5 = (.slice a0 l.length c0) := hf 5 (by simp)
        have f6 : u 6 = .int .i64 (l.length : Int) := hf 6 (by simp)
        have f7 : u 7 = .int .i64 ((l.length : Int) + 1) := hf 7 (by simp)
        have f8 : u 8 = .int .u32 ((l.length : Int) + 1) := hf 8 (by simp)
        have f9 : u 9 = u 4 := hf 9 (by simp)
        have f10 : u 10 = (.int .u32 ((l.length : Int) + 1)) := hf 10 (by simp)
        have f11 : u 11 = (.int .i64 0) := hf 11 (by simp)
        have m9_4 : mask [0, 1, 2, 3, 4] u 4 = u 4 := rfl
        simp only [resOf, spec, RSpec.resAt, List.getD_cons_zero, List.getD_cons_succ, List.flatMap_cons, List.flatMap_nil, List.nil_append, List.cons_append, List.append_nil, List.append_assoc, m9_4, ptrBlk] at S
        clear hf
        simp only [List.length_cons, List.length_nil, Nat.zero_add, Nat.reduceAdd, List.drop_succ_cons, List.drop_zero, f0, f2, f5, f6, f7, f8, f9, f10, f11]
        try simp only [f0, f2, f5, f6, f7, f8, f9, f10, f11, ptrBlk] at S
        clear f0 f2 f5 f6 f7 f8 f9 f10 f11 m9_4
        generalize u 1 = v49 at S ⊢
        generalize u 3 = v51 at S ⊢
        generalize u 4 = v52 at S ⊢
        go_wp2_with (first | ((with_reducible show wpList _ _ _ (⟨some 12, .alloc 58, _, _, _, _⟩ :: _) _ _); refine step_alloc (dst := some 12) S 58 (.agg ((mintL mintZ).toArray)) ((mintL mintZ).toArray) (by kernel_rfl) rfl gw ?_; clear S; intro g12 w S) | ((with_reducible show wpList _ _ _ (⟨none, .store 58 (.tmp 12) (.tmp 43), _, _, _, _⟩ :: _) _ _); refine step_store S 58 (.tmp 12) (.tmp 43) _ _ rfl rfl _ _ pk 3 (by kernel_rfl) (by first | rfl | (first | rfl | assumption | (exact Hid.out (by assumption)) | (rw [arr8_size]; first | rfl | assumption | (exact Hid.out (by assumption)) | exact List.length_replicate ..) | (simp [arr8_size]; done))) (by first | rfl | (first | rfl | assumption | (exact Hid.out (by assumption)) | (rw [arr8_size]; first | rfl | assumption | (exact Hid.out (by assumption)) | exact List.length_replicate ..) | (simp [arr8_size]; done))) on1 gw ?_; clear S; intro w S) | ((with_reducible show wpList _ _ _ (⟨_, .load 23 _, _, _, _, _⟩ :: _) _ _); first | (refine step_load1 23 _ _ _ rfl (S.cell pk co) _ Tryd.underlying23 rfl gw ?_) | (refine step_load1 23 _ _ _ rfl (S.row_cell pk _ _ hyr) _ Tryd.underlying23 rfl gw ?_) | (refine step_load1 23 _ _ _ rfl (S.row_cellS pk _ _ hy) _ Tryd.underlying23 rfl gw ?_) | (refine step_load1 23 _ _ _ rfl (S.old_cell hy) _ Tryd.underlying23 rfl gw ?_)) | ((with_reducible show wpList _ _ _ (⟨none, .store 23 (.tmp 47) _, _, _, _, _⟩ :: _) _ _); first | (refine step_store1 S 23 (.tmp 47) _ _ _ (.int _ _) rfl rfl _ _ pk (by kernel_rfl) rfl rfl (by first | rfl | (first | rfl | assumption | (exact Hid.out (by assumption)) | (rw [arr8_size]; first | rfl | assumption | (exact Hid.out (by assumption)) | exact List.length_replicate ..) | (simp [arr8_size]; done))) gw ?_; clear S; intro w S; try simp only [List.setIfInBounds_toArray, List.set_cons_zero, List.set_cons_succ] at S) | (refine step_storeR S 23 (.tmp 47) _ _ _ (.int _ _) rfl rfl _ _ _ _ pk (by (first | omega | assumption | (exact Hid.out (by assumption)) | (simp only [List.length_append, List.length_cons, List.length_nil]; omega))) (by kernel_rfl) rfl rfl gw ?_; clear S; intro w S) | (refine step_storeS S 23 (.tmp 47) _ _ _ (.int _ _) rfl rfl _ _ _ _ _ pk (by (first | omega | assumption | (exact Hid.out (by assumption)) | (simp only [List.length_append, List.length_cons, List.length_nil]; omega))) (by kernel_rfl) rfl rfl gw ?_; clear S; intro w S)) | ((with_reducible show wpList _ _ _ (⟨_, .load 58 _, _, _, _, _⟩ :: _) _ _); first | (refine step_load S 58 _ _ rfl _ _ _ pk _ Tryd.underlying58 rfl 3 (by kernel_rfl) (by first | rfl | (first | rfl | assumption | (exact Hid.out (by assumption)) | (rw [arr8_size]; first | rfl | assumption | (exact Hid.out (by assumption)) | exact List.length_replicate ..) | (simp [arr8_size]; done))) gw ?_) | (refine step_loadO 58 _ _ rfl _ _ _ (S.old_heap (Hid.out (by assumption))) _ Tryd.underlying58 rfl 3 (by kernel_rfl) (by first | rfl | (first | rfl | assumption | (exact Hid.out (by assumption)) | (rw [arr8_size]; first | rfl | assumption | (exact Hid.out (by assumption)) | exact List.length_replicate ..) | (simp [arr8_size]; done))) gw ?_) | (refine step_loadR 58 _ _ _ rfl _ (S.old_range hy) _ Tryd.underlying58 rfl 3 (by kernel_rfl) (by first | rfl | (first | rfl | assumption | (exact Hid.out (by assumption)) | (rw [arr8_size]; first | rfl | assumption | (exact Hid.out (by assumption)) | exact List.length_replicate ..) | (simp [arr8_size]; done))) _ rfl gw ?_)) | (at_builtin; refine step_appendM S (.tmp 49) (.tmp 51) _ _ rfl pk _ _ rfl (by first | assumption | exact S.old (Hid.out (by assumption)) | exact S.sl pk | exact S.sl_rd pk) (by (first | omega | assumption | (exact Hid.out (by assumption)) | (simp only [List.length_append, List.length_cons, List.length_nil]; omega))) gw ?_; clear S; intro v52 w S; (try simp only [List.nil_append] at S)) | fail)
        go_ret3
        exact ⟨_, rfl, S.sub (by repeat (first | exact Sub.nil _ | refine Sub.cons pk ?_))⟩
    · have hz2 : 4611686018427387904 < (now : Int) + (life : Int) := by omega
      have hmc : (mintL (mintM role life now)).toArray = #[.int .u8 (role : Int), .int .u64 4611686018427387904, .bool false] := mintM_cells role life now 4611686018427387904 hr (if_neg hmn).symm (by omega)
      rw [← hM] at hmc ⊢
      have H := Lib.hid h; have HCK := Lib.hid hck; have HMC := Lib.hid hmc; have HCL := Lib.hid hcl; have HLE := Lib.hid hle; have HLE2 := Lib.hid hle2; clear h hck hmc hcl hle hle2
      clear hM hE hR hN hc hb
      go_enter Tryd.func53, Tryd.ntmps53
      go_wp2_with (first | (go_at_call 42; (with_reducible refine (HCK.out _ _ (by first | assumption | exact S.old (Hid.out (by assumption)) | exact S.sl pk | exact S.sl_rd pk)).mono ?_); rintro e w1 ⟨rfl, T⟩; replace S := S.call T; clear T; (try simp only [List.nil_append, List.cons_append] at S)) | ((with_reducible show wpList _ _ _ (⟨some 12, .alloc 58, _, _, _, _⟩ :: _) _ _); refine step_alloc (dst := some 12) S 58 (.agg ((mintL mintZ).toArray)) ((mintL mintZ).toArray) (by kernel_rfl) rfl gw ?_; clear S; intro g12 w S) | ((with_reducible show wpList _ _ _ (⟨none, .store 58 (.tmp 12) (.tmp 43), _, _, _, _⟩ :: _) _ _); refine step_store S 58 (.tmp 12) (.tmp 43) _ _ rfl rfl _ _ pk 3 (by kernel_rfl) (by first | rfl | (first | rfl | assumption | (exact Hid.out (by assumption)) | (rw [arr8_size]; first | rfl | assumption | (exact Hid.out (by assumption)) | exact List.length_replicate ..) | (simp [arr8_size]; done))) (by first | rfl | (first | rfl | assumption | (exact Hid.out (by assumption)) | (rw [arr8_size]; first | rfl | assumption | (exact Hid.out (by assumption)) | exact List.length_replicate ..) | (simp [arr8_size]; done))) on1 gw ?_; clear S; intro w S) | ((with_reducible show wpList _ _ _ (⟨_, .load 23 _, _, _, _, _⟩ :: _) _ _); first | (refine step_load1 23 _ _ _ rfl (S.cell pk co) _ Tryd.underlying23 rfl gw ?_) | (refine step_load1 23 _ _ _ rfl (S.row_cell pk _ _ hyr) _ Tryd.underlying23 rfl gw ?_) | (refine step_load1 23 _ _ _ rfl (S.row_cellS pk _ _ hy) _ Tryd.underlying23 rfl gw ?_) | (refine step_load1 23 _ _ _ rfl (S.old_cell hy) _ Tryd.underlying23 rfl gw ?_)) | ((with_reducible show wpList _ _ _ (⟨none, .store 23 (.tmp 47) _, _, _, _, _⟩ :: _) _ _); first | (refine step_store1 S 23 (.tmp 47) _ _ _ (.int _ _) rfl rfl _ _ pk (by kernel_rfl) rfl rfl (by first | rfl | (first | rfl | assumption | (exact Hid.out (by assumption)) | (rw [arr8_size]; first | rfl | assumption | (exact Hid.out (by assumption)) | exact List.length_replicate ..) | (simp [arr8_size]; done))) gw ?_; clear S; intro w S; try simp only [List.setIfInBounds_toArray, List.set_cons_zero, List.set_cons_succ] at S) | (refine step_storeR S 23 (.tmp 47) _ _ _ (.int _ _) rfl rfl _ _ _ _ pk (by (first | omega | assumption | (exact Hid.out (by assumption)) | (simp only [List.length_append, List.length_cons, List.length_nil]; omega))) (by kernel_rfl) rfl rfl gw ?_; clear S; intro w S) | (refine step_storeS S 23 (.tmp 47) _ _ _ (.int _ _) rfl rfl _ _ _ _ _ pk (by (first | omega | assumption | (exact Hid.out (by assumption)) | (simp only [List.length_append, List.length_cons, List.length_nil]; omega))) (by kernel_rfl) rfl rfl gw ?_; clear S; intro w S)) | ((with_reducible show wpList _ _ _ (⟨_, .load 58 _, _, _, _, _⟩ :: _) _ _); first | (refine step_load S 58 _ _ rfl _ _ _ pk _ Tryd.underlying58 rfl 3 (by kernel_rfl) (by first | rfl | (first | rfl | assumption | (exact Hid.out (by assumption)) | (rw [arr8_size]; first | rfl | assumption | (exact Hid.out (by assumption)) | exact List.length_replicate ..) | (simp [arr8_size]; done))) gw ?_) | (refine step_loadO 58 _ _ rfl _ _ _ (S.old_heap (Hid.out (by assumption))) _ Tryd.underlying58 rfl 3 (by kernel_rfl) (by first | rfl | (first | rfl | assumption | (exact Hid.out (by assumption)) | (rw [arr8_size]; first | rfl | assumption | (exact Hid.out (by assumption)) | exact List.length_replicate ..) | (simp [arr8_size]; done))) gw ?_) | (refine step_loadR 58 _ _ _ rfl _ (S.old_range hy) _ Tryd.underlying58 rfl 3 (by kernel_rfl) (by first | rfl | (first | rfl | assumption | (exact Hid.out (by assumption)) | (rw [arr8_size]; first | rfl | assumption | (exact Hid.out (by assumption)) | exact List.length_replicate ..) | (simp [arr8_size]; done))) _ rfl gw ?_)) | (at_builtin; refine step_appendM S (.tmp 49) (.tmp 51) _ _ rfl pk _ _ rfl (by first | assumption | exact S.old (Hid.out (by assumption)) | exact S.sl pk | exact S.sl_rd pk) (by (first | omega | assumption | (exact Hid.out (by assumption)) | (simp only [List.length_append, List.length_cons, List.length_nil]; omega))) gw ?_; clear S; intro v52 w S; (try simp only [List.nil_append] at S)) | fail)
      rw [← HMC.out] at S
      refine wp_rely S [⟨[], [], [], fun _ v => v = (.slice a0 l.length c0), fun _ v => []⟩, ⟨[0], [], [], fun _ v => True, fun _ v => [rowM v l]⟩, ⟨[], [], [], fun _ v => v = .agg (mintL M).toArray, fun _ v => []⟩, ⟨[2], [], [], fun _ v => True, fun _ v => [rowM v [M]]⟩, ⟨[0, 1, 2, 3], [1], [3], fun _ v => True, fun _ v => [rowM v (l ++ [M])]⟩, ⟨[], [], [], fun _ v => v = (.slice a0 l.length c0), fun _ v => []⟩, ⟨[5], [], [], fun _ v => v = .int .i64 (l.length : Int), fun _ v => []⟩, ⟨[5, 6], [], [], fun _ v => v = .int .i64 ((l.length : Int) + 1), fun _ v => []⟩, ⟨[5, 6, 7], [], [], fun _ v => v = .int .u32 ((l.length : Int) + 1), fun _ v => []⟩, ⟨[0, 1, 2, 3, 4], [], [], fun d v => v = d 4, fun _ v => []⟩, ⟨[0, 1, 2, 3, 4, 5, 6, 7, 8, 9], [], [], fun _ v => v = (.int .u32 ((l.length : Int) + 1)), fun _ v => []⟩, ⟨[0, 1, 2, 3, 4, 5, 6, 7, 8, 9, 10], [], [], fun _ v => v = (.int .i64 0), fun _ v => []⟩] ?A2 ?hA2 (by kernel_rfl) (by kernel_rfl) (by kernel_rfl) [0, 2, 3, 4, 5, 6, 7, 8, 9, 10, 11] (by kernel_rfl) ?hok2 ?fin2
      case hA2 => intro u; simp only [putAll, List.length_cons, List.length_nil, Nat.zero_add, Nat.reduceAdd, dstAt, List.getElem?_toArray, List.getElem?_cons_zero, List.getElem?_cons_succ, Option.bind_some, Act.put, List.setIfInBounds_toArray, List.set_cons_zero, List.set_cons_succ]; rfl
      case hok2 =>
        intro i hi
        obtain rfl | rfl | rfl | rfl | rfl | rfl | rfl | rfl | rfl | rfl | rfl | rfl : i = 0 ∨ i = 1 ∨ i = 2 ∨ i = 3 ∨ i = 4 ∨ i = 5 ∨ i = 6 ∨ i = 7 ∨ i = 8 ∨ i = 9 ∨ i = 10 ∨ i = 11 := by simp only [List.length_cons, List.length_nil, Nat.zero_add, Nat.reduceAdd] at hi; omega
        · clear hi
          refine step_of rfl rfl rfl ?_
          intro u G w hf S
          simp only [resOf, spec, RSpec.resAt, z0, z1, z2, z3, z4, z5, z6, z7, ptrBlk] at S ⊢
          simp only [does]
          go_simp
          try first | exact S | exact ⟨vv, S⟩ | exact vv
        · clear hi
          refine step_of rfl rfl rfl ?_
          intro u G w hf S
          have f0 : u 0 = (.slice a0 l.length c0) := hf 0 (by simp)
          simp only [resOf, spec, RSpec.resAt, z0, z1, z2, z3, z4, z5, z6, z7, ptrBlk] at S ⊢
          simp only [f0]
          refine does_fn (args := [((.slice a0 l.length c0))]) Tryd.func67 (by kernel_rfl) (by kernel_rfl) (HCL.out _ w (S.old H.out)) rfl ?_
          rintro e w1 ⟨v, rfl, T⟩
          exact ⟨_, rfl, trivial, S.call T⟩
        · clear hi
          refine step_of rfl rfl rfl ?_
          intro u G w hf S
          simp only [resOf, spec, RSpec.resAt, z0, z1, z2, z3, z4, z5, z6, z7, ptrBlk] at S ⊢
          refine does_load 58 (.tmp 12) g12 rfl _ _ _ (S.get (r := blk g12 _) pk) _ Tryd.underlying58 rfl 3 (by kernel_rfl) (by first | rfl | (first | rfl | assumption | (exact Hid.out (by assumption)) | (rw [arr8_size]; first | rfl | assumption | (exact Hid.out (by assumption)) | exact List.length_replicate ..) | (simp [arr8_size]; done))) ?_; exact ⟨rfl, S⟩
        · clear hi
          refine step_of rfl rfl rfl ?_
          intro u G w hf S
          have f2 : u 2 = .agg (mintL M).toArray := hf 2 (by simp)
          simp only [resOf, spec, RSpec.resAt, z0, z1, z2, z3, z4, z5, z6, z7, ptrBlk] at S ⊢
          simp only [f2]
          refine does_buildS1 S 41 58 3 (.tmp 50) (mintL M) _ Tryd.underlying41 infoM2 (by decide) (by decide) rfl rfl ?_; intro v w1 S; exact ⟨trivial, S⟩
        · clear hi
          refine step_of rfl rfl rfl ?_
          intro u G w hf S
          have f0 : u 0 = (.slice a0 l.length c0) := hf 0 (by simp)
          have f2 : u 2 = .agg (mintL M).toArray := hf 2 (by simp)
          simp only [resOf, spec, RSpec.resAt, z0, z1, z2, z3, z4, z5, z6, z7, ptrBlk] at S ⊢
          simp only [f0, f2] at S ⊢
          try simp only [ptrBlk] at S
          refine does_appendM _ _ _ _ rfl S _ [M] rfl (S.tail.sl pk) HLE.out ?_; intro v' w' S; exact ⟨trivial, S⟩
        · clear hi
          refine step_of rfl rfl rfl ?_
          intro u G w hf S
          simp only [resOf, spec, RSpec.resAt, z0, z1, z2, z3, z4, z5, z6, z7, ptrBlk] at S ⊢
          simp only [does]
          go_simp
          try first | exact S | exact ⟨vv, S⟩ | exact vv
        · clear hi
          refine step_of rfl rfl rfl ?_
          intro u G w hf S
          have f5 : u 5 = (.slice a0 l.length c0) := hf 5 (by simp)
          simp only [resOf, spec, RSpec.resAt, z0, z1, z2, z3, z4, z5, z6, z7, ptrBlk] at S ⊢
          simp only [f5]
          simp only [does]
          go_simp
          try first | exact S | exact ⟨vv, S⟩ | exact vv
        · clear hi
          refine step_of rfl rfl rfl ?_
          intro u G w hf S
          have f5 : u 5 = (.slice a0 l.length c0) := hf 5 (by simp)
          have f6 : u 6 = .int .i64 (l.length : Int) := hf 6 (by simp)
          simp only [resOf, spec, RSpec.resAt, z0, z1, z2, z3, z4, z5, z6, z7, ptrBlk] at S ⊢
          simp only [f5, f6]
          simp only [does]
          go_simp
          try first | exact S | exact ⟨vv, S⟩ | exact vv
        · clear hi
          refine step_of rfl rfl rfl ?_
          intro u G w hf S
          have f5 : u 5 = (.slice a0 l.length c0) := hf 5 (by simp)
          have f6 : u 6 = .int .i64 (l.length : Int) := hf 6 (by simp)
          have f7 : u 7 = .int .i64 ((l.length : Int) + 1) := hf 7 (by simp)
          simp only [resOf, spec, RSpec.resAt, z0, z1, z2, z3, z4, z5, z6, z7, ptrBlk] at S ⊢
          simp only [f5, f6, f7]
          simp only [does]
          go_simp
          try first | exact S | exact ⟨vv, S⟩ | exact vv
        · clear hi
          refine step_of rfl rfl rfl ?_
          intro u G w hf S
          have f0 : u 0 = (.slice a0 l.length c0) := hf 0 (by simp)
          have f2 : u 2 = .agg (mintL M).toArray := hf 2 (by simp)
          have m4 : mask [0, 1, 2, 3, 4] u 4 = u 4 := rfl
          simp only [resOf, spec, RSpec.resAt, List.getD_cons_zero, List.getD_cons_succ, List.flatMap_cons, List.flatMap_nil, List.nil_append, List.cons_append, List.append_nil, List.append_assoc, m4, ptrBlk] at S ⊢
          simp only [m4, f0, f2]
          simp only [does]
          go_simp
          try first | exact S | exact ⟨vv, S⟩ | exact vv
        · clear hi
          refine step_of rfl rfl rfl ?_
          intro u G w hf S
          have f0 : u 0 = (.slice a0 l.length c0) := hf 0 (by simp)
          have f2 : u 2 = .agg (mintL M).toArray := hf 2 (by simp)
          have f5 : u 5 = (.slice a0 l.length c0) := hf 5 (by simp)
          have f6 : u 6 = .int .i64 (l.length : Int) := hf 6 (by simp)
          have f7 : u 7 = .int .i64 ((l.length : Int) + 1) := hf 7 (by simp)
          have f8 : u 8 = .int .u32 ((l.length : Int) + 1) := hf 8 (by simp)
          have f9 : u 9 = u 4 := hf 9 (by simp)
          simp only [resOf, spec, RSpec.resAt, z0, z1, z2, z3, z4, z5, z6, z7, ptrBlk] at S ⊢
          simp only [f0, f2, f5, f6, f7, f8, f9]
          simp only [does]
          go_simp
          try first | exact S | exact ⟨vv, S⟩ | exact vv
        · clear hi
          refine step_of rfl rfl rfl ?_
          intro u G w hf S
          have f0 : u 0 = (.slice a0 l.length c0) := hf 0 (by simp)
          have f2 : u 2 = .agg (mintL M).toArray := hf 2 (by simp)
          have f5 : u 5 = (.slice a0 l.length c0) := hf 5 (by simp)
          have f6 : u 6 = .int .i64 (l.length : Int) := hf 6 (by simp)
          have f7 : u 7 = .int .i64 ((l.length : Int) + 1) := hf 7 (by simp)
          have f8 : u 8 = .int .u32 ((l.length : Int) + 1) := hf 8 (by simp)
          have f9 : u 9 = u 4 := hf 9 (by simp)
          have f10 : u 10 = (.int .u32 ((l.length : Int) + 1)) := hf 10 (by simp)
          simp only [resOf, spec, RSpec.resAt, z0, z1, z2, z3, z4, z5, z6, z7, ptrBlk] at S ⊢
          simp only [f0, f2, f5, f6, f7, f8, f9, f10]
          simp only [does]
          go_simp
          try first | exact S | exact ⟨vv, S⟩ | exact vv
      case fin2 =>
        intro u w hf S
        have f0 : u 0 = (.slice a0 l.length c0) := hf 0 (by simp)
        have f2 : u 2 = .agg (mintL M).toArray := hf 2 (by simp)
        have f5 : u 5 = (.slice a0 l.length c0) := hf 5 (by simp)
        have f6 : u 6 = .int .i64 (l.length : Int) := hf 6 (by simp)
        have f7 : u 7 = .int .i64 ((l.length : Int) + 1) := hf 7 (by simp)
        have f8 : u 8 = .int .u32 ((l.length : Int) + 1) := hf 8 (by simp)
        have f9 : u 9 = u 4 := hf 9 (by simp)
        have f10 : u 10 = (.int .u32 ((l.length : Int) + 1)) := hf 10 (by simp)
        have f11 : u 11 = (.int .i64 0) := hf 11 (by simp)
        have m9_4 : mask [0, 1, 2, 3, 4] u 4 = u 4 := rfl
        simp only [resOf, spec, RSpec.resAt, List.getD_cons_zero, List.getD_cons_succ, List.flatMap_cons, List.flatMap_nil, List.nil_append, List.cons_append, List.append_nil, List.append_assoc, m9_4, ptrBlk] at S
        clear hf
        simp only [List.length_cons, List.length_nil, Nat.zero_add, Nat.reduceAdd, List.drop_succ_cons, List.drop_zero, f0, f2, f5, f6, f7, f8, f9, f10, f11]
        try simp only [f0, f2, f5, f6, f7, f8, f9, f10, f11, ptrBlk] at S
        clear f0 f2 f5 f6 f7 f8 f9 f10 f11 m9_4
        generalize u 1 = v49 at S ⊢
        generalize u 3 = v51 at S ⊢
        generalize u 4 = v52 at S ⊢
        go_wp2_with (first | ((with_reducible show wpList _ _ _ (⟨some 12, .alloc 58, _, _, _, _⟩ :: _) _ _); refine step_alloc (dst := some 12) S 58 (.agg ((mintL mintZ).toArray)) ((mintL mintZ).toArray) (by kernel_rfl) rfl gw ?_; clear S; intro g12 w S) | ((with_reducible show wpList _ _ _ (⟨none, .store 58 (.tmp 12) (.tmp 43), _, _, _, _⟩ :: _) _ _); refine step_store S 58 (.tmp 12) (.tmp 43) _ _ rfl rfl _ _ pk 3 (by kernel_rfl) (by first | rfl | (first | rfl | assumption | (exact Hid.out (by assumption)) | (rw [arr8_size]; first | rfl | assumption | (exact Hid.out (by assumption)) | exact List.length_replicate ..) | (simp [arr8_size]; done))) (by first | rfl | (first | rfl | assumption | (exact Hid.out (by assumption)) | (rw [arr8_size]; first | rfl | assumption | (exact Hid.out (by assumption)) | exact List.length_replicate ..) | (simp [arr8_size]; done))) on1 gw ?_; clear S; intro w S) | ((with_reducible show wpList _ _ _ (⟨_, .load 23 _, _, _, _, _⟩ :: _) _ _); first | (refine step_load1 23 _ _ _ rfl (S.cell pk co) _ Tryd.underlying23 rfl gw ?_) | (refine step_load1 23 _ _ _ rfl (S.row_cell pk _ _ hyr) _ Tryd.underlying23 rfl gw ?_) | (refine step_load1 23 _ _ _ rfl (S.row_cellS pk _ _ hy) _ Tryd.underlying23 rfl gw ?_) | (refine step_load1 23 _ _ _ rfl (S.old_cell hy) _ Tryd.underlying23 rfl gw ?_)) | ((with_reducible show wpList _ _ _ (⟨none, .store 23 (.tmp 47) _, _, _, _, _⟩ :: _) _ _); first | (refine step_store1 S 23 (.tmp 47) _ _ _ (.int _ _) rfl rfl _ _ pk (by kernel_rfl) rfl rfl (by first | rfl | (first | rfl | assumption | (exact Hid.out (by assumption)) | (rw [arr8_size]; first | rfl | assumption | (exact Hid.out (by assumption)) | exact List.length_replicate ..) | (simp [arr8_size]; done))) gw ?_; clear S; intro w S; try simp only [List.setIfInBounds_toArray, List.set_cons_zero, List.set_cons_succ] at S) | (refine step_storeR S 23 (.tmp 47) _ _ _ (.int _ _) rfl rfl _ _ _ _ pk (by (first | omega | assumption | (exact Hid.out (by assumption)) | (simp only [List.length_append, List.length_cons, List.length_nil]; omega))) (by kernel_rfl) rfl rfl gw ?_; clear S; intro w S) | (refine step_storeS S 23 (.tmp 47) _ _ _ (.int _ _) rfl rfl _ _ _ _ _ pk (by (first | omega | assumption | (exact Hid.out (by assumption)) | (simp only [List.length_append, List.length_cons, List.length_nil]; omega))) (by kernel_rfl) rfl rfl gw ?_; clear S; intro w S)) | ((with_reducible show wpList _ _ _ (⟨_, .load 58 _, _, _, _, _⟩ :: _) _ _); first | (refine step_load S 58 _ _ rfl _ _ _ pk _ Tryd.underlying58 rfl 3 (by kernel_rfl) (by first | rfl | (first | rfl | assumption | (exact Hid.out (by assumption)) | (rw [arr8_size]; first | rfl | assumption | (exact Hid.out (by assumption)) | exact List.length_replicate ..) | (simp [arr8_size]; done))) gw ?_) | (refine step_loadO 58 _ _ rfl _ _ _ (S.old_heap (Hid.out (by assumption))) _ Tryd.underlying58 rfl 3 (by kernel_rfl) (by first | rfl | (first | rfl | assumption | (exact Hid.out (by assumption)) | (rw [arr8_size]; first | rfl | assumption | (exact Hid.out (by assumption)) | exact List.length_replicate ..) | (simp [arr8_size]; done))) gw ?_) | (refine step_loadR 58 _ _ _ rfl _ (S.old_range hy) _ Tryd.underlying58 rfl 3 (by kernel_rfl) (by first | rfl | (first | rfl | assumption | (exact Hid.out (by assumption)) | (rw [arr8_size]; first | rfl | assumption | (exact Hid.out (by assumption)) | exact List.length_replicate ..) | (simp [arr8_size]; done))) _ rfl gw ?_)) | (at_builtin; refine step_appendM S (.tmp 49) (.tmp 51) _ _ rfl pk _ _ rfl (by first | assumption | exact S.old (Hid.out (by assumption)) | exact S.sl pk | exact S.sl_rd pk) (by (first | omega | assumption | (exact Hid.out (by assumption)) | (simp only [List.length_append, List.length_cons, List.length_nil]; omega))) gw ?_; clear S; intro v52 w S; (try simp only [List.nil_append] at S)) | fail)
        go_ret3
        exact ⟨_, rfl, S.sub (by repeat (first | exact Sub.nil _ | refine Sub.cons pk ?_))⟩
  · obtain ⟨hR, hN⟩ := mint_no l role life now hE
    rw [hR, hN]
    obtain ⟨E, hEe⟩ : ∃ E, E = mintE l role life now := ⟨_, rfl⟩
    rw [← hEe] at hE ⊢
    unfold mintE at hEe
    by_cases hc0 : chkR l = 0
    · rw [if_neg (by omega)] at hEe
      rw [hc0] at hck
      by_cases hb : role < 1 ∨ 3 < role ∨ life = 0 ∨ 4611686018427387904 < life ∨ 4611686018427387904 < now
      · rw [if_pos hb] at hEe
        subst hEe
        have HB := Lib.hid hb
        have H := Lib.hid h; have HCK := Lib.hid hck; clear h hck
        clear hR hN hE hc0 hb
        go_enter Tryd.func53, Tryd.ntmps53
        go_wp2_with (first | (go_at_call 42; (with_reducible refine (HCK.out _ _ (by first | assumption | exact S.old (Hid.out (by assumption)) | exact S.sl pk | exact S.sl_rd pk)).mono ?_); rintro e w1 ⟨rfl, T⟩; replace S := S.call T; clear T; (try simp only [List.nil_append, List.cons_append] at S)) | ((with_reducible show wpList _ _ _ (⟨none, .store 58 (.tmp 12) (.tmp 43), _, _, _, _⟩ :: _) _ _); refine step_store S 58 (.tmp 12) (.tmp 43) _ _ rfl rfl _ _ pk 3 (by kernel_rfl) (by first | rfl | (first | rfl | assumption | (exact Hid.out (by assumption)) | (rw [arr8_size]; first | rfl | assumption | (exact Hid.out (by assumption)) | exact List.length_replicate ..) | (simp [arr8_size]; done))) (by first | rfl | (first | rfl | assumption | (exact Hid.out (by assumption)) | (rw [arr8_size]; first | rfl | assumption | (exact Hid.out (by assumption)) | exact List.length_replicate ..) | (simp [arr8_size]; done))) on1 gw ?_; clear S; intro w S) | ((with_reducible show wpList _ _ _ (⟨_, .load 23 _, _, _, _, _⟩ :: _) _ _); first | (refine step_load1 23 _ _ _ rfl (S.cell pk co) _ Tryd.underlying23 rfl gw ?_) | (refine step_load1 23 _ _ _ rfl (S.row_cell pk _ _ hyr) _ Tryd.underlying23 rfl gw ?_) | (refine step_load1 23 _ _ _ rfl (S.row_cellS pk _ _ hy) _ Tryd.underlying23 rfl gw ?_) | (refine step_load1 23 _ _ _ rfl (S.old_cell hy) _ Tryd.underlying23 rfl gw ?_)) | ((with_reducible show wpList _ _ _ (⟨none, .store 23 (.tmp 47) _, _, _, _, _⟩ :: _) _ _); first | (refine step_store1 S 23 (.tmp 47) _ _ _ (.int _ _) rfl rfl _ _ pk (by kernel_rfl) rfl rfl (by first | rfl | (first | rfl | assumption | (exact Hid.out (by assumption)) | (rw [arr8_size]; first | rfl | assumption | (exact Hid.out (by assumption)) | exact List.length_replicate ..) | (simp [arr8_size]; done))) gw ?_; clear S; intro w S; try simp only [List.setIfInBounds_toArray, List.set_cons_zero, List.set_cons_succ] at S) | (refine step_storeR S 23 (.tmp 47) _ _ _ (.int _ _) rfl rfl _ _ _ _ pk (by (first | omega | assumption | (exact Hid.out (by assumption)) | (simp only [List.length_append, List.length_cons, List.length_nil]; omega))) (by kernel_rfl) rfl rfl gw ?_; clear S; intro w S) | (refine step_storeS S 23 (.tmp 47) _ _ _ (.int _ _) rfl rfl _ _ _ _ _ pk (by (first | omega | assumption | (exact Hid.out (by assumption)) | (simp only [List.length_append, List.length_cons, List.length_nil]; omega))) (by kernel_rfl) rfl rfl gw ?_; clear S; intro w S)) | fail)
        all_goals first
          | (go_ret3
             exact ⟨_, rfl, S.nil.nilM⟩)
          | (exfalso; have hb := HB.out; omega)
      · rw [if_neg hb] at hEe
        have h32 : l.length = 32 := by
          apply Classical.byContradiction
          intro h
          rw [if_neg h] at hEe
          exact hE hEe
        rw [if_pos h32] at hEe
        subst hEe
        have i1 : ¬ (role : Int) < 1 := by omega
        have i2 : ¬ 3 < (role : Int) := by omega
        have i3 : ¬ (life : Int) < 1 := by omega
        have i4 : ¬ 4611686018427387904 < (life : Int) := by omega
        have i5 : ¬ 4611686018427387904 < (now : Int) := by omega
        have i6 : ((l.length : Int) == 32) = true := by rw [beq_iff_eq]; omega
        have H := Lib.hid h; have HCK := Lib.hid hck; clear h hck
        clear hR hN hE hc0 hb h32
        go_enter Tryd.func53, Tryd.ntmps53
        go_wp2_with (first | (go_at_call 42; (with_reducible refine (HCK.out _ _ (by first | assumption | exact S.old (Hid.out (by assumption)) | exact S.sl pk | exact S.sl_rd pk)).mono ?_); rintro e w1 ⟨rfl, T⟩; replace S := S.call T; clear T; (try simp only [List.nil_append, List.cons_append] at S)) | ((with_reducible show wpList _ _ _ (⟨none, .store 58 (.tmp 12) (.tmp 43), _, _, _, _⟩ :: _) _ _); refine step_store S 58 (.tmp 12) (.tmp 43) _ _ rfl rfl _ _ pk 3 (by kernel_rfl) (by first | rfl | (first | rfl | assumption | (exact Hid.out (by assumption)) | (rw [arr8_size]; first | rfl | assumption | (exact Hid.out (by assumption)) | exact List.length_replicate ..) | (simp [arr8_size]; done))) (by first | rfl | (first | rfl | assumption | (exact Hid.out (by assumption)) | (rw [arr8_size]; first | rfl | assumption | (exact Hid.out (by assumption)) | exact List.length_replicate ..) | (simp [arr8_size]; done))) on1 gw ?_; clear S; intro w S) | ((with_reducible show wpList _ _ _ (⟨_, .load 23 _, _, _, _, _⟩ :: _) _ _); first | (refine step_load1 23 _ _ _ rfl (S.cell pk co) _ Tryd.underlying23 rfl gw ?_) | (refine step_load1 23 _ _ _ rfl (S.row_cell pk _ _ hyr) _ Tryd.underlying23 rfl gw ?_) | (refine step_load1 23 _ _ _ rfl (S.row_cellS pk _ _ hy) _ Tryd.underlying23 rfl gw ?_) | (refine step_load1 23 _ _ _ rfl (S.old_cell hy) _ Tryd.underlying23 rfl gw ?_)) | ((with_reducible show wpList _ _ _ (⟨none, .store 23 (.tmp 47) _, _, _, _, _⟩ :: _) _ _); first | (refine step_store1 S 23 (.tmp 47) _ _ _ (.int _ _) rfl rfl _ _ pk (by kernel_rfl) rfl rfl (by first | rfl | (first | rfl | assumption | (exact Hid.out (by assumption)) | (rw [arr8_size]; first | rfl | assumption | (exact Hid.out (by assumption)) | exact List.length_replicate ..) | (simp [arr8_size]; done))) gw ?_; clear S; intro w S; try simp only [List.setIfInBounds_toArray, List.set_cons_zero, List.set_cons_succ] at S) | (refine step_storeR S 23 (.tmp 47) _ _ _ (.int _ _) rfl rfl _ _ _ _ pk (by (first | omega | assumption | (exact Hid.out (by assumption)) | (simp only [List.length_append, List.length_cons, List.length_nil]; omega))) (by kernel_rfl) rfl rfl gw ?_; clear S; intro w S) | (refine step_storeS S 23 (.tmp 47) _ _ _ (.int _ _) rfl rfl _ _ _ _ _ pk (by (first | omega | assumption | (exact Hid.out (by assumption)) | (simp only [List.length_append, List.length_cons, List.length_nil]; omega))) (by kernel_rfl) rfl rfl gw ?_; clear S; intro w S)) | fail)
        go_ret3
        exact ⟨_, rfl, S.nil.nilM⟩
    · rw [if_pos hc0] at hEe
      rw [← hEe] at hck
      have i1 : (E != 0) = true := by simpa using hE
      have H := Lib.hid h; have HCK := Lib.hid hck; clear h hck
      clear hR hN hEe hc0 hE
      go_enter Tryd.func53, Tryd.ntmps53
      go_wp2_with (first | (go_at_call 42; (with_reducible refine (HCK.out _ _ (by first | assumption | exact S.old (Hid.out (by assumption)) | exact S.sl pk | exact S.sl_rd pk)).mono ?_); rintro e w1 ⟨rfl, T⟩; replace S := S.call T; clear T; (try simp only [List.nil_append, List.cons_append] at S)) | ((with_reducible show wpList _ _ _ (⟨none, .store 58 (.tmp 12) (.tmp 43), _, _, _, _⟩ :: _) _ _); refine step_store S 58 (.tmp 12) (.tmp 43) _ _ rfl rfl _ _ pk 3 (by kernel_rfl) (by first | rfl | (first | rfl | assumption | (exact Hid.out (by assumption)) | (rw [arr8_size]; first | rfl | assumption | (exact Hid.out (by assumption)) | exact List.length_replicate ..) | (simp [arr8_size]; done))) (by first | rfl | (first | rfl | assumption | (exact Hid.out (by assumption)) | (rw [arr8_size]; first | rfl | assumption | (exact Hid.out (by assumption)) | exact List.length_replicate ..) | (simp [arr8_size]; done))) on1 gw ?_; clear S; intro w S) | ((with_reducible show wpList _ _ _ (⟨_, .load 23 _, _, _, _, _⟩ :: _) _ _); first | (refine step_load1 23 _ _ _ rfl (S.cell pk co) _ Tryd.underlying23 rfl gw ?_) | (refine step_load1 23 _ _ _ rfl (S.row_cell pk _ _ hyr) _ Tryd.underlying23 rfl gw ?_) | (refine step_load1 23 _ _ _ rfl (S.row_cellS pk _ _ hy) _ Tryd.underlying23 rfl gw ?_) | (refine step_load1 23 _ _ _ rfl (S.old_cell hy) _ Tryd.underlying23 rfl gw ?_)) | ((with_reducible show wpList _ _ _ (⟨none, .store 23 (.tmp 47) _, _, _, _, _⟩ :: _) _ _); first | (refine step_store1 S 23 (.tmp 47) _ _ _ (.int _ _) rfl rfl _ _ pk (by kernel_rfl) rfl rfl (by first | rfl | (first | rfl | assumption | (exact Hid.out (by assumption)) | (rw [arr8_size]; first | rfl | assumption | (exact Hid.out (by assumption)) | exact List.length_replicate ..) | (simp [arr8_size]; done))) gw ?_; clear S; intro w S; try simp only [List.setIfInBounds_toArray, List.set_cons_zero, List.set_cons_succ] at S) | (refine step_storeR S 23 (.tmp 47) _ _ _ (.int _ _) rfl rfl _ _ _ _ pk (by (first | omega | assumption | (exact Hid.out (by assumption)) | (simp only [List.length_append, List.length_cons, List.length_nil]; omega))) (by kernel_rfl) rfl rfl gw ?_; clear S; intro w S) | (refine step_storeS S 23 (.tmp 47) _ _ _ (.int _ _) rfl rfl _ _ _ _ _ pk (by (first | omega | assumption | (exact Hid.out (by assumption)) | (simp only [List.length_append, List.length_cons, List.length_nil]; omega))) (by kernel_rfl) rfl rfl gw ?_; clear S; intro w S)) | fail)
      go_ret3
      exact ⟨_, rfl, S.nil.nilM⟩

theorem rev_no (l : List Mnt) (n : Nat) (h : revE l n ≠ 0) : revR l n = [] := if_neg h

theorem set_flat (l : List Mnt) (k : Nat) (x : Mnt) (hx : l[k]? = some x) : (l.flatMap mintL).set (k * 3 + 2) (.bool true) = (l.set k ⟨x.role, x.expiry, true⟩).flatMap mintL :=
  flat_set mintL 3 mintL_length l k 2 x ⟨x.role, x.expiry, true⟩ (.bool true) hx (by decide) rfl

theorem rev_chk (l : List Mnt) (n : Nat) (h : chkR l = 0) : revE l n = (match entR l n with | none => 191 | some x => if x.revoked then 192 else 0) := by
  unfold revE
  rw [if_neg (by omega)]
  cases entR l n <;> rfl

set_option maxRecDepth 100000 in
set_option maxHeartbeats 4000000 in
theorem revoke_r (v : Value) (l : List Mnt) (n : Nat) (w0 : World) (h : Rg w0 v l) (hn : n < 4294967296) :
    Calls Tryd.prog 34 #[v, .int .u32 (n : Int)] w0 (MadeM2 w0 (revR l n) (revE l n)) := by
  have S := Has.start w0
  obtain ⟨a0, c0, rfl, k1, k2⟩ := Sl.shape h
  unfold maxLen at k2
  have hck := fun v w h => check_r v l w h
  by_cases hc0 : chkR l = 0
  · have hE := rev_chk l n hc0
    have h32 := chkR_len l hc0
    rw [hc0] at hck
    cases hx : entR l n with
    | none =>
      rw [hx] at hE
      rw [rev_no l n (by rw [hE]; decide), hE]
      have hen := fun v w h => entry_none v l n w h hn hx
      have H := Lib.hid h; have HCK := Lib.hid hck; have HEN := Lib.hid hen; clear h hck hen
      clear hE hc0 hx
      go_enter Tryd.func34, Tryd.ntmps34
      go_wp2_with (first | (go_at_call 41; (with_reducible refine (HCK.out _ _ (by first | assumption | exact S.old (Hid.out (by assumption)) | exact S.sl pk | exact S.sl_rd pk)).mono ?_); rintro e w1 ⟨rfl, T⟩; replace S := S.call T; clear T; (try simp only [List.nil_append, List.cons_append] at S)) | (go_at_call 55; (with_reducible refine (HEN.out _ _ (by first | assumption | exact S.old (Hid.out (by assumption)) | exact S.sl pk | exact S.sl_rd pk)).mono ?_); rintro e w1 ⟨rfl, T⟩; replace S := S.call T; clear T; (try simp only [List.nil_append, List.cons_append] at S)) | ((with_reducible show wpList _ _ _ (⟨some 7, .alloc 58, _, _, _, _⟩ :: _) _ _); refine step_alloc (dst := some 7) S 58 (.agg ((mintL mintZ).toArray)) ((mintL mintZ).toArray) (by kernel_rfl) rfl rfl ?_; clear S; intro g7 w S) | ((with_reducible show wpList _ _ _ (⟨none, .store 58 (.tmp 7) (.tmp 19), _, _, _, _⟩ :: _) _ _); refine step_store S 58 (.tmp 7) (.tmp 19) _ _ rfl rfl _ _ pk 3 (by kernel_rfl) (by first | rfl | (first | rfl | assumption | (exact Hid.out (by assumption)) | (rw [arr8_size]; first | rfl | assumption | (exact Hid.out (by assumption)) | exact List.length_replicate ..) | (simp [arr8_size]; done))) (by first | rfl | (first | rfl | assumption | (exact Hid.out (by assumption)) | (rw [arr8_size]; first | rfl | assumption | (exact Hid.out (by assumption)) | exact List.length_replicate ..) | (simp [arr8_size]; done))) on1 rfl ?_; clear S; intro w S) | ((with_reducible show wpList _ _ _ (⟨_, .load 4 _, _, _, _, _⟩ :: _) _ _); first | (refine step_load1 4 _ _ _ rfl (S.cell pk co) _ Tryd.underlying4 rfl rfl ?_) | (refine step_load1 4 _ _ _ rfl (S.row_cell pk _ _ hyr) _ Tryd.underlying4 rfl rfl ?_) | (refine step_load1 4 _ _ _ rfl (S.row_cellS pk _ _ hy) _ Tryd.underlying4 rfl rfl ?_) | (refine step_load1 4 _ _ _ rfl (S.old_cell hy) _ Tryd.underlying4 rfl rfl ?_)) | ((with_reducible show wpList _ _ _ (⟨none, .store 4 (.tmp 31) _, _, _, _, _⟩ :: _) _ _); first | (refine step_store1 S 4 (.tmp 31) _ _ _ (.bool _) rfl rfl _ _ pk (by kernel_rfl) rfl rfl (by first | rfl | (first | rfl | assumption | (exact Hid.out (by assumption)) | (rw [arr8_size]; first | rfl | assumption | (exact Hid.out (by assumption)) | exact List.length_replicate ..) | (simp [arr8_size]; done))) rfl ?_; clear S; intro w S; try simp only [List.setIfInBounds_toArray, List.set_cons_zero, List.set_cons_succ] at S) | (refine step_storeR S 4 (.tmp 31) _ _ _ (.bool _) rfl rfl _ _ _ _ pk (by (first | omega | assumption | (exact Hid.out (by assumption)) | (simp only [List.length_append, List.length_cons, List.length_nil]; omega))) (by kernel_rfl) rfl rfl rfl ?_; clear S; intro w S) | (refine step_storeS S 4 (.tmp 31) _ _ _ (.bool _) rfl rfl _ _ _ _ _ pk (by (first | omega | assumption | (exact Hid.out (by assumption)) | (simp only [List.length_append, List.length_cons, List.length_nil]; omega))) (by kernel_rfl) rfl rfl rfl ?_; clear S; intro w S)) | fail)
      go_ret2
      exact ⟨_, rfl, S.nil.nilM⟩
    | some x =>
      rw [hx] at hE
      dsimp only at hE
      have hen := fun v w h => entry_some v l n x w h hn hx
      cases hv : x.revoked with
      | true =>
        rw [if_pos hv] at hE
        rw [rev_no l n (by rw [hE]; decide), hE]
        have hx2 : (mintL x).toArray[2]? = some (.bool true) := by rw [mintL_2, hv]
        have H := Lib.hid h; have HCK := Lib.hid hck; have HEN := Lib.hid hen; have HX2 := Lib.hid hx2; clear h hck hen hx2
        clear hE hc0 hx hv
        go_enter Tryd.func34, Tryd.ntmps34
        go_wp2_with (first | (go_at_call 41; (with_reducible refine (HCK.out _ _ (by first | assumption | exact S.old (Hid.out (by assumption)) | exact S.sl pk | exact S.sl_rd pk)).mono ?_); rintro e w1 ⟨rfl, T⟩; replace S := S.call T; clear T; (try simp only [List.nil_append, List.cons_append] at S)) | (go_at_call 55; (with_reducible refine (HEN.out _ _ (by first | assumption | exact S.old (Hid.out (by assumption)) | exact S.sl pk | exact S.sl_rd pk)).mono ?_); rintro e w1 ⟨rfl, T⟩; replace S := S.call T; clear T; (try simp only [List.nil_append, List.cons_append] at S)) | ((with_reducible show wpList _ _ _ (⟨some 7, .alloc 58, _, _, _, _⟩ :: _) _ _); refine step_alloc (dst := some 7) S 58 (.agg ((mintL mintZ).toArray)) ((mintL mintZ).toArray) (by kernel_rfl) rfl rfl ?_; clear S; intro g7 w S) | ((with_reducible show wpList _ _ _ (⟨none, .store 58 (.tmp 7) (.tmp 19), _, _, _, _⟩ :: _) _ _); refine step_store S 58 (.tmp 7) (.tmp 19) _ _ rfl rfl _ _ pk 3 (by kernel_rfl) (by first | rfl | (first | rfl | assumption | (exact Hid.out (by assumption)) | (rw [arr8_size]; first | rfl | assumption | (exact Hid.out (by assumption)) | exact List.length_replicate ..) | (simp [arr8_size]; done))) (by first | rfl | (first | rfl | assumption | (exact Hid.out (by assumption)) | (rw [arr8_size]; first | rfl | assumption | (exact Hid.out (by assumption)) | exact List.length_replicate ..) | (simp [arr8_size]; done))) on1 rfl ?_; clear S; intro w S) | ((with_reducible show wpList _ _ _ (⟨_, .load 4 _, _, _, _, _⟩ :: _) _ _); first | (refine step_load1 4 _ _ _ rfl (S.cell pk co) _ Tryd.underlying4 rfl rfl ?_) | (refine step_load1 4 _ _ _ rfl (S.row_cell pk _ _ hyr) _ Tryd.underlying4 rfl rfl ?_) | (refine step_load1 4 _ _ _ rfl (S.row_cellS pk _ _ hy) _ Tryd.underlying4 rfl rfl ?_) | (refine step_load1 4 _ _ _ rfl (S.old_cell hy) _ Tryd.underlying4 rfl rfl ?_)) | ((with_reducible show wpList _ _ _ (⟨none, .store 4 (.tmp 31) _, _, _, _, _⟩ :: _) _ _); first | (refine step_store1 S 4 (.tmp 31) _ _ _ (.bool _) rfl rfl _ _ pk (by kernel_rfl) rfl rfl (by first | rfl | (first | rfl | assumption | (exact Hid.out (by assumption)) | (rw [arr8_size]; first | rfl | assumption | (exact Hid.out (by assumption)) | exact List.length_replicate ..) | (simp [arr8_size]; done))) rfl ?_; clear S; intro w S; try simp only [List.setIfInBounds_toArray, List.set_cons_zero, List.set_cons_succ] at S) | (refine step_storeR S 4 (.tmp 31) _ _ _ (.bool _) rfl rfl _ _ _ _ pk (by (first | omega | assumption | (exact Hid.out (by assumption)) | (simp only [List.length_append, List.length_cons, List.length_nil]; omega))) (by kernel_rfl) rfl rfl rfl ?_; clear S; intro w S) | (refine step_storeS S 4 (.tmp 31) _ _ _ (.bool _) rfl rfl _ _ _ _ _ pk (by (first | omega | assumption | (exact Hid.out (by assumption)) | (simp only [List.length_append, List.length_cons, List.length_nil]; omega))) (by kernel_rfl) rfl rfl rfl ?_; clear S; intro w S)) | fail)
        go_ret2
        exact ⟨_, rfl, S.nil.nilM⟩
      | false =>
        rw [if_neg (by rw [hv]; decide)] at hE
        have hR : revR l n = l.set (n - 1) ⟨x.role, x.expiry, true⟩ := by unfold revR; rw [if_pos hE, hx]
        rw [hR, hE]
        obtain ⟨k, rfl⟩ : ∃ k, n = k + 1 := by
          cases n with
          | zero => cases hx
          | succ k => exact ⟨k, rfl⟩
        rw [Nat.add_sub_cancel]
        simp only [show ((k + 1 : Nat) : Int) = (k : Int) + 1 from rfl] at hen
        have hxk : l[k]? = some x := hx
        have hkl := (List.getElem?_eq_some_iff.1 hxk).1
        have hki : (k : Int) < l.length := by omega
        have hsf := set_flat l k x hxk
        have hx2 : (mintL x).toArray[2]? = some (.bool false) := by rw [mintL_2, hv]
        have hcl := fun v w h => cloneM_s v l w h (by omega)
        have hks : k * 3 + 2 < (l.flatMap mintL).length := by rw [flat_len mintL 3 mintL_length]; omega
        have hl2 : (l.set k ⟨x.role, x.expiry, true⟩).length = l.length := List.length_set
        obtain ⟨l2, hl2e⟩ : ∃ l2, l2 = l.set k ⟨x.role, x.expiry, true⟩ := ⟨_, rfl⟩
        rw [← hl2e] at hsf hl2 ⊢
        have hl0 : l.length ≠ 0 := by omega
        have H := Lib.hid h; have HCK := Lib.hid hck; have HEN := Lib.hid hen; have HX2 := Lib.hid hx2; have HSF := Lib.hid hsf; have HCL := Lib.hid hcl; have HKS := Lib.hid hks; have HL2 := Lib.hid hl2; clear h hck hen hx2 hsf hcl hks hl2
        clear hE hc0 hx hv hR hl2e hxk
        go_enter Tryd.func34, Tryd.ntmps34
        go_wp2_with (first | (go_at_call 41; (with_reducible refine (HCK.out _ _ (by first | assumption | exact S.old (Hid.out (by assumption)) | exact S.sl pk | exact S.sl_rd pk)).mono ?_); rintro e w1 ⟨rfl, T⟩; replace S := S.call T; clear T; (try simp only [List.nil_append, List.cons_append] at S)) | (go_at_call 55; (with_reducible refine (HEN.out _ _ (by first | assumption | exact S.old (Hid.out (by assumption)) | exact S.sl pk | exact S.sl_rd pk)).mono ?_); rintro e w1 ⟨rfl, T⟩; replace S := S.call T; clear T; (try simp only [List.nil_append, List.cons_append] at S)) | ((with_reducible show wpList _ _ _ (⟨some 7, .alloc 58, _, _, _, _⟩ :: _) _ _); refine step_alloc (dst := some 7) S 58 (.agg ((mintL mintZ).toArray)) ((mintL mintZ).toArray) (by kernel_rfl) rfl rfl ?_; clear S; intro g7 w S) | ((with_reducible show wpList _ _ _ (⟨none, .store 58 (.tmp 7) (.tmp 19), _, _, _, _⟩ :: _) _ _); refine step_store S 58 (.tmp 7) (.tmp 19) _ _ rfl rfl _ _ pk 3 (by kernel_rfl) (by first | rfl | (first | rfl | assumption | (exact Hid.out (by assumption)) | (rw [arr8_size]; first | rfl | assumption | (exact Hid.out (by assumption)) | exact List.length_replicate ..) | (simp [arr8_size]; done))) (by first | rfl | (first | rfl | assumption | (exact Hid.out (by assumption)) | (rw [arr8_size]; first | rfl | assumption | (exact Hid.out (by assumption)) | exact List.length_replicate ..) | (simp [arr8_size]; done))) on1 rfl ?_; clear S; intro w S) | ((with_reducible show wpList _ _ _ (⟨_, .load 4 _, _, _, _, _⟩ :: _) _ _); first | (refine step_load1 4 _ _ _ rfl (S.cell pk co) _ Tryd.underlying4 rfl rfl ?_) | (refine step_load1 4 _ _ _ rfl (S.row_cell pk _ _ hyr) _ Tryd.underlying4 rfl rfl ?_) | (refine step_load1 4 _ _ _ rfl (S.row_cellS pk _ _ hy) _ Tryd.underlying4 rfl rfl ?_) | (refine step_load1 4 _ _ _ rfl (S.old_cell hy) _ Tryd.underlying4 rfl rfl ?_)) | (go_at_call 66; (with_reducible refine (HCL.out _ _ (by first | assumption | exact S.old (Hid.out (by assumption)) | exact S.sl pk | exact S.sl_rd pk)).mono ?_); rintro e w1 ⟨v26, rfl, T⟩; replace S := S.call T; clear T; (try simp only [List.nil_append, List.cons_append] at S); obtain ⟨g26, c26, rfl, _⟩ := S.row_at (v := v26) pk hl0) | ((with_reducible show wpList _ _ _ (⟨none, .store 4 (.tmp 31) _, _, _, _, _⟩ :: _) _ _); first | (refine step_store1 S 4 (.tmp 31) _ _ _ (.bool _) rfl rfl _ _ pk (by kernel_rfl) rfl rfl (by first | rfl | (first | rfl | assumption | (exact Hid.out (by assumption)) | (rw [arr8_size]; first | rfl | assumption | (exact Hid.out (by assumption)) | exact List.length_replicate ..) | (simp [arr8_size]; done))) rfl ?_; clear S; intro w S; try simp only [List.setIfInBounds_toArray, List.set_cons_zero, List.set_cons_succ] at S) | (refine step_storeR S 4 (.tmp 31) _ _ _ (.bool _) rfl rfl _ _ _ _ pk (by (first | omega | assumption | (exact Hid.out (by assumption)) | (simp only [List.length_append, List.length_cons, List.length_nil]; omega))) (by kernel_rfl) rfl rfl rfl ?_; clear S; intro w S) | (refine step_storeS S 4 (.tmp 31) _ _ _ (.bool _) rfl rfl _ _ _ _ _ pk (by (first | omega | assumption | (exact Hid.out (by assumption)) | (simp only [List.length_append, List.length_cons, List.length_nil]; omega))) (by kernel_rfl) rfl rfl rfl ?_; clear S; intro w S)) | fail)
        go_ret2
        refine ⟨_, rfl, ?_⟩
        rw [HSF.out] at S
        have S2 := S.sub (k := [row (.slice (some ⟨g26, 0, none⟩) l.length c26) 58 3 l.length (l2.flatMap mintL)]) (by repeat (first | exact Sub.nil _ | refine Sub.cons pk ?_))
        unfold rowM
        rw [HL2.out]
        exact S2
  · have hE : revE l n = chkR l := if_pos hc0
    rw [rev_no l n (by rw [hE]; exact hc0), hE]
    obtain ⟨E, hEe⟩ : ∃ E, E = chkR l := ⟨_, rfl⟩
    rw [← hEe] at hck hc0 ⊢
    have i1 : (E != 0) = true := by simpa using hc0
    have H := Lib.hid h; have HCK := Lib.hid hck; clear h hck
    clear hE hEe hc0
    go_enter Tryd.func34, Tryd.ntmps34
    go_wp2_with (first | (go_at_call 41; (with_reducible refine (HCK.out _ _ (by first | assumption | exact S.old (Hid.out (by assumption)) | exact S.sl pk | exact S.sl_rd pk)).mono ?_); rintro e w1 ⟨rfl, T⟩; replace S := S.call T; clear T; (try simp only [List.nil_append, List.cons_append] at S)) | ((with_reducible show wpList _ _ _ (⟨some 7, .alloc 58, _, _, _, _⟩ :: _) _ _); refine step_alloc (dst := some 7) S 58 (.agg ((mintL mintZ).toArray)) ((mintL mintZ).toArray) (by kernel_rfl) rfl rfl ?_; clear S; intro g7 w S) | ((with_reducible show wpList _ _ _ (⟨none, .store 58 (.tmp 7) (.tmp 19), _, _, _, _⟩ :: _) _ _); refine step_store S 58 (.tmp 7) (.tmp 19) _ _ rfl rfl _ _ pk 3 (by kernel_rfl) (by first | rfl | (first | rfl | assumption | (exact Hid.out (by assumption)) | (rw [arr8_size]; first | rfl | assumption | (exact Hid.out (by assumption)) | exact List.length_replicate ..) | (simp [arr8_size]; done))) (by first | rfl | (first | rfl | assumption | (exact Hid.out (by assumption)) | (rw [arr8_size]; first | rfl | assumption | (exact Hid.out (by assumption)) | exact List.length_replicate ..) | (simp [arr8_size]; done))) on1 rfl ?_; clear S; intro w S) | ((with_reducible show wpList _ _ _ (⟨_, .load 4 _, _, _, _, _⟩ :: _) _ _); first | (refine step_load1 4 _ _ _ rfl (S.cell pk co) _ Tryd.underlying4 rfl rfl ?_) | (refine step_load1 4 _ _ _ rfl (S.row_cell pk _ _ hyr) _ Tryd.underlying4 rfl rfl ?_) | (refine step_load1 4 _ _ _ rfl (S.row_cellS pk _ _ hy) _ Tryd.underlying4 rfl rfl ?_) | (refine step_load1 4 _ _ _ rfl (S.old_cell hy) _ Tryd.underlying4 rfl rfl ?_)) | ((with_reducible show wpList _ _ _ (⟨none, .store 4 (.tmp 31) _, _, _, _, _⟩ :: _) _ _); first | (refine step_store1 S 4 (.tmp 31) _ _ _ (.bool _) rfl rfl _ _ pk (by kernel_rfl) rfl rfl (by first | rfl | (first | rfl | assumption | (exact Hid.out (by assumption)) | (rw [arr8_size]; first | rfl | assumption | (exact Hid.out (by assumption)) | exact List.length_replicate ..) | (simp [arr8_size]; done))) rfl ?_; clear S; intro w S; try simp only [List.setIfInBounds_toArray, List.set_cons_zero, List.set_cons_succ] at S) | (refine step_storeR S 4 (.tmp 31) _ _ _ (.bool _) rfl rfl _ _ _ _ pk (by (first | omega | assumption | (exact Hid.out (by assumption)) | (simp only [List.length_append, List.length_cons, List.length_nil]; omega))) (by kernel_rfl) rfl rfl rfl ?_; clear S; intro w S) | (refine step_storeS S 4 (.tmp 31) _ _ _ (.bool _) rfl rfl _ _ _ _ _ pk (by (first | omega | assumption | (exact Hid.out (by assumption)) | (simp only [List.length_append, List.length_cons, List.length_nil]; omega))) (by kernel_rfl) rfl rfl rfl ?_; clear S; intro w S)) | fail)
    go_ret2
    exact ⟨_, rfl, S.nil.nilM⟩

set_option maxRecDepth 100000 in
set_option maxHeartbeats 4000000 in
theorem refRevoke_r (v : Value) (l : List Mnt) (n : Nat) (w0 : World) (h : Rg w0 v l) (hn : n < 4294967296) :
    Calls Tryd.prog 36 #[v, .int .u32 (n : Int)] w0 (MadeM2 w0 (revR l n) (revE l n)) := by
  have S := Has.start w0
  obtain ⟨a0, c0, rfl, k1, k2⟩ := Sl.shape h
  unfold maxLen at k2
  have hck := fun v w h => refCheck_r v l w h
  by_cases hc0 : chkR l = 0
  · have hE := rev_chk l n hc0
    have h32 := chkR_len l hc0
    have hcl := fun v w h => twin_s v l w h (by omega)
    rw [hc0] at hck
    obtain ⟨E, hEe⟩ : ∃ E, E = revE l n := ⟨_, rfl⟩
    obtain ⟨R, hRe⟩ : ∃ R, R = revR l n := ⟨_, rfl⟩
    rw [← hEe] at hE
    rw [← hEe, ← hRe]
    have H := Lib.hid h; have HCK := Lib.hid hck; have HE := Lib.hid hE; have HEE := Lib.hid hEe; have HRE := Lib.hid hRe; have HCL := Lib.hid hcl; clear h hck hE hEe hRe hcl
    clear hc0
    go_enter Tryd.func36, Tryd.ntmps36
    go_wp2_with (first | (go_at_call 42; (with_reducible refine (HCK.out _ _ (by first | assumption | exact S.old (Hid.out (by assumption)) | exact S.sl pk | exact S.sl_rd pk)).mono ?_); rintro e w1 ⟨rfl, T⟩; replace S := S.call T; clear T; (try simp only [List.nil_append, List.cons_append] at S)) | ((with_reducible show wpList _ _ _ (⟨_, .load 4 _, _, _, _, _⟩ :: _) _ _); first | (refine step_load1 4 _ _ _ rfl (S.cell pk co) _ Tryd.underlying4 rfl rfl ?_) | (refine step_load1 4 _ _ _ rfl (S.row_cell pk _ _ hyr) _ Tryd.underlying4 rfl rfl ?_) | (refine step_load1 4 _ _ _ rfl (S.row_cellS pk _ _ hy) _ Tryd.underlying4 rfl rfl ?_) | (refine step_load1 4 _ _ _ rfl (S.old_cell hy) _ Tryd.underlying4 rfl rfl ?_)) | ((with_reducible show wpList _ _ _ (⟨none, .store 4 (.tmp 35) _, _, _, _, _⟩ :: _) _ _); first | (refine step_store1 S 4 (.tmp 35) _ _ _ (.bool _) rfl rfl _ _ pk (by kernel_rfl) rfl rfl (by first | rfl | (first | rfl | assumption | (exact Hid.out (by assumption)) | (rw [arr8_size]; first | rfl | assumption | (exact Hid.out (by assumption)) | exact List.length_replicate ..) | (simp [arr8_size]; done))) rfl ?_; clear S; intro w S; try simp only [List.setIfInBounds_toArray, List.set_cons_zero, List.set_cons_succ] at S) | (refine step_storeR S 4 (.tmp 35) _ _ _ (.bool _) rfl rfl _ _ _ _ pk (by (first | omega | assumption | (exact Hid.out (by assumption)) | (simp only [List.length_append, List.length_cons, List.length_nil]; omega))) (by kernel_rfl) rfl rfl rfl ?_; clear S; intro w S) | (refine step_storeS S 4 (.tmp 35) _ _ _ (.bool _) rfl rfl _ _ _ _ _ pk (by (first | omega | assumption | (exact Hid.out (by assumption)) | (simp only [List.length_append, List.length_cons, List.length_nil]; omega))) (by kernel_rfl) rfl rfl rfl ?_; clear S; intro w S)) | fail)
    go_loopw [7] (fun t wr => ∃ (k : Nat), k ≤ l.length ∧ t = .int .i64 (k : Int) ∧ (n = 0 ∨ k < n) ∧ Has w0 wr []) (fun t _ => l.length - (intOf t).toNat)
    case atStart => exact ⟨0, Nat.zero_le _, rfl, by omega, S.nil⟩
    case round =>
      obtain ⟨k, hk, rfl, hkn, S⟩ := hrel
      by_cases hlt : k < l.length
      · have hki : (k : Int) < l.length := by omega
        by_cases hkn2 : k + 1 = n
        · subst hkn2
          have hxk : l[k]? = some l[k] := List.getElem?_eq_getElem hlt
          obtain ⟨b, off, rfl, hr, hr0, hr1, hr2⟩ := H.out.cells k _ hxk
          obtain ⟨x, hxe⟩ : ∃ x, x = l[k] := ⟨_, rfl⟩
          rw [← hxe] at hxk hr2
          have hx : entR l (k + 1) = some x := hxk
          have hE2 := HE.out
          rw [hx] at hE2
          dsimp only at hE2
          cases hv : x.revoked with
          | true =>
            rw [if_pos hv] at hE2
            have hR2 : R = [] := by rw [HRE.out]; exact rev_no l _ (by rw [← HEE.out, hE2]; decide)
            rw [hv] at hr2
            subst hE2
            subst hR2
            have HR2 := Lib.hid hr2; clear hr2
            clear hr hr0 hr1 hxe hxk hx hv hkn
            go_wp2_with (first | ((with_reducible show wpList _ _ _ (⟨_, .load 4 _, _, _, _, _⟩ :: _) _ _); first | (refine step_load1 4 _ _ _ rfl (S.cell pk co) _ Tryd.underlying4 rfl rfl ?_) | (refine step_load1 4 _ _ _ rfl (S.row_cell pk _ _ hyr) _ Tryd.underlying4 rfl rfl ?_) | (refine step_load1 4 _ _ _ rfl (S.row_cellS pk _ _ hy) _ Tryd.underlying4 rfl rfl ?_) | (refine step_load1 4 _ _ _ rfl (S.old_cell hy) _ Tryd.underlying4 rfl rfl ?_)) | ((with_reducible show wpList _ _ _ (⟨none, .store 4 (.tmp 35) _, _, _, _, _⟩ :: _) _ _); first | (refine step_store1 S 4 (.tmp 35) _ _ _ (.bool _) rfl rfl _ _ pk (by kernel_rfl) rfl rfl (by first | rfl | (first | rfl | assumption | (exact Hid.out (by assumption)) | (rw [arr8_size]; first | rfl | assumption | (exact Hid.out (by assumption)) | exact List.length_replicate ..) | (simp [arr8_size]; done))) rfl ?_; clear S; intro w S; try simp only [List.setIfInBounds_toArray, List.set_cons_zero, List.set_cons_succ] at S) | (refine step_storeR S 4 (.tmp 35) _ _ _ (.bool _) rfl rfl _ _ _ _ pk (by (first | omega | assumption | (exact Hid.out (by assumption)) | (simp only [List.length_append, List.length_cons, List.length_nil]; omega))) (by kernel_rfl) rfl rfl rfl ?_; clear S; intro w S) | (refine step_storeS S 4 (.tmp 35) _ _ _ (.bool _) rfl rfl _ _ _ _ _ pk (by (first | omega | assumption | (exact Hid.out (by assumption)) | (simp only [List.length_append, List.length_cons, List.length_nil]; omega))) (by kernel_rfl) rfl rfl rfl ?_; clear S; intro w S)) | fail)
            go_ret2
            exact ⟨_, rfl, S.nil.nilM⟩
          | false =>
            rw [if_neg (by rw [hv]; decide)] at hE2
            have hR2 : R = l.set k ⟨x.role, x.expiry, true⟩ := by rw [HRE.out]; unfold revR; rw [if_pos (by rw [← HEE.out, hE2]), hx]; rfl
            have hsf := set_flat l k x hxk
            have hks : k * 3 + 2 < (l.flatMap mintL).length := by rw [flat_len mintL 3 mintL_length]; omega
            have hl2 : (l.set k ⟨x.role, x.expiry, true⟩).length = l.length := List.length_set
            rw [← hR2] at hsf hl2
            have hl0 : l.length ≠ 0 := by omega
            rw [hv] at hr2
            subst hE2
            have HR2 := Lib.hid hr2; have HSF := Lib.hid hsf; have HKS := Lib.hid hks; have HL2 := Lib.hid hl2; clear hr2 hsf hks hl2
            clear hr hr0 hr1 hxe hxk hx hv hkn hR2
            go_wp2_with (first | ((with_reducible show wpList _ _ _ (⟨_, .load 4 _, _, _, _, _⟩ :: _) _ _); first | (refine step_load1 4 _ _ _ rfl (S.cell pk co) _ Tryd.underlying4 rfl rfl ?_) | (refine step_load1 4 _ _ _ rfl (S.row_cell pk _ _ hyr) _ Tryd.underlying4 rfl rfl ?_) | (refine step_load1 4 _ _ _ rfl (S.row_cellS pk _ _ hy) _ Tryd.underlying4 rfl rfl ?_) | (refine step_load1 4 _ _ _ rfl (S.old_cell hy) _ Tryd.underlying4 rfl rfl ?_)) | (go_at_call 67; (with_reducible refine (HCL.out _ _ (by first | assumption | exact S.old (Hid.out (by assumption)) | exact S.sl pk | exact S.sl_rd pk)).mono ?_); rintro e w1 ⟨v31, rfl, T⟩; replace S := S.call T; clear T; (try simp only [List.nil_append, List.cons_append] at S); obtain ⟨g31, c31, rfl, _⟩ := S.row_at (v := v31) pk hl0) | ((with_reducible show wpList _ _ _ (⟨none, .store 4 (.tmp 35) _, _, _, _, _⟩ :: _) _ _); first | (refine step_store1 S 4 (.tmp 35) _ _ _ (.bool _) rfl rfl _ _ pk (by kernel_rfl) rfl rfl (by first | rfl | (first | rfl | assumption | (exact Hid.out (by assumption)) | (rw [arr8_size]; first | rfl | assumption | (exact Hid.out (by assumption)) | exact List.length_replicate ..) | (simp [arr8_size]; done))) rfl ?_; clear S; intro w S; try simp only [List.setIfInBounds_toArray, List.set_cons_zero, List.set_cons_succ] at S) | (refine step_storeR S 4 (.tmp 35) _ _ _ (.bool _) rfl rfl _ _ _ _ pk (by (first | omega | assumption | (exact Hid.out (by assumption)) | (simp only [List.length_append, List.length_cons, List.length_nil]; omega))) (by kernel_rfl) rfl rfl rfl ?_; clear S; intro w S) | (refine step_storeS S 4 (.tmp 35) _ _ _ (.bool _) rfl rfl _ _ _ _ _ pk (by (first | omega | assumption | (exact Hid.out (by assumption)) | (simp only [List.length_append, List.length_cons, List.length_nil]; omega))) (by kernel_rfl) rfl rfl rfl ?_; clear S; intro w S)) | fail)
            go_ret2
            refine ⟨_, rfl, ?_⟩
            rw [HSF.out] at S
            have S2 := S.sub (k := [row (.slice (some ⟨g31, 0, none⟩) l.length c31) 58 3 l.length (R.flatMap mintL)]) (by repeat (first | exact Sub.nil _ | refine Sub.cons pk ?_))
            unfold rowM
            rw [HL2.out]
            exact S2
        · have hne : ((k : Int) + 1 != (n : Int)) = true := by simp; omega
          go_wp2_with (first | ((with_reducible show wpList _ _ _ (⟨_, .load 4 _, _, _, _, _⟩ :: _) _ _); first | (refine step_load1 4 _ _ _ rfl (S.cell pk co) _ Tryd.underlying4 rfl rfl ?_) | (refine step_load1 4 _ _ _ rfl (S.row_cell pk _ _ hyr) _ Tryd.underlying4 rfl rfl ?_) | (refine step_load1 4 _ _ _ rfl (S.row_cellS pk _ _ hy) _ Tryd.underlying4 rfl rfl ?_) | (refine step_load1 4 _ _ _ rfl (S.old_cell hy) _ Tryd.underlying4 rfl rfl ?_)) | ((with_reducible show wpList _ _ _ (⟨none, .store 4 (.tmp 35) _, _, _, _, _⟩ :: _) _ _); first | (refine step_store1 S 4 (.tmp 35) _ _ _ (.bool _) rfl rfl _ _ pk (by kernel_rfl) rfl rfl (by first | rfl | (first | rfl | assumption | (exact Hid.out (by assumption)) | (rw [arr8_size]; first | rfl | assumption | (exact Hid.out (by assumption)) | exact List.length_replicate ..) | (simp [arr8_size]; done))) rfl ?_; clear S; intro w S; try simp only [List.setIfInBounds_toArray, List.set_cons_zero, List.set_cons_succ] at S) | (refine step_storeR S 4 (.tmp 35) _ _ _ (.bool _) rfl rfl _ _ _ _ pk (by (first | omega | assumption | (exact Hid.out (by assumption)) | (simp only [List.length_append, List.length_cons, List.length_nil]; omega))) (by kernel_rfl) rfl rfl rfl ?_; clear S; intro w S) | (refine step_storeS S 4 (.tmp 35) _ _ _ (.bool _) rfl rfl _ _ _ _ _ pk (by (first | omega | assumption | (exact Hid.out (by assumption)) | (simp only [List.length_append, List.length_cons, List.length_nil]; omega))) (by kernel_rfl) rfl rfl rfl ?_; clear S; intro w S)) | fail)
          go_roundw
          case rel => exact ⟨k + 1, by omega, by go_num, by omega, S.nil⟩
          case measure => simp [intOf]; omega
      · obtain rfl : k = l.length := by omega
        have hx : entR l n = none := by
          unfold entR
          split
          · rfl
          · rw [List.getElem?_eq_none]; omega
        have hE2 := HE.out
        rw [hx] at hE2
        dsimp only at hE2
        have hR2 : R = [] := by rw [HRE.out]; exact rev_no l _ (by rw [← HEE.out, hE2]; decide)
        subst hE2
        subst hR2
        clear hx hkn
        go_wp2_with (first | ((with_reducible show wpList _ _ _ (⟨_, .load 4 _, _, _, _, _⟩ :: _) _ _); first | (refine step_load1 4 _ _ _ rfl (S.cell pk co) _ Tryd.underlying4 rfl rfl ?_) | (refine step_load1 4 _ _ _ rfl (S.row_cell pk _ _ hyr) _ Tryd.underlying4 rfl rfl ?_) | (refine step_load1 4 _ _ _ rfl (S.row_cellS pk _ _ hy) _ Tryd.underlying4 rfl rfl ?_) | (refine step_load1 4 _ _ _ rfl (S.old_cell hy) _ Tryd.underlying4 rfl rfl ?_)) | ((with_reducible show wpList _ _ _ (⟨none, .store 4 (.tmp 35) _, _, _, _, _⟩ :: _) _ _); first | (refine step_store1 S 4 (.tmp 35) _ _ _ (.bool _) rfl rfl _ _ pk (by kernel_rfl) rfl rfl (by first | rfl | (first | rfl | assumption | (exact Hid.out (by assumption)) | (rw [arr8_size]; first | rfl | assumption | (exact Hid.out (by assumption)) | exact List.length_replicate ..) | (simp [arr8_size]; done))) rfl ?_; clear S; intro w S; try simp only [List.setIfInBounds_toArray, List.set_cons_zero, List.set_cons_succ] at S) | (refine step_storeR S 4 (.tmp 35) _ _ _ (.bool _) rfl rfl _ _ _ _ pk (by (first | omega | assumption | (exact Hid.out (by assumption)) | (simp only [List.length_append, List.length_cons, List.length_nil]; omega))) (by kernel_rfl) rfl rfl rfl ?_; clear S; intro w S) | (refine step_storeS S 4 (.tmp 35) _ _ _ (.bool _) rfl rfl _ _ _ _ _ pk (by (first | omega | assumption | (exact Hid.out (by assumption)) | (simp only [List.length_append, List.length_cons, List.length_nil]; omega))) (by kernel_rfl) rfl rfl rfl ?_; clear S; intro w S)) | fail)
        go_ret2
        exact ⟨_, rfl, S.nil.nilM⟩
  · have hE : revE l n = chkR l := if_pos hc0
    rw [rev_no l n (by rw [hE]; exact hc0), hE]
    obtain ⟨E, hEe⟩ : ∃ E, E = chkR l := ⟨_, rfl⟩
    rw [← hEe] at hck hc0 ⊢
    have i1 : (E != 0) = true := by simpa using hc0
    have H := Lib.hid h; have HCK := Lib.hid hck; clear h hck
    clear hE hEe hc0
    go_enter Tryd.func36, Tryd.ntmps36
    go_wp2_with (first | (go_at_call 42; (with_reducible refine (HCK.out _ _ (by first | assumption | exact S.old (Hid.out (by assumption)) | exact S.sl pk | exact S.sl_rd pk)).mono ?_); rintro e w1 ⟨rfl, T⟩; replace S := S.call T; clear T; (try simp only [List.nil_append, List.cons_append] at S)) | ((with_reducible show wpList _ _ _ (⟨_, .load 4 _, _, _, _, _⟩ :: _) _ _); first | (refine step_load1 4 _ _ _ rfl (S.cell pk co) _ Tryd.underlying4 rfl rfl ?_) | (refine step_load1 4 _ _ _ rfl (S.row_cell pk _ _ hyr) _ Tryd.underlying4 rfl rfl ?_) | (refine step_load1 4 _ _ _ rfl (S.row_cellS pk _ _ hy) _ Tryd.underlying4 rfl rfl ?_) | (refine step_load1 4 _ _ _ rfl (S.old_cell hy) _ Tryd.underlying4 rfl rfl ?_)) | ((with_reducible show wpList _ _ _ (⟨none, .store 4 (.tmp 35) _, _, _, _, _⟩ :: _) _ _); first | (refine step_store1 S 4 (.tmp 35) _ _ _ (.bool _) rfl rfl _ _ pk (by kernel_rfl) rfl rfl (by first | rfl | (first | rfl | assumption | (exact Hid.out (by assumption)) | (rw [arr8_size]; first | rfl | assumption | (exact Hid.out (by assumption)) | exact List.length_replicate ..) | (simp [arr8_size]; done))) rfl ?_; clear S; intro w S; try simp only [List.setIfInBounds_toArray, List.set_cons_zero, List.set_cons_succ] at S) | (refine step_storeR S 4 (.tmp 35) _ _ _ (.bool _) rfl rfl _ _ _ _ pk (by (first | omega | assumption | (exact Hid.out (by assumption)) | (simp only [List.length_append, List.length_cons, List.length_nil]; omega))) (by kernel_rfl) rfl rfl rfl ?_; clear S; intro w S) | (refine step_storeS S 4 (.tmp 35) _ _ _ (.bool _) rfl rfl _ _ _ _ _ pk (by (first | omega | assumption | (exact Hid.out (by assumption)) | (simp only [List.length_append, List.length_cons, List.length_nil]; omega))) (by kernel_rfl) rfl rfl rfl ?_; clear S; intro w S)) | fail)
    go_ret2
    exact ⟨_, rfl, S.nil.nilM⟩
end Go.Proofs.YtioonimpobcglaaDoor
