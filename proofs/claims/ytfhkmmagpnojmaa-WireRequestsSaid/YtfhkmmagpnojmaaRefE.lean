/- The encoding of a request as the specification has it. No condition but the reach. -/
import Derived.Test.YtfhkmmagpnojmaaBd
import Derived.Test.YtfhkmmagpnojmaaDecQ
set_option linter.unusedSimpArgs false
set_option linter.unusedVariables false
namespace Go.Proofs.Ytfhkmmagpnojmaa
open Go.RowKit

set_option maxRecDepth 100000 in
set_option maxHeartbeats 2000000 in
theorem refFramed_s (v : Value) (xs : List UInt8) (w0 : World) (hv : Bs w0 v xs) (hl : xs.length ≤ 140737488351232) :
    Calls Try.prog 54 #[v] w0 (MadeB w0 (frm xs)) := by
  have S := Has.start w0
  obtain ⟨a0, c0, rfl, k1, k2⟩ := Sl.shape hv
  unfold maxLen at k2
  obtain ⟨n, hn⟩ : ∃ n, n = xs.length := ⟨_, rfl⟩
  have p1 := fun w => number_s (n + 2) 2 ((n : Int) + 2) 2 rfl rfl w (by omega) (by decide)
  have h1 : (numB (n + 2) 2).length + xs.length ≤ 140737488355328 := by rw [numB_length]; omega
  have hf : frm xs = numB (n + 2) 2 ++ xs := by unfold frm; rw [← hn]
  obtain ⟨X, hX⟩ : ∃ X, X = numB (n + 2) 2 := ⟨_, rfl⟩
  rw [← hX] at p1 h1 hf
  rw [hf]
  rw [← hn] at k1 hl hv ⊢
  have hn64 : (n : Int) + 2 ≤ 9223372036854775807 := by omega
  have HV := Lib.hid hv; have H1 := Lib.hid h1; have P1 := Lib.hid p1; clear hv h1 p1
  clear hf hX hn
  go_enter Try.func54, Try.ntmps54
  go_wp2_with (first | (at_builtin; refine step_append8 S (.tmp 7) (.tmp 8) v7 X rfl pk _ xs rfl (S.oldB HV.out) H1.out gw ?_; clear S; intro v9 w S) | (go_at_call 53; (with_reducible refine (P1.out _).mono ?_); rintro e w1 ⟨v7, rfl, T⟩; replace S := S.call T; clear T; (try simp only [List.nil_append, List.cons_append] at S)) | fail)
  go_ret
  exact ⟨_, rfl, S⟩

set_option maxRecDepth 100000 in
set_option maxHeartbeats 8000000 in
theorem refEncodeRequest_s (r : Rq) (w0 : World) : Calls Try.prog 31 #[.agg (rqL r).toArray] w0 (MadeB w0 (encR r)) := by
  have S := Has.start w0
  obtain ⟨k, t, p, d, n⟩ := r
  have p1 := fun w => refEnc_s t w
  have hE : encR ⟨k, t, p, d, n⟩ = frm ([k] ++ encT t ++ rqB ⟨k, t, p, d, n⟩) := rfl
  have hl := encT_length t
  obtain ⟨T46, hT⟩ : ∃ T, T = encT t := ⟨_, rfl⟩
  rw [← hT] at p1 hE hl
  rw [hE]
  have h1 : [k].length + T46.length ≤ 140737488355328 := by simp [hl]
  have hl2 : ([k] ++ T46).length = 47 := by simp [hl]
  have P1 := Lib.hid p1; have H1 := Lib.hid h1; clear p1 h1
  clear hT hE
  go_enter Try.func31, Try.ntmps31
  go_wp2_with (first | ((with_reducible show wpList _ _ _ (⟨some 1, .box 38 (.tmp 0), _, _, _, _⟩ :: _) _ _); refine step_boxA (dst := some 1) S 38 (.tmp 0) _ rfl rfl ?_; clear S; intro g1 w S) | ((with_reducible show wpList _ _ _ (⟨_, .load 5 _, _, _, _, _⟩ :: _) _ _); first | (refine step_load1 5 _ _ _ rfl (S.cell pk co) _ Try.underlying5 rfl rfl ?_) | (refine step_load1 5 _ _ _ rfl (S.row_cell pk _ _ hyr) _ Try.underlying5 rfl rfl ?_) | (refine step_load1 5 _ _ _ rfl (S.row_cellS pk _ _ hy) _ Try.underlying5 rfl rfl ?_) | (refine step_load1 5 _ _ _ rfl (S.old_cell hy) _ Try.underlying5 rfl rfl ?_)) | ((with_reducible show wpList _ _ _ (⟨some 6, .buildSlice 22 _ _, _, _, _, _⟩ :: _) _ _); refine step_build81 S (.tmp 5) _ rfl rfl ?_; clear S; intro v6 w S) | ((with_reducible show wpList _ _ _ (⟨_, .load 36 _, _, _, _, _⟩ :: _) _ _); first | (refine step_loadR 36 _ _ _ rfl _ (S.old_range hy) _ Try.underlying36 rfl 36 (by kernel_rfl) (by first | rfl | (first | rfl | assumption | (exact Hid.out (by assumption)) | (exact rqL_size _) | (exact tokL_size _) | (rw [arr8_size]; first | rfl | assumption | (exact Hid.out (by assumption)) | exact rqL_size _ | exact tokL_size _ | exact List.length_replicate ..) | (simp [arr8_size]; done))) _ rfl rfl ?_) | (refine step_loadP S 36 _ _ _ rfl _ _ _ pk 36 _ (by (first | exact cellsH_st .. | exact rqL_tok .. | exact rcdL_link .. | exact rpL_tok .. | assumption | rfl)) (by first | rfl | (first | rfl | assumption | (exact Hid.out (by assumption)) | (exact rqL_size _) | (exact tokL_size _) | (rw [arr8_size]; first | rfl | assumption | (exact Hid.out (by assumption)) | exact rqL_size _ | exact tokL_size _ | exact List.length_replicate ..) | (simp [arr8_size]; done))) _ Try.underlying36 rfl (by kernel_rfl) rfl ?_)) | (at_builtin; refine step_append8 S (.tmp 6) (.tmp 9) _ _ rfl pk _ _ rfl (by first | assumption | exact S.oldB (Hid.out (by assumption)) | exact Bs.mk0 _ _ | exact S.bs pk | exact S.bsr pk) (by (first | omega | assumption | (exact Hid.out (by assumption)) | (simp only [List.length_append, List.length_cons, List.length_nil]; omega))) rfl ?_; clear S; intro v10 w S; (try simp only [List.nil_append] at S)) | ((with_reducible show wpList _ _ _ (⟨some 20, .buildSlice 22 _ _, _, _, _, _⟩ :: _) _ _); refine step_build8 S 2 _ [_, _] (by first | rfl | kernel_rfl) rfl (by decide) rfl ?_; clear S; intro v20 w S) | ((with_reducible show wpList _ _ _ (⟨_, .load 33 _, _, _, _, _⟩ :: _) _ _); first | (refine step_load1 33 _ _ _ rfl (S.cell pk co) _ Try.underlying33 rfl rfl ?_) | (refine step_load1 33 _ _ _ rfl (S.row_cell pk _ _ hyr) _ Try.underlying33 rfl rfl ?_) | (refine step_load1 33 _ _ _ rfl (S.row_cellS pk _ _ hy) _ Try.underlying33 rfl rfl ?_) | (refine step_load1 33 _ _ _ rfl (S.old_cell hy) _ Try.underlying33 rfl rfl ?_)) | fail)
  refine wp_rely S [⟨[], [], [], fun _ v => v = .pointer (some ⟨g1, 0, none⟩), fun _ v => []⟩, ⟨[0], [], [], fun _ v => v = by8 k, fun _ v => []⟩, ⟨[0, 1], [], [], fun _ v => True, fun _ v => [row8 v [k]]⟩, ⟨[], [], [], fun _ v => v = .pointer (some ⟨g1, 1, none⟩), fun _ v => []⟩, ⟨[3], [], [], fun _ v => v = .agg (tokL t).toArray, fun _ v => []⟩, ⟨[3, 4], [], [], fun _ v => ∃ y, v = y, fun _ v => [row8 v T46]⟩, ⟨[0, 1, 2, 3, 4, 5], [2, 5], [], fun _ v => True, fun _ v => [row8 v ([k] ++ T46)]⟩, ⟨[0, 1, 2, 3, 4, 5, 6], [], [], fun d v => v = d 6, fun _ v => []⟩] ?A1 ?hA1 (by kernel_rfl) (by kernel_rfl) (by kernel_rfl) [0, 1, 3, 4, 6, 7] (by kernel_rfl) ?hok1 ?fin1
  case hA1 => intro u; simp only [putAll, List.length_cons, List.length_nil, Nat.zero_add, Nat.reduceAdd, dstAt, List.getElem?_toArray, List.getElem?_cons_zero, List.getElem?_cons_succ, Option.bind_some, Act.put, List.setIfInBounds_toArray, List.set_cons_zero, List.set_cons_succ]; rfl
  case hok1 =>
    intro i hi
    obtain rfl | rfl | rfl | rfl | rfl | rfl | rfl | rfl : i = 0 ∨ i = 1 ∨ i = 2 ∨ i = 3 ∨ i = 4 ∨ i = 5 ∨ i = 6 ∨ i = 7 := by simp only [List.length_cons, List.length_nil, Nat.zero_add, Nat.reduceAdd] at hi; omega
    · clear hi
      refine step_of rfl rfl rfl ?_
      intro u G w hf S
      simp only [resOf, spec, RSpec.resAt, z0, z1, z2, z3, z4, z5, z6, z7, ptrBlk] at S ⊢
      simp only [does]
      go_simp
      try first | exact S | exact ⟨vv, S⟩ | exact vv
    · clear hi
      refine step_of rfl rfl rfl ?_
      intro u G w hf S
      have f0 : u 0 = .pointer (some ⟨g1, 0, none⟩) := hf 0 (by simp)
      simp only [resOf, spec, RSpec.resAt, z0, z1, z2, z3, z4, z5, z6, z7, ptrBlk] at S ⊢
      simp only [f0]
      refine does_load1 5 (.tmp 4) _ _ rfl (S.cell (g := g1) pk co) _ Try.underlying5 rfl ?_; exact ⟨rfl, S⟩
    · clear hi
      refine step_of rfl rfl rfl ?_
      intro u G w hf S
      have f0 : u 0 = .pointer (some ⟨g1, 0, none⟩) := hf 0 (by simp)
      have f1 : u 1 = by8 k := hf 1 (by simp)
      simp only [resOf, spec, RSpec.resAt, z0, z1, z2, z3, z4, z5, z6, z7, ptrBlk] at S ⊢
      simp only [f0, f1]
      refine does_build81 S (.tmp 5) k rfl ?_; intro v w1 S; exact ⟨trivial, S⟩
    · clear hi
      refine step_of rfl rfl rfl ?_
      intro u G w hf S
      simp only [resOf, spec, RSpec.resAt, z0, z1, z2, z3, z4, z5, z6, z7, ptrBlk] at S ⊢
      simp only [does]
      go_simp
      try first | exact S | exact ⟨vv, S⟩ | exact vv
    · clear hi
      refine step_of rfl rfl rfl ?_
      intro u G w hf S
      have f3 : u 3 = .pointer (some ⟨g1, 1, none⟩) := hf 3 (by simp)
      simp only [resOf, spec, RSpec.resAt, z0, z1, z2, z3, z4, z5, z6, z7, ptrBlk] at S ⊢
      simp only [f3]
      refine does_loadP S 36 (.tmp 7) _ _ rfl _ _ _ pk 36 _ (by (first | exact cellsH_st .. | exact rqL_tok .. | exact rcdL_link .. | exact rpL_tok .. | assumption | rfl)) (by first | rfl | (first | rfl | assumption | (exact Hid.out (by assumption)) | (exact rqL_size _) | (exact tokL_size _) | (rw [arr8_size]; first | rfl | assumption | (exact Hid.out (by assumption)) | exact rqL_size _ | exact tokL_size _ | exact List.length_replicate ..) | (simp [arr8_size]; done))) _ Try.underlying36 rfl (by kernel_rfl) ?_; exact ⟨rfl, S⟩
    · clear hi
      refine step_of rfl rfl rfl ?_
      intro u G w hf S
      have f3 : u 3 = .pointer (some ⟨g1, 1, none⟩) := hf 3 (by simp)
      have f4 : u 4 = .agg (tokL t).toArray := hf 4 (by simp)
      simp only [resOf, spec, RSpec.resAt, z0, z1, z2, z3, z4, z5, z6, z7, ptrBlk] at S ⊢
      simp only [f3, f4]
      refine does_fn (args := [(.agg (tokL t).toArray)]) Try.func52 (by kernel_rfl) (by kernel_rfl) (P1.out w) rfl ?_
      rintro e w1 ⟨y, rfl, T⟩
      exact ⟨_, rfl, ⟨_, rfl⟩, S.call T⟩
    · clear hi
      refine step_of rfl rfl rfl ?_
      intro u G w hf S
      have f0 : u 0 = .pointer (some ⟨g1, 0, none⟩) := hf 0 (by simp)
      have f1 : u 1 = by8 k := hf 1 (by simp)
      have f3 : u 3 = .pointer (some ⟨g1, 1, none⟩) := hf 3 (by simp)
      have f4 : u 4 = .agg (tokL t).toArray := hf 4 (by simp)
      have f5 : ∃ y, u 5 = y := hf 5 (by simp)
      obtain ⟨y9, f5⟩ := f5
      simp only [resOf, spec, RSpec.resAt, z0, z1, z2, z3, z4, z5, z6, z7, ptrBlk] at S ⊢
      simp only [f0, f1, f3, f4, f5] at S ⊢
      try simp only [ptrBlk] at S
      refine does_append8 (.tmp 6) (.tmp 9) (u 2) [k] rfl (S.pick (r := row8 (u 2) [k]) pk) y9 T46 rfl (S.bs (v := y9) (xs := T46) pk) H1.out ?_; intro v' w' S; exact ⟨trivial, S.drop (Pick.tail (Pick.head _ _))⟩
    · clear hi
      refine step_of rfl rfl rfl ?_
      intro u G w hf S
      have f0 : u 0 = .pointer (some ⟨g1, 0, none⟩) := hf 0 (by simp)
      have f1 : u 1 = by8 k := hf 1 (by simp)
      have f3 : u 3 = .pointer (some ⟨g1, 1, none⟩) := hf 3 (by simp)
      have f4 : u 4 = .agg (tokL t).toArray := hf 4 (by simp)
      have f5 : ∃ y, u 5 = y := hf 5 (by simp)
      obtain ⟨y9, f5⟩ := f5
      have m6 : mask [0, 1, 2, 3, 4, 5, 6] u 6 = u 6 := rfl
      simp only [resOf, spec, RSpec.resAt, List.getD_cons_zero, List.getD_cons_succ, List.flatMap_cons, List.flatMap_nil, List.nil_append, List.cons_append, List.append_nil, List.append_assoc, m6, ptrBlk] at S ⊢
      simp only [m6, f0, f1, f3, f4, f5]
      simp only [does]
      go_simp
      try first | exact S | exact ⟨vv, S⟩ | exact vv
  case fin1 =>
    intro u w hf S
    have f0 : u 0 = .pointer (some ⟨g1, 0, none⟩) := hf 0 (by simp)
    have f1 : u 1 = by8 k := hf 1 (by simp)
    have f3 : u 3 = .pointer (some ⟨g1, 1, none⟩) := hf 3 (by simp)
    have f4 : u 4 = .agg (tokL t).toArray := hf 4 (by simp)
    have f5 : ∃ y, u 5 = y := hf 5 (by simp)
    obtain ⟨y9, f5⟩ := f5
    have f7 : u 7 = u 6 := hf 7 (by simp)
    have m7_6 : mask [0, 1, 2, 3, 4, 5, 6] u 6 = u 6 := rfl
    simp only [resOf, spec, RSpec.resAt, List.getD_cons_zero, List.getD_cons_succ, List.flatMap_cons, List.flatMap_nil, List.nil_append, List.cons_append, List.append_nil, List.append_assoc, m7_6, ptrBlk] at S
    clear hf
    simp only [List.length_cons, List.length_nil, Nat.zero_add, Nat.reduceAdd, List.drop_succ_cons, List.drop_zero, f0, f1, f3, f4, f5, f7]
    try simp only [f0, f1, f3, f4, f5, f7, ptrBlk] at S
    clear f0 f1 f3 f4 f5 f7 m7_6
    generalize u 2 = v6 at S ⊢
    generalize u 6 = v10 at S ⊢
    rcases kcase k with rfl | rfl | rfl | rfl | rfl | rfl | ⟨h1, h2, h3, h4, h5, h6⟩
    · have p4 := fun v w h => refFramed_s v (([1] ++ T46) ++ [p, d]) w h (by simp [hl])
      have h2 : ([1] ++ T46).length + [p, d].length ≤ 140737488355328 := by simp [hl]
      have hB : [1] ++ T46 ++ rqB ⟨1, t, p, d, n⟩ = ([1] ++ T46) ++ [p, d] := rfl
      obtain ⟨Y0, hY0⟩ : ∃ Y0, Y0 = [1] ++ T46 ++ rqB ⟨1, t, p, d, n⟩ := ⟨_, rfl⟩
      rw [← hY0] at hB
      replace S : Has w0 w [row8 v10 ([1] ++ T46), blk g1 (.cells (rqL ⟨1, t, p, d, n⟩).toArray 38 (0, 0))] := S
      obtain ⟨X, hX⟩ : ∃ X, X = [(1 : UInt8)] ++ T46 := ⟨_, rfl⟩
      rw [← hX] at p4 h2 S hB
      have P4 := Lib.hid p4; have H2 := Lib.hid h2; have HB := Lib.hid hB; have HY0 := Lib.hid hY0; clear p4 h2 hB hY0
      clear hX hl2
      go_wp2_with (first | ((with_reducible show wpList _ _ _ (⟨some 20, .buildSlice 22 _ _, _, _, _, _⟩ :: _) _ _); refine step_build82 S (.tmp 17) (.tmp 19) p d rfl rfl gw ?_; clear S; intro v20 w S) | (at_builtin; refine step_append8 S (.tmp 15) (.tmp 20) v10 X rfl pk v20 [p, d] rfl (S.bs (v := v20) (xs := [p, d]) pk) H2.out gw ?_; clear S; intro v21 w S) | ((with_reducible show wpList _ _ _ (⟨some 1, .box 38 (.tmp 0), _, _, _, _⟩ :: _) _ _); refine step_boxA (dst := some 1) S 38 (.tmp 0) _ rfl rfl ?_; clear S; intro g1 w S) | ((with_reducible show wpList _ _ _ (⟨_, .load 5 _, _, _, _, _⟩ :: _) _ _); first | (refine step_load1 5 _ _ _ rfl (S.cell pk co) _ Try.underlying5 rfl rfl ?_) | (refine step_load1 5 _ _ _ rfl (S.row_cell pk _ _ hyr) _ Try.underlying5 rfl rfl ?_) | (refine step_load1 5 _ _ _ rfl (S.row_cellS pk _ _ hy) _ Try.underlying5 rfl rfl ?_) | (refine step_load1 5 _ _ _ rfl (S.old_cell hy) _ Try.underlying5 rfl rfl ?_)) | ((with_reducible show wpList _ _ _ (⟨some 6, .buildSlice 22 _ _, _, _, _, _⟩ :: _) _ _); refine step_build81 S (.tmp 5) _ rfl rfl ?_; clear S; intro v6 w S) | ((with_reducible show wpList _ _ _ (⟨_, .load 36 _, _, _, _, _⟩ :: _) _ _); first | (refine step_loadR 36 _ _ _ rfl _ (S.old_range hy) _ Try.underlying36 rfl 36 (by kernel_rfl) (by first | rfl | (first | rfl | assumption | (exact Hid.out (by assumption)) | (exact rqL_size _) | (exact tokL_size _) | (rw [arr8_size]; first | rfl | assumption | (exact Hid.out (by assumption)) | exact rqL_size _ | exact tokL_size _ | exact List.length_replicate ..) | (simp [arr8_size]; done))) _ rfl rfl ?_) | (refine step_loadP S 36 _ _ _ rfl _ _ _ pk 36 _ (by (first | exact cellsH_st .. | exact rqL_tok .. | exact rcdL_link .. | exact rpL_tok .. | assumption | rfl)) (by first | rfl | (first | rfl | assumption | (exact Hid.out (by assumption)) | (exact rqL_size _) | (exact tokL_size _) | (rw [arr8_size]; first | rfl | assumption | (exact Hid.out (by assumption)) | exact rqL_size _ | exact tokL_size _ | exact List.length_replicate ..) | (simp [arr8_size]; done))) _ Try.underlying36 rfl (by kernel_rfl) rfl ?_)) | (at_builtin; refine step_append8 S (.tmp 6) (.tmp 9) _ _ rfl pk _ _ rfl (by first | assumption | exact S.oldB (Hid.out (by assumption)) | exact Bs.mk0 _ _ | exact S.bs pk | exact S.bsr pk) (by (first | omega | assumption | (exact Hid.out (by assumption)) | (simp only [List.length_append, List.length_cons, List.length_nil]; omega))) rfl ?_; clear S; intro v10 w S; (try simp only [List.nil_append] at S)) | ((with_reducible show wpList _ _ _ (⟨_, .load 33 _, _, _, _, _⟩ :: _) _ _); first | (refine step_load1 33 _ _ _ rfl (S.cell pk co) _ Try.underlying33 rfl rfl ?_) | (refine step_load1 33 _ _ _ rfl (S.row_cell pk _ _ hyr) _ Try.underlying33 rfl rfl ?_) | (refine step_load1 33 _ _ _ rfl (S.row_cellS pk _ _ hy) _ Try.underlying33 rfl rfl ?_) | (refine step_load1 33 _ _ _ rfl (S.old_cell hy) _ Try.underlying33 rfl rfl ?_)) | (at_builtin; refine step_append8 S (.tmp 25) (.tmp 29) _ _ rfl pk _ _ rfl (by first | assumption | exact S.oldB (Hid.out (by assumption)) | exact Bs.mk0 _ _ | exact S.bs pk | exact S.bsr pk) (by (first | omega | assumption | (exact Hid.out (by assumption)) | (simp only [List.length_append, List.length_cons, List.length_nil]; omega))) rfl ?_; clear S; intro v30 w S; (try simp only [List.nil_append] at S)) | (at_builtin; refine step_append8 S (.tmp 34) (.tmp 38) _ _ rfl pk _ _ rfl (by first | assumption | exact S.oldB (Hid.out (by assumption)) | exact Bs.mk0 _ _ | exact S.bs pk | exact S.bsr pk) (by (first | omega | assumption | (exact Hid.out (by assumption)) | (simp only [List.length_append, List.length_cons, List.length_nil]; omega))) rfl ?_; clear S; intro v39 w S; (try simp only [List.nil_append] at S)) | (go_at_call 54; (with_reducible refine (P4.out _ _ (by first | assumption | exact S.oldB (Hid.out (by assumption)) | exact Bs.mk0 _ _ | exact S.bs pk | exact S.bsr pk)).mono ?_); rintro e w1 ⟨v41, rfl, T⟩; replace S := S.call T; clear T; (try simp only [List.nil_append, List.cons_append] at S)) | fail)
      go_ret
      rw [← HB.out, HY0.out] at S
      exact ⟨_, rfl, S.sub (by repeat (first | exact Sub.nil _ | refine Sub.cons pk ?_))⟩
    · have hn := n.toNat_lt
      have p3 := fun w => number_s n.toNat 2 (n.toNat : Int) 2 rfl rfl w (by omega) (by decide)
      have hnl := numB_length n.toNat 2
      have hB : [2] ++ T46 ++ rqB ⟨2, t, p, d, n⟩ = ([2] ++ T46) ++ numB n.toNat 2 := rfl
      obtain ⟨N, hN⟩ : ∃ N, N = numB n.toNat 2 := ⟨_, rfl⟩
      rw [← hN] at p3 hnl hB
      have p4 := fun v w h => refFramed_s v (([2] ++ T46) ++ N) w h (by simp [hl, hnl])
      have h2 : ([2] ++ T46).length + N.length ≤ 140737488355328 := by simp [hl, hnl]
      obtain ⟨Y0, hY0⟩ : ∃ Y0, Y0 = [2] ++ T46 ++ rqB ⟨2, t, p, d, n⟩ := ⟨_, rfl⟩
      rw [← hY0] at hB
      replace S : Has w0 w [row8 v10 ([2] ++ T46), blk g1 (.cells (rqL ⟨2, t, p, d, n⟩).toArray 38 (0, 0))] := S
      obtain ⟨X, hX⟩ : ∃ X, X = [(2 : UInt8)] ++ T46 := ⟨_, rfl⟩
      rw [← hX] at p4 h2 S hB
      have P3 := Lib.hid p3; have P4 := Lib.hid p4; have H2 := Lib.hid h2; have HB := Lib.hid hB; have HY0 := Lib.hid hY0; clear p3 p4 h2 hB hY0
      clear hX hl2 hN hnl
      go_wp2_with (first | (at_builtin; refine step_append8 S (.tmp 25) (.tmp 29) v10 X rfl pk v29 N rfl (S.bs (v := v29) (xs := N) pk) H2.out gw ?_; clear S; intro v30 w S) | ((with_reducible show wpList _ _ _ (⟨some 1, .box 38 (.tmp 0), _, _, _, _⟩ :: _) _ _); refine step_boxA (dst := some 1) S 38 (.tmp 0) _ rfl rfl ?_; clear S; intro g1 w S) | ((with_reducible show wpList _ _ _ (⟨_, .load 5 _, _, _, _, _⟩ :: _) _ _); first | (refine step_load1 5 _ _ _ rfl (S.cell pk co) _ Try.underlying5 rfl rfl ?_) | (refine step_load1 5 _ _ _ rfl (S.row_cell pk _ _ hyr) _ Try.underlying5 rfl rfl ?_) | (refine step_load1 5 _ _ _ rfl (S.row_cellS pk _ _ hy) _ Try.underlying5 rfl rfl ?_) | (refine step_load1 5 _ _ _ rfl (S.old_cell hy) _ Try.underlying5 rfl rfl ?_)) | ((with_reducible show wpList _ _ _ (⟨some 6, .buildSlice 22 _ _, _, _, _, _⟩ :: _) _ _); refine step_build81 S (.tmp 5) _ rfl rfl ?_; clear S; intro v6 w S) | ((with_reducible show wpList _ _ _ (⟨_, .load 36 _, _, _, _, _⟩ :: _) _ _); first | (refine step_loadR 36 _ _ _ rfl _ (S.old_range hy) _ Try.underlying36 rfl 36 (by kernel_rfl) (by first | rfl | (first | rfl | assumption | (exact Hid.out (by assumption)) | (exact rqL_size _) | (exact tokL_size _) | (rw [arr8_size]; first | rfl | assumption | (exact Hid.out (by assumption)) | exact rqL_size _ | exact tokL_size _ | exact List.length_replicate ..) | (simp [arr8_size]; done))) _ rfl rfl ?_) | (refine step_loadP S 36 _ _ _ rfl _ _ _ pk 36 _ (by (first | exact cellsH_st .. | exact rqL_tok .. | exact rcdL_link .. | exact rpL_tok .. | assumption | rfl)) (by first | rfl | (first | rfl | assumption | (exact Hid.out (by assumption)) | (exact rqL_size _) | (exact tokL_size _) | (rw [arr8_size]; first | rfl | assumption | (exact Hid.out (by assumption)) | exact rqL_size _ | exact tokL_size _ | exact List.length_replicate ..) | (simp [arr8_size]; done))) _ Try.underlying36 rfl (by kernel_rfl) rfl ?_)) | (at_builtin; refine step_append8 S (.tmp 6) (.tmp 9) _ _ rfl pk _ _ rfl (by first | assumption | exact S.oldB (Hid.out (by assumption)) | exact Bs.mk0 _ _ | exact S.bs pk | exact S.bsr pk) (by (first | omega | assumption | (exact Hid.out (by assumption)) | (simp only [List.length_append, List.length_cons, List.length_nil]; omega))) rfl ?_; clear S; intro v10 w S; (try simp only [List.nil_append] at S)) | ((with_reducible show wpList _ _ _ (⟨some 20, .buildSlice 22 _ _, _, _, _, _⟩ :: _) _ _); refine step_build8 S 2 _ [_, _] (by first | rfl | kernel_rfl) rfl (by decide) rfl ?_; clear S; intro v20 w S) | (at_builtin; refine step_append8 S (.tmp 15) (.tmp 20) _ _ rfl pk _ _ rfl (by first | assumption | exact S.oldB (Hid.out (by assumption)) | exact Bs.mk0 _ _ | exact S.bs pk | exact S.bsr pk) (by (first | omega | assumption | (exact Hid.out (by assumption)) | (simp only [List.length_append, List.length_cons, List.length_nil]; omega))) rfl ?_; clear S; intro v21 w S; (try simp only [List.nil_append] at S)) | ((with_reducible show wpList _ _ _ (⟨_, .load 33 _, _, _, _, _⟩ :: _) _ _); first | (refine step_load1 33 _ _ _ rfl (S.cell pk co) _ Try.underlying33 rfl rfl ?_) | (refine step_load1 33 _ _ _ rfl (S.row_cell pk _ _ hyr) _ Try.underlying33 rfl rfl ?_) | (refine step_load1 33 _ _ _ rfl (S.row_cellS pk _ _ hy) _ Try.underlying33 rfl rfl ?_) | (refine step_load1 33 _ _ _ rfl (S.old_cell hy) _ Try.underlying33 rfl rfl ?_)) | (go_at_call 53; (with_reducible refine (P3.out _).mono ?_); rintro e w1 ⟨v29, rfl, T⟩; replace S := S.call T; clear T; (try simp only [List.nil_append, List.cons_append] at S)) | (at_builtin; refine step_append8 S (.tmp 34) (.tmp 38) _ _ rfl pk _ _ rfl (by first | assumption | exact S.oldB (Hid.out (by assumption)) | exact Bs.mk0 _ _ | exact S.bs pk | exact S.bsr pk) (by (first | omega | assumption | (exact Hid.out (by assumption)) | (simp only [List.length_append, List.length_cons, List.length_nil]; omega))) rfl ?_; clear S; intro v39 w S; (try simp only [List.nil_append] at S)) | (go_at_call 54; (with_reducible refine (P4.out _ _ (by first | assumption | exact S.oldB (Hid.out (by assumption)) | exact Bs.mk0 _ _ | exact S.bs pk | exact S.bsr pk)).mono ?_); rintro e w1 ⟨v41, rfl, T⟩; replace S := S.call T; clear T; (try simp only [List.nil_append, List.cons_append] at S)) | fail)
      go_ret
      rw [← HB.out, HY0.out] at S
      exact ⟨_, rfl, S.sub (by repeat (first | exact Sub.nil _ | refine Sub.cons pk ?_))⟩
    · have hn := n.toNat_lt
      have p3 := fun w => number_s n.toNat 2 (n.toNat : Int) 2 rfl rfl w (by omega) (by decide)
      have hnl := numB_length n.toNat 2
      have hB : [3] ++ T46 ++ rqB ⟨3, t, p, d, n⟩ = ([3] ++ T46) ++ numB n.toNat 2 := rfl
      obtain ⟨N, hN⟩ : ∃ N, N = numB n.toNat 2 := ⟨_, rfl⟩
      rw [← hN] at p3 hnl hB
      have p4 := fun v w h => refFramed_s v (([3] ++ T46) ++ N) w h (by simp [hl, hnl])
      have h2 : ([3] ++ T46).length + N.length ≤ 140737488355328 := by simp [hl, hnl]
      obtain ⟨Y0, hY0⟩ : ∃ Y0, Y0 = [3] ++ T46 ++ rqB ⟨3, t, p, d, n⟩ := ⟨_, rfl⟩
      rw [← hY0] at hB
      replace S : Has w0 w [row8 v10 ([3] ++ T46), blk g1 (.cells (rqL ⟨3, t, p, d, n⟩).toArray 38 (0, 0))] := S
      obtain ⟨X, hX⟩ : ∃ X, X = [(3 : UInt8)] ++ T46 := ⟨_, rfl⟩
      rw [← hX] at p4 h2 S hB
      have P3 := Lib.hid p3; have P4 := Lib.hid p4; have H2 := Lib.hid h2; have HB := Lib.hid hB; have HY0 := Lib.hid hY0; clear p3 p4 h2 hB hY0
      clear hX hl2 hN hnl
      go_wp2_with (first | (at_builtin; refine step_append8 S (.tmp 25) (.tmp 29) v10 X rfl pk v29 N rfl (S.bs (v := v29) (xs := N) pk) H2.out gw ?_; clear S; intro v30 w S) | ((with_reducible show wpList _ _ _ (⟨some 1, .box 38 (.tmp 0), _, _, _, _⟩ :: _) _ _); refine step_boxA (dst := some 1) S 38 (.tmp 0) _ rfl rfl ?_; clear S; intro g1 w S) | ((with_reducible show wpList _ _ _ (⟨_, .load 5 _, _, _, _, _⟩ :: _) _ _); first | (refine step_load1 5 _ _ _ rfl (S.cell pk co) _ Try.underlying5 rfl rfl ?_) | (refine step_load1 5 _ _ _ rfl (S.row_cell pk _ _ hyr) _ Try.underlying5 rfl rfl ?_) | (refine step_load1 5 _ _ _ rfl (S.row_cellS pk _ _ hy) _ Try.underlying5 rfl rfl ?_) | (refine step_load1 5 _ _ _ rfl (S.old_cell hy) _ Try.underlying5 rfl rfl ?_)) | ((with_reducible show wpList _ _ _ (⟨some 6, .buildSlice 22 _ _, _, _, _, _⟩ :: _) _ _); refine step_build81 S (.tmp 5) _ rfl rfl ?_; clear S; intro v6 w S) | ((with_reducible show wpList _ _ _ (⟨_, .load 36 _, _, _, _, _⟩ :: _) _ _); first | (refine step_loadR 36 _ _ _ rfl _ (S.old_range hy) _ Try.underlying36 rfl 36 (by kernel_rfl) (by first | rfl | (first | rfl | assumption | (exact Hid.out (by assumption)) | (exact rqL_size _) | (exact tokL_size _) | (rw [arr8_size]; first | rfl | assumption | (exact Hid.out (by assumption)) | exact rqL_size _ | exact tokL_size _ | exact List.length_replicate ..) | (simp [arr8_size]; done))) _ rfl rfl ?_) | (refine step_loadP S 36 _ _ _ rfl _ _ _ pk 36 _ (by (first | exact cellsH_st .. | exact rqL_tok .. | exact rcdL_link .. | exact rpL_tok .. | assumption | rfl)) (by first | rfl | (first | rfl | assumption | (exact Hid.out (by assumption)) | (exact rqL_size _) | (exact tokL_size _) | (rw [arr8_size]; first | rfl | assumption | (exact Hid.out (by assumption)) | exact rqL_size _ | exact tokL_size _ | exact List.length_replicate ..) | (simp [arr8_size]; done))) _ Try.underlying36 rfl (by kernel_rfl) rfl ?_)) | (at_builtin; refine step_append8 S (.tmp 6) (.tmp 9) _ _ rfl pk _ _ rfl (by first | assumption | exact S.oldB (Hid.out (by assumption)) | exact Bs.mk0 _ _ | exact S.bs pk | exact S.bsr pk) (by (first | omega | assumption | (exact Hid.out (by assumption)) | (simp only [List.length_append, List.length_cons, List.length_nil]; omega))) rfl ?_; clear S; intro v10 w S; (try simp only [List.nil_append] at S)) | ((with_reducible show wpList _ _ _ (⟨some 20, .buildSlice 22 _ _, _, _, _, _⟩ :: _) _ _); refine step_build8 S 2 _ [_, _] (by first | rfl | kernel_rfl) rfl (by decide) rfl ?_; clear S; intro v20 w S) | (at_builtin; refine step_append8 S (.tmp 15) (.tmp 20) _ _ rfl pk _ _ rfl (by first | assumption | exact S.oldB (Hid.out (by assumption)) | exact Bs.mk0 _ _ | exact S.bs pk | exact S.bsr pk) (by (first | omega | assumption | (exact Hid.out (by assumption)) | (simp only [List.length_append, List.length_cons, List.length_nil]; omega))) rfl ?_; clear S; intro v21 w S; (try simp only [List.nil_append] at S)) | ((with_reducible show wpList _ _ _ (⟨_, .load 33 _, _, _, _, _⟩ :: _) _ _); first | (refine step_load1 33 _ _ _ rfl (S.cell pk co) _ Try.underlying33 rfl rfl ?_) | (refine step_load1 33 _ _ _ rfl (S.row_cell pk _ _ hyr) _ Try.underlying33 rfl rfl ?_) | (refine step_load1 33 _ _ _ rfl (S.row_cellS pk _ _ hy) _ Try.underlying33 rfl rfl ?_) | (refine step_load1 33 _ _ _ rfl (S.old_cell hy) _ Try.underlying33 rfl rfl ?_)) | (go_at_call 53; (with_reducible refine (P3.out _).mono ?_); rintro e w1 ⟨v29, rfl, T⟩; replace S := S.call T; clear T; (try simp only [List.nil_append, List.cons_append] at S)) | (at_builtin; refine step_append8 S (.tmp 34) (.tmp 38) _ _ rfl pk _ _ rfl (by first | assumption | exact S.oldB (Hid.out (by assumption)) | exact Bs.mk0 _ _ | exact S.bs pk | exact S.bsr pk) (by (first | omega | assumption | (exact Hid.out (by assumption)) | (simp only [List.length_append, List.length_cons, List.length_nil]; omega))) rfl ?_; clear S; intro v39 w S; (try simp only [List.nil_append] at S)) | (go_at_call 54; (with_reducible refine (P4.out _ _ (by first | assumption | exact S.oldB (Hid.out (by assumption)) | exact Bs.mk0 _ _ | exact S.bs pk | exact S.bsr pk)).mono ?_); rintro e w1 ⟨v41, rfl, T⟩; replace S := S.call T; clear T; (try simp only [List.nil_append, List.cons_append] at S)) | fail)
      go_ret
      rw [← HB.out, HY0.out] at S
      exact ⟨_, rfl, S.sub (by repeat (first | exact Sub.nil _ | refine Sub.cons pk ?_))⟩
    · have p4 := fun v w h => refFramed_s v ([4] ++ T46) w h (by simp [hl])
      have hB : [4] ++ T46 ++ rqB ⟨4, t, p, d, n⟩ = [4] ++ T46 := by show [4] ++ T46 ++ [] = _; rw [List.append_nil]
      obtain ⟨Y0, hY0⟩ : ∃ Y0, Y0 = [4] ++ T46 ++ rqB ⟨4, t, p, d, n⟩ := ⟨_, rfl⟩
      rw [← hY0] at hB
      replace S : Has w0 w [row8 v10 ([4] ++ T46), blk g1 (.cells (rqL ⟨4, t, p, d, n⟩).toArray 38 (0, 0))] := S
      obtain ⟨X, hX⟩ : ∃ X, X = [(4 : UInt8)] ++ T46 := ⟨_, rfl⟩
      rw [← hX] at p4 S hB
      have P4 := Lib.hid p4; have HB := Lib.hid hB; have HY0 := Lib.hid hY0; clear p4 hB hY0
      clear hX hl2
      go_wp2_with (first | ((with_reducible show wpList _ _ _ (⟨some 1, .box 38 (.tmp 0), _, _, _, _⟩ :: _) _ _); refine step_boxA (dst := some 1) S 38 (.tmp 0) _ rfl rfl ?_; clear S; intro g1 w S) | ((with_reducible show wpList _ _ _ (⟨_, .load 5 _, _, _, _, _⟩ :: _) _ _); first | (refine step_load1 5 _ _ _ rfl (S.cell pk co) _ Try.underlying5 rfl rfl ?_) | (refine step_load1 5 _ _ _ rfl (S.row_cell pk _ _ hyr) _ Try.underlying5 rfl rfl ?_) | (refine step_load1 5 _ _ _ rfl (S.row_cellS pk _ _ hy) _ Try.underlying5 rfl rfl ?_) | (refine step_load1 5 _ _ _ rfl (S.old_cell hy) _ Try.underlying5 rfl rfl ?_)) | ((with_reducible show wpList _ _ _ (⟨some 6, .buildSlice 22 _ _, _, _, _, _⟩ :: _) _ _); refine step_build81 S (.tmp 5) _ rfl rfl ?_; clear S; intro v6 w S) | ((with_reducible show wpList _ _ _ (⟨_, .load 36 _, _, _, _, _⟩ :: _) _ _); first | (refine step_loadR 36 _ _ _ rfl _ (S.old_range hy) _ Try.underlying36 rfl 36 (by kernel_rfl) (by first | rfl | (first | rfl | assumption | (exact Hid.out (by assumption)) | (exact rqL_size _) | (exact tokL_size _) | (rw [arr8_size]; first | rfl | assumption | (exact Hid.out (by assumption)) | exact rqL_size _ | exact tokL_size _ | exact List.length_replicate ..) | (simp [arr8_size]; done))) _ rfl rfl ?_) | (refine step_loadP S 36 _ _ _ rfl _ _ _ pk 36 _ (by (first | exact cellsH_st .. | exact rqL_tok .. | exact rcdL_link .. | exact rpL_tok .. | assumption | rfl)) (by first | rfl | (first | rfl | assumption | (exact Hid.out (by assumption)) | (exact rqL_size _) | (exact tokL_size _) | (rw [arr8_size]; first | rfl | assumption | (exact Hid.out (by assumption)) | exact rqL_size _ | exact tokL_size _ | exact List.length_replicate ..) | (simp [arr8_size]; done))) _ Try.underlying36 rfl (by kernel_rfl) rfl ?_)) | (at_builtin; refine step_append8 S (.tmp 6) (.tmp 9) _ _ rfl pk _ _ rfl (by first | assumption | exact S.oldB (Hid.out (by assumption)) | exact Bs.mk0 _ _ | exact S.bs pk | exact S.bsr pk) (by (first | omega | assumption | (exact Hid.out (by assumption)) | (simp only [List.length_append, List.length_cons, List.length_nil]; omega))) rfl ?_; clear S; intro v10 w S; (try simp only [List.nil_append] at S)) | ((with_reducible show wpList _ _ _ (⟨some 20, .buildSlice 22 _ _, _, _, _, _⟩ :: _) _ _); refine step_build8 S 2 _ [_, _] (by first | rfl | kernel_rfl) rfl (by decide) rfl ?_; clear S; intro v20 w S) | (at_builtin; refine step_append8 S (.tmp 15) (.tmp 20) _ _ rfl pk _ _ rfl (by first | assumption | exact S.oldB (Hid.out (by assumption)) | exact Bs.mk0 _ _ | exact S.bs pk | exact S.bsr pk) (by (first | omega | assumption | (exact Hid.out (by assumption)) | (simp only [List.length_append, List.length_cons, List.length_nil]; omega))) rfl ?_; clear S; intro v21 w S; (try simp only [List.nil_append] at S)) | ((with_reducible show wpList _ _ _ (⟨_, .load 33 _, _, _, _, _⟩ :: _) _ _); first | (refine step_load1 33 _ _ _ rfl (S.cell pk co) _ Try.underlying33 rfl rfl ?_) | (refine step_load1 33 _ _ _ rfl (S.row_cell pk _ _ hyr) _ Try.underlying33 rfl rfl ?_) | (refine step_load1 33 _ _ _ rfl (S.row_cellS pk _ _ hy) _ Try.underlying33 rfl rfl ?_) | (refine step_load1 33 _ _ _ rfl (S.old_cell hy) _ Try.underlying33 rfl rfl ?_)) | (at_builtin; refine step_append8 S (.tmp 25) (.tmp 29) _ _ rfl pk _ _ rfl (by first | assumption | exact S.oldB (Hid.out (by assumption)) | exact Bs.mk0 _ _ | exact S.bs pk | exact S.bsr pk) (by (first | omega | assumption | (exact Hid.out (by assumption)) | (simp only [List.length_append, List.length_cons, List.length_nil]; omega))) rfl ?_; clear S; intro v30 w S; (try simp only [List.nil_append] at S)) | (at_builtin; refine step_append8 S (.tmp 34) (.tmp 38) _ _ rfl pk _ _ rfl (by first | assumption | exact S.oldB (Hid.out (by assumption)) | exact Bs.mk0 _ _ | exact S.bs pk | exact S.bsr pk) (by (first | omega | assumption | (exact Hid.out (by assumption)) | (simp only [List.length_append, List.length_cons, List.length_nil]; omega))) rfl ?_; clear S; intro v39 w S; (try simp only [List.nil_append] at S)) | (go_at_call 54; (with_reducible refine (P4.out _ _ (by first | assumption | exact S.oldB (Hid.out (by assumption)) | exact Bs.mk0 _ _ | exact S.bs pk | exact S.bsr pk)).mono ?_); rintro e w1 ⟨v41, rfl, T⟩; replace S := S.call T; clear T; (try simp only [List.nil_append, List.cons_append] at S)) | fail)
      go_ret
      rw [← HB.out, HY0.out] at S
      exact ⟨_, rfl, S.sub (by repeat (first | exact Sub.nil _ | refine Sub.cons pk ?_))⟩
    · have hn := n.toNat_lt
      have p3 := fun w => number_s n.toNat 4 (n.toNat : Int) 4 rfl rfl w (by omega) (by decide)
      have hnl := numB_length n.toNat 4
      have hB : [5] ++ T46 ++ rqB ⟨5, t, p, d, n⟩ = ([5] ++ T46) ++ numB n.toNat 4 := rfl
      obtain ⟨N, hN⟩ : ∃ N, N = numB n.toNat 4 := ⟨_, rfl⟩
      rw [← hN] at p3 hnl hB
      have p4 := fun v w h => refFramed_s v (([5] ++ T46) ++ N) w h (by simp [hl, hnl])
      have h2 : ([5] ++ T46).length + N.length ≤ 140737488355328 := by simp [hl, hnl]
      obtain ⟨Y0, hY0⟩ : ∃ Y0, Y0 = [5] ++ T46 ++ rqB ⟨5, t, p, d, n⟩ := ⟨_, rfl⟩
      rw [← hY0] at hB
      replace S : Has w0 w [row8 v10 ([5] ++ T46), blk g1 (.cells (rqL ⟨5, t, p, d, n⟩).toArray 38 (0, 0))] := S
      obtain ⟨X, hX⟩ : ∃ X, X = [(5 : UInt8)] ++ T46 := ⟨_, rfl⟩
      rw [← hX] at p4 h2 S hB
      have P3 := Lib.hid p3; have P4 := Lib.hid p4; have H2 := Lib.hid h2; have HB := Lib.hid hB; have HY0 := Lib.hid hY0; clear p3 p4 h2 hB hY0
      clear hX hl2 hN hnl
      go_wp2_with (first | (at_builtin; refine step_append8 S (.tmp 34) (.tmp 38) v10 X rfl pk v38 N rfl (S.bs (v := v38) (xs := N) pk) H2.out gw ?_; clear S; intro v39 w S) | ((with_reducible show wpList _ _ _ (⟨some 1, .box 38 (.tmp 0), _, _, _, _⟩ :: _) _ _); refine step_boxA (dst := some 1) S 38 (.tmp 0) _ rfl rfl ?_; clear S; intro g1 w S) | ((with_reducible show wpList _ _ _ (⟨_, .load 5 _, _, _, _, _⟩ :: _) _ _); first | (refine step_load1 5 _ _ _ rfl (S.cell pk co) _ Try.underlying5 rfl rfl ?_) | (refine step_load1 5 _ _ _ rfl (S.row_cell pk _ _ hyr) _ Try.underlying5 rfl rfl ?_) | (refine step_load1 5 _ _ _ rfl (S.row_cellS pk _ _ hy) _ Try.underlying5 rfl rfl ?_) | (refine step_load1 5 _ _ _ rfl (S.old_cell hy) _ Try.underlying5 rfl rfl ?_)) | ((with_reducible show wpList _ _ _ (⟨some 6, .buildSlice 22 _ _, _, _, _, _⟩ :: _) _ _); refine step_build81 S (.tmp 5) _ rfl rfl ?_; clear S; intro v6 w S) | ((with_reducible show wpList _ _ _ (⟨_, .load 36 _, _, _, _, _⟩ :: _) _ _); first | (refine step_loadR 36 _ _ _ rfl _ (S.old_range hy) _ Try.underlying36 rfl 36 (by kernel_rfl) (by first | rfl | (first | rfl | assumption | (exact Hid.out (by assumption)) | (exact rqL_size _) | (exact tokL_size _) | (rw [arr8_size]; first | rfl | assumption | (exact Hid.out (by assumption)) | exact rqL_size _ | exact tokL_size _ | exact List.length_replicate ..) | (simp [arr8_size]; done))) _ rfl rfl ?_) | (refine step_loadP S 36 _ _ _ rfl _ _ _ pk 36 _ (by (first | exact cellsH_st .. | exact rqL_tok .. | exact rcdL_link .. | exact rpL_tok .. | assumption | rfl)) (by first | rfl | (first | rfl | assumption | (exact Hid.out (by assumption)) | (exact rqL_size _) | (exact tokL_size _) | (rw [arr8_size]; first | rfl | assumption | (exact Hid.out (by assumption)) | exact rqL_size _ | exact tokL_size _ | exact List.length_replicate ..) | (simp [arr8_size]; done))) _ Try.underlying36 rfl (by kernel_rfl) rfl ?_)) | (at_builtin; refine step_append8 S (.tmp 6) (.tmp 9) _ _ rfl pk _ _ rfl (by first | assumption | exact S.oldB (Hid.out (by assumption)) | exact Bs.mk0 _ _ | exact S.bs pk | exact S.bsr pk) (by (first | omega | assumption | (exact Hid.out (by assumption)) | (simp only [List.length_append, List.length_cons, List.length_nil]; omega))) rfl ?_; clear S; intro v10 w S; (try simp only [List.nil_append] at S)) | ((with_reducible show wpList _ _ _ (⟨some 20, .buildSlice 22 _ _, _, _, _, _⟩ :: _) _ _); refine step_build8 S 2 _ [_, _] (by first | rfl | kernel_rfl) rfl (by decide) rfl ?_; clear S; intro v20 w S) | (at_builtin; refine step_append8 S (.tmp 15) (.tmp 20) _ _ rfl pk _ _ rfl (by first | assumption | exact S.oldB (Hid.out (by assumption)) | exact Bs.mk0 _ _ | exact S.bs pk | exact S.bsr pk) (by (first | omega | assumption | (exact Hid.out (by assumption)) | (simp only [List.length_append, List.length_cons, List.length_nil]; omega))) rfl ?_; clear S; intro v21 w S; (try simp only [List.nil_append] at S)) | ((with_reducible show wpList _ _ _ (⟨_, .load 33 _, _, _, _, _⟩ :: _) _ _); first | (refine step_load1 33 _ _ _ rfl (S.cell pk co) _ Try.underlying33 rfl rfl ?_) | (refine step_load1 33 _ _ _ rfl (S.row_cell pk _ _ hyr) _ Try.underlying33 rfl rfl ?_) | (refine step_load1 33 _ _ _ rfl (S.row_cellS pk _ _ hy) _ Try.underlying33 rfl rfl ?_) | (refine step_load1 33 _ _ _ rfl (S.old_cell hy) _ Try.underlying33 rfl rfl ?_)) | (go_at_call 53; (with_reducible refine (P3.out _).mono ?_); rintro e w1 ⟨v38, rfl, T⟩; replace S := S.call T; clear T; (try simp only [List.nil_append, List.cons_append] at S)) | (at_builtin; refine step_append8 S (.tmp 25) (.tmp 29) _ _ rfl pk _ _ rfl (by first | assumption | exact S.oldB (Hid.out (by assumption)) | exact Bs.mk0 _ _ | exact S.bs pk | exact S.bsr pk) (by (first | omega | assumption | (exact Hid.out (by assumption)) | (simp only [List.length_append, List.length_cons, List.length_nil]; omega))) rfl ?_; clear S; intro v30 w S; (try simp only [List.nil_append] at S)) | (go_at_call 54; (with_reducible refine (P4.out _ _ (by first | assumption | exact S.oldB (Hid.out (by assumption)) | exact Bs.mk0 _ _ | exact S.bs pk | exact S.bsr pk)).mono ?_); rintro e w1 ⟨v41, rfl, T⟩; replace S := S.call T; clear T; (try simp only [List.nil_append, List.cons_append] at S)) | fail)
      go_ret
      rw [← HB.out, HY0.out] at S
      exact ⟨_, rfl, S.sub (by repeat (first | exact Sub.nil _ | refine Sub.cons pk ?_))⟩
    · have hn := n.toNat_lt
      have p3 := fun w => number_s n.toNat 4 (n.toNat : Int) 4 rfl rfl w (by omega) (by decide)
      have hnl := numB_length n.toNat 4
      have hB : [6] ++ T46 ++ rqB ⟨6, t, p, d, n⟩ = ([6] ++ T46) ++ numB n.toNat 4 := rfl
      obtain ⟨N, hN⟩ : ∃ N, N = numB n.toNat 4 := ⟨_, rfl⟩
      rw [← hN] at p3 hnl hB
      have p4 := fun v w h => refFramed_s v (([6] ++ T46) ++ N) w h (by simp [hl, hnl])
      have h2 : ([6] ++ T46).length + N.length ≤ 140737488355328 := by simp [hl, hnl]
      obtain ⟨Y0, hY0⟩ : ∃ Y0, Y0 = [6] ++ T46 ++ rqB ⟨6, t, p, d, n⟩ := ⟨_, rfl⟩
      rw [← hY0] at hB
      replace S : Has w0 w [row8 v10 ([6] ++ T46), blk g1 (.cells (rqL ⟨6, t, p, d, n⟩).toArray 38 (0, 0))] := S
      obtain ⟨X, hX⟩ : ∃ X, X = [(6 : UInt8)] ++ T46 := ⟨_, rfl⟩
      rw [← hX] at p4 h2 S hB
      have P3 := Lib.hid p3; have P4 := Lib.hid p4; have H2 := Lib.hid h2; have HB := Lib.hid hB; have HY0 := Lib.hid hY0; clear p3 p4 h2 hB hY0
      clear hX hl2 hN hnl
      go_wp2_with (first | (at_builtin; refine step_append8 S (.tmp 34) (.tmp 38) v10 X rfl pk v38 N rfl (S.bs (v := v38) (xs := N) pk) H2.out gw ?_; clear S; intro v39 w S) | ((with_reducible show wpList _ _ _ (⟨some 1, .box 38 (.tmp 0), _, _, _, _⟩ :: _) _ _); refine step_boxA (dst := some 1) S 38 (.tmp 0) _ rfl rfl ?_; clear S; intro g1 w S) | ((with_reducible show wpList _ _ _ (⟨_, .load 5 _, _, _, _, _⟩ :: _) _ _); first | (refine step_load1 5 _ _ _ rfl (S.cell pk co) _ Try.underlying5 rfl rfl ?_) | (refine step_load1 5 _ _ _ rfl (S.row_cell pk _ _ hyr) _ Try.underlying5 rfl rfl ?_) | (refine step_load1 5 _ _ _ rfl (S.row_cellS pk _ _ hy) _ Try.underlying5 rfl rfl ?_) | (refine step_load1 5 _ _ _ rfl (S.old_cell hy) _ Try.underlying5 rfl rfl ?_)) | ((with_reducible show wpList _ _ _ (⟨some 6, .buildSlice 22 _ _, _, _, _, _⟩ :: _) _ _); refine step_build81 S (.tmp 5) _ rfl rfl ?_; clear S; intro v6 w S) | ((with_reducible show wpList _ _ _ (⟨_, .load 36 _, _, _, _, _⟩ :: _) _ _); first | (refine step_loadR 36 _ _ _ rfl _ (S.old_range hy) _ Try.underlying36 rfl 36 (by kernel_rfl) (by first | rfl | (first | rfl | assumption | (exact Hid.out (by assumption)) | (exact rqL_size _) | (exact tokL_size _) | (rw [arr8_size]; first | rfl | assumption | (exact Hid.out (by assumption)) | exact rqL_size _ | exact tokL_size _ | exact List.length_replicate ..) | (simp [arr8_size]; done))) _ rfl rfl ?_) | (refine step_loadP S 36 _ _ _ rfl _ _ _ pk 36 _ (by (first | exact cellsH_st .. | exact rqL_tok .. | exact rcdL_link .. | exact rpL_tok .. | assumption | rfl)) (by first | rfl | (first | rfl | assumption | (exact Hid.out (by assumption)) | (exact rqL_size _) | (exact tokL_size _) | (rw [arr8_size]; first | rfl | assumption | (exact Hid.out (by assumption)) | exact rqL_size _ | exact tokL_size _ | exact List.length_replicate ..) | (simp [arr8_size]; done))) _ Try.underlying36 rfl (by kernel_rfl) rfl ?_)) | (at_builtin; refine step_append8 S (.tmp 6) (.tmp 9) _ _ rfl pk _ _ rfl (by first | assumption | exact S.oldB (Hid.out (by assumption)) | exact Bs.mk0 _ _ | exact S.bs pk | exact S.bsr pk) (by (first | omega | assumption | (exact Hid.out (by assumption)) | (simp only [List.length_append, List.length_cons, List.length_nil]; omega))) rfl ?_; clear S; intro v10 w S; (try simp only [List.nil_append] at S)) | ((with_reducible show wpList _ _ _ (⟨some 20, .buildSlice 22 _ _, _, _, _, _⟩ :: _) _ _); refine step_build8 S 2 _ [_, _] (by first | rfl | kernel_rfl) rfl (by decide) rfl ?_; clear S; intro v20 w S) | (at_builtin; refine step_append8 S (.tmp 15) (.tmp 20) _ _ rfl pk _ _ rfl (by first | assumption | exact S.oldB (Hid.out (by assumption)) | exact Bs.mk0 _ _ | exact S.bs pk | exact S.bsr pk) (by (first | omega | assumption | (exact Hid.out (by assumption)) | (simp only [List.length_append, List.length_cons, List.length_nil]; omega))) rfl ?_; clear S; intro v21 w S; (try simp only [List.nil_append] at S)) | ((with_reducible show wpList _ _ _ (⟨_, .load 33 _, _, _, _, _⟩ :: _) _ _); first | (refine step_load1 33 _ _ _ rfl (S.cell pk co) _ Try.underlying33 rfl rfl ?_) | (refine step_load1 33 _ _ _ rfl (S.row_cell pk _ _ hyr) _ Try.underlying33 rfl rfl ?_) | (refine step_load1 33 _ _ _ rfl (S.row_cellS pk _ _ hy) _ Try.underlying33 rfl rfl ?_) | (refine step_load1 33 _ _ _ rfl (S.old_cell hy) _ Try.underlying33 rfl rfl ?_)) | (go_at_call 53; (with_reducible refine (P3.out _).mono ?_); rintro e w1 ⟨v38, rfl, T⟩; replace S := S.call T; clear T; (try simp only [List.nil_append, List.cons_append] at S)) | (at_builtin; refine step_append8 S (.tmp 25) (.tmp 29) _ _ rfl pk _ _ rfl (by first | assumption | exact S.oldB (Hid.out (by assumption)) | exact Bs.mk0 _ _ | exact S.bs pk | exact S.bsr pk) (by (first | omega | assumption | (exact Hid.out (by assumption)) | (simp only [List.length_append, List.length_cons, List.length_nil]; omega))) rfl ?_; clear S; intro v30 w S; (try simp only [List.nil_append] at S)) | (go_at_call 54; (with_reducible refine (P4.out _ _ (by first | assumption | exact S.oldB (Hid.out (by assumption)) | exact Bs.mk0 _ _ | exact S.bs pk | exact S.bsr pk)).mono ?_); rintro e w1 ⟨v41, rfl, T⟩; replace S := S.call T; clear T; (try simp only [List.nil_append, List.cons_append] at S)) | fail)
      go_ret
      rw [← HB.out, HY0.out] at S
      exact ⟨_, rfl, S.sub (by repeat (first | exact Sub.nil _ | refine Sub.cons pk ?_))⟩
    · have p4 := fun v w h => refFramed_s v ([k] ++ T46) w h (by simp [hl])
      have hB : [k] ++ T46 ++ rqB ⟨k, t, p, d, n⟩ = [k] ++ T46 := by
        have : rqB ⟨k, t, p, d, n⟩ = [] := by
          unfold rqB
          dsimp only
          rw [if_neg (by rintro rfl; exact h1 rfl), if_neg (by rintro (rfl | rfl); exact h2 rfl; exact h3 rfl), if_neg (by rintro (rfl | rfl); exact h5 rfl; exact h6 rfl)]
        rw [this, List.append_nil]
      obtain ⟨Y0, hY0⟩ : ∃ Y0, Y0 = [k] ++ T46 ++ rqB ⟨k, t, p, d, n⟩ := ⟨_, rfl⟩
      rw [← hY0] at hB
      replace S : Has w0 w [row8 v10 ([k] ++ T46), blk g1 (.cells (rqL ⟨k, t, p, d, n⟩).toArray 38 (0, 0))] := S
      obtain ⟨X, hX⟩ : ∃ X, X = [k] ++ T46 := ⟨_, rfl⟩
      rw [← hX] at p4 S hB
      have i1 : ((k.toNat : Int) == 1) = false := by rw [beq_eq_false_iff_ne]; omega
      have i2 : ((k.toNat : Int) == 2) = false := by rw [beq_eq_false_iff_ne]; omega
      have i3 : ((k.toNat : Int) == 3) = false := by rw [beq_eq_false_iff_ne]; omega
      have i5 : ((k.toNat : Int) == 5) = false := by rw [beq_eq_false_iff_ne]; omega
      have i6 : ((k.toNat : Int) == 6) = false := by rw [beq_eq_false_iff_ne]; omega
      have P4 := Lib.hid p4; have HB := Lib.hid hB; have HY0 := Lib.hid hY0; clear p4 hB hY0
      clear hX hl2 h1 h2 h3 h4 h5 h6
      go_wp2_with (first | ((with_reducible show wpList _ _ _ (⟨some 1, .box 38 (.tmp 0), _, _, _, _⟩ :: _) _ _); refine step_boxA (dst := some 1) S 38 (.tmp 0) _ rfl rfl ?_; clear S; intro g1 w S) | ((with_reducible show wpList _ _ _ (⟨_, .load 5 _, _, _, _, _⟩ :: _) _ _); first | (refine step_load1 5 _ _ _ rfl (S.cell pk co) _ Try.underlying5 rfl rfl ?_) | (refine step_load1 5 _ _ _ rfl (S.row_cell pk _ _ hyr) _ Try.underlying5 rfl rfl ?_) | (refine step_load1 5 _ _ _ rfl (S.row_cellS pk _ _ hy) _ Try.underlying5 rfl rfl ?_) | (refine step_load1 5 _ _ _ rfl (S.old_cell hy) _ Try.underlying5 rfl rfl ?_)) | ((with_reducible show wpList _ _ _ (⟨some 6, .buildSlice 22 _ _, _, _, _, _⟩ :: _) _ _); refine step_build81 S (.tmp 5) _ rfl rfl ?_; clear S; intro v6 w S) | ((with_reducible show wpList _ _ _ (⟨_, .load 36 _, _, _, _, _⟩ :: _) _ _); first | (refine step_loadR 36 _ _ _ rfl _ (S.old_range hy) _ Try.underlying36 rfl 36 (by kernel_rfl) (by first | rfl | (first | rfl | assumption | (exact Hid.out (by assumption)) | (exact rqL_size _) | (exact tokL_size _) | (rw [arr8_size]; first | rfl | assumption | (exact Hid.out (by assumption)) | exact rqL_size _ | exact tokL_size _ | exact List.length_replicate ..) | (simp [arr8_size]; done))) _ rfl rfl ?_) | (refine step_loadP S 36 _ _ _ rfl _ _ _ pk 36 _ (by (first | exact cellsH_st .. | exact rqL_tok .. | exact rcdL_link .. | exact rpL_tok .. | assumption | rfl)) (by first | rfl | (first | rfl | assumption | (exact Hid.out (by assumption)) | (exact rqL_size _) | (exact tokL_size _) | (rw [arr8_size]; first | rfl | assumption | (exact Hid.out (by assumption)) | exact rqL_size _ | exact tokL_size _ | exact List.length_replicate ..) | (simp [arr8_size]; done))) _ Try.underlying36 rfl (by kernel_rfl) rfl ?_)) | (at_builtin; refine step_append8 S (.tmp 6) (.tmp 9) _ _ rfl pk _ _ rfl (by first | assumption | exact S.oldB (Hid.out (by assumption)) | exact Bs.mk0 _ _ | exact S.bs pk | exact S.bsr pk) (by (first | omega | assumption | (exact Hid.out (by assumption)) | (simp only [List.length_append, List.length_cons, List.length_nil]; omega))) rfl ?_; clear S; intro v10 w S; (try simp only [List.nil_append] at S)) | ((with_reducible show wpList _ _ _ (⟨some 20, .buildSlice 22 _ _, _, _, _, _⟩ :: _) _ _); refine step_build8 S 2 _ [_, _] (by first | rfl | kernel_rfl) rfl (by decide) rfl ?_; clear S; intro v20 w S) | (at_builtin; refine step_append8 S (.tmp 15) (.tmp 20) _ _ rfl pk _ _ rfl (by first | assumption | exact S.oldB (Hid.out (by assumption)) | exact Bs.mk0 _ _ | exact S.bs pk | exact S.bsr pk) (by (first | omega | assumption | (exact Hid.out (by assumption)) | (simp only [List.length_append, List.length_cons, List.length_nil]; omega))) rfl ?_; clear S; intro v21 w S; (try simp only [List.nil_append] at S)) | ((with_reducible show wpList _ _ _ (⟨_, .load 33 _, _, _, _, _⟩ :: _) _ _); first | (refine step_load1 33 _ _ _ rfl (S.cell pk co) _ Try.underlying33 rfl rfl ?_) | (refine step_load1 33 _ _ _ rfl (S.row_cell pk _ _ hyr) _ Try.underlying33 rfl rfl ?_) | (refine step_load1 33 _ _ _ rfl (S.row_cellS pk _ _ hy) _ Try.underlying33 rfl rfl ?_) | (refine step_load1 33 _ _ _ rfl (S.old_cell hy) _ Try.underlying33 rfl rfl ?_)) | (at_builtin; refine step_append8 S (.tmp 25) (.tmp 29) _ _ rfl pk _ _ rfl (by first | assumption | exact S.oldB (Hid.out (by assumption)) | exact Bs.mk0 _ _ | exact S.bs pk | exact S.bsr pk) (by (first | omega | assumption | (exact Hid.out (by assumption)) | (simp only [List.length_append, List.length_cons, List.length_nil]; omega))) rfl ?_; clear S; intro v30 w S; (try simp only [List.nil_append] at S)) | (at_builtin; refine step_append8 S (.tmp 34) (.tmp 38) _ _ rfl pk _ _ rfl (by first | assumption | exact S.oldB (Hid.out (by assumption)) | exact Bs.mk0 _ _ | exact S.bs pk | exact S.bsr pk) (by (first | omega | assumption | (exact Hid.out (by assumption)) | (simp only [List.length_append, List.length_cons, List.length_nil]; omega))) rfl ?_; clear S; intro v39 w S; (try simp only [List.nil_append] at S)) | (go_at_call 54; (with_reducible refine (P4.out _ _ (by first | assumption | exact S.oldB (Hid.out (by assumption)) | exact Bs.mk0 _ _ | exact S.bs pk | exact S.bsr pk)).mono ?_); rintro e w1 ⟨v41, rfl, T⟩; replace S := S.call T; clear T; (try simp only [List.nil_append, List.cons_append] at S)) | fail)
      go_ret
      rw [← HB.out, HY0.out] at S
      exact ⟨_, rfl, S.sub (by repeat (first | exact Sub.nil _ | refine Sub.cons pk ?_))⟩
end Go.Proofs.Ytfhkmmagpnojmaa
