/- WireRequests' walk. No condition but the reach. -/
import Derived.Test.YtfhkmmagpnojmaaBd
import Derived.Test.YtfhkmmagpnojmaaRefD
set_option linter.unusedSimpArgs false
set_option linter.unusedVariables false
namespace Go.Proofs.Ytfhkmmagpnojmaa
open Go.RowKit

set_option maxRecDepth 100000 in
set_option maxHeartbeats 8000000 in
theorem wireRequests_walk (r : Rq) (v : Value) (b : List UInt8) (w0 : World) (h : Bs w0 v b) (hl : b.length ≤ 140737488355328) :
    Calls Try.prog 4 #[.agg (rqL r).toArray, v] w0 fun e w' => e = .returned (.bool true) ∧ Has w0 w' [] := by
  have S := Has.start w0
  obtain ⟨a0, c0, rfl, k1, k2⟩ := Sl.shape h
  unfold maxLen at k2
  have p1 := fun w => encodeRequest_s r w
  have p2 := fun w => requestEncoded_s r w
  have p3 := fun w => checkRequest_s r w
  have p4 := fun w => refCheckRequest_s r w
  have p5 := fun v w h => decodeRequest_s v b w h hl
  have p6 := fun v w h => refDecodeRequest_s v b w h hl
  obtain ⟨X, hX⟩ : ∃ X, X = encRE r := ⟨_, rfl⟩
  obtain ⟨E, hE⟩ : ∃ X, X = rqE r := ⟨_, rfl⟩
  obtain ⟨D, hD⟩ : ∃ X, X = dcR b := ⟨_, rfl⟩
  obtain ⟨DE, hDE⟩ : ∃ X, X = dcE b := ⟨_, rfl⟩
  rw [← hX, ← hE] at p1 p2
  rw [← hE] at p3 p4
  rw [← hD, ← hDE] at p5 p6
  have eg := eqGuardRq
  have he : ∀ w, (binOp .eql 38 (.agg (rqL D).toArray) (.agg (rqL D).toArray)).run Try.prog w = .ok (.bool true) w := fun w => by rw [eqlRq, decide_eq_true rfl]
  have H := Lib.hid h; have P1 := Lib.hid p1; have P2 := Lib.hid p2; have P3 := Lib.hid p3; have P4 := Lib.hid p4; have P5 := Lib.hid p5; have P6 := Lib.hid p6; clear h p1 p2 p3 p4 p5 p6
  clear hX hE hD hDE
  go_enter Try.func4, Try.ntmps4
  go_wp2_with (first | ((with_reducible show wpList _ _ _ (⟨some 2, .box 38 (.tmp 0), _, _, _, _⟩ :: _) _ _); refine step_boxA (dst := some 2) S 38 (.tmp 0) _ rfl gw ?_; clear S; intro g2 w S) | ((with_reducible show wpList _ _ _ (⟨_, .load 38 _, _, _, _, _⟩ :: _) _ _); first | (refine step_load S 38 _ _ rfl _ _ _ pk _ Try.underlying38 rfl 40 (by kernel_rfl) (by first | rfl | (first | rfl | assumption | (exact Hid.out (by assumption)) | (exact rqL_size _) | (exact tokL_size _) | (rw [arr8_size]; first | rfl | assumption | (exact Hid.out (by assumption)) | exact rqL_size _ | exact tokL_size _ | exact List.length_replicate ..) | (simp [arr8_size]; done))) gw ?_) | (refine step_loadO 38 _ _ rfl _ _ _ (S.old_heap (Hid.out (by assumption))) _ Try.underlying38 rfl 40 (by kernel_rfl) (by first | rfl | (first | rfl | assumption | (exact Hid.out (by assumption)) | (exact rqL_size _) | (exact tokL_size _) | (rw [arr8_size]; first | rfl | assumption | (exact Hid.out (by assumption)) | exact rqL_size _ | exact tokL_size _ | exact List.length_replicate ..) | (simp [arr8_size]; done))) gw ?_) | (refine step_loadR 38 _ _ _ rfl _ (S.old_range hy) _ Try.underlying38 rfl 40 (by kernel_rfl) (by first | rfl | (first | rfl | assumption | (exact Hid.out (by assumption)) | (exact rqL_size _) | (exact tokL_size _) | (rw [arr8_size]; first | rfl | assumption | (exact Hid.out (by assumption)) | exact rqL_size _ | exact tokL_size _ | exact List.length_replicate ..) | (simp [arr8_size]; done))) _ rfl gw ?_)) | (go_at_call 10; (with_reducible refine (P1.out _).mono ?_); rintro e w1 ⟨v5, rfl, T⟩; replace S := S.call T; clear T; (try simp only [List.nil_append, List.cons_append] at S)) | (go_at_call 11; (with_reducible refine (P2.out _).mono ?_); rintro e w1 ⟨v7, rfl, T⟩; replace S := S.call T; clear T; (try simp only [List.nil_append, List.cons_append] at S)) | ((with_reducible show wpList _ _ _ (⟨_, .convert 22 9 _, _, _, _, _⟩ :: _) _ _); refine step_conv 22 9 5 _ _ _ rfl Try.underlying22 Try.underlying5 Try.underlying9 (by first | assumption | exact S.oldB (Hid.out (by assumption)) | exact Bs.mk0 _ _ | exact S.bs pk | exact S.bsr pk) gw ?_) | ((with_reducible show wpList _ _ _ (⟨some 9, .alloc 38, _, _, _, _⟩ :: _) _ _); refine step_alloc (dst := some 9) S 38 (.agg ((rqL rqZ).toArray)) ((rqL rqZ).toArray) (by kernel_rfl) rfl gw ?_; clear S; intro g9 w S) | ((with_reducible show wpList _ _ _ (⟨none, .store 38 (.tmp 9) (.tmp 41), _, _, _, _⟩ :: _) _ _); refine step_store S 38 (.tmp 9) (.tmp 41) _ _ rfl rfl _ _ pk 40 (by kernel_rfl) (by first | rfl | (first | rfl | assumption | (exact Hid.out (by assumption)) | (exact rqL_size _) | (exact tokL_size _) | (rw [arr8_size]; first | rfl | assumption | (exact Hid.out (by assumption)) | exact rqL_size _ | exact tokL_size _ | exact List.length_replicate ..) | (simp [arr8_size]; done))) (by first | rfl | (first | rfl | assumption | (exact Hid.out (by assumption)) | (exact rqL_size _) | (exact tokL_size _) | (rw [arr8_size]; first | rfl | assumption | (exact Hid.out (by assumption)) | exact rqL_size _ | exact tokL_size _ | exact List.length_replicate ..) | (simp [arr8_size]; done))) on1 gw ?_; clear S; intro w S) | ((with_reducible show wpList _ _ _ (⟨some 10, .alloc 38, _, _, _, _⟩ :: _) _ _); refine step_alloc (dst := some 10) S 38 (.agg ((rqL rqZ).toArray)) ((rqL rqZ).toArray) (by kernel_rfl) rfl gw ?_; clear S; intro g10 w S) | ((with_reducible show wpList _ _ _ (⟨none, .store 38 (.tmp 10) (.tmp 46), _, _, _, _⟩ :: _) _ _); refine step_store S 38 (.tmp 10) (.tmp 46) _ _ rfl rfl _ _ pk 40 (by kernel_rfl) (by first | rfl | (first | rfl | assumption | (exact Hid.out (by assumption)) | (exact rqL_size _) | (exact tokL_size _) | (rw [arr8_size]; first | rfl | assumption | (exact Hid.out (by assumption)) | exact rqL_size _ | exact tokL_size _ | exact List.length_replicate ..) | (simp [arr8_size]; done))) (by first | rfl | (first | rfl | assumption | (exact Hid.out (by assumption)) | (exact rqL_size _) | (exact tokL_size _) | (rw [arr8_size]; first | rfl | assumption | (exact Hid.out (by assumption)) | exact rqL_size _ | exact tokL_size _ | exact List.length_replicate ..) | (simp [arr8_size]; done))) on1 gw ?_; clear S; intro w S) | fail)
  refine wp_rely S [⟨[], [], [], fun _ v => v = .agg (rqL r).toArray, fun _ v => []⟩, ⟨[0], [], [], fun _ v => v = .int .i64 E, fun _ v => []⟩, ⟨[], [], [], fun _ v => v = .agg (rqL r).toArray, fun _ v => []⟩, ⟨[0, 1, 2], [], [], fun _ v => v = .int .i64 E, fun _ v => []⟩, ⟨[0, 1, 2, 3], [], [], fun _ v => v = .bool false, fun _ v => []⟩, ⟨[0, 1, 2, 3, 4], [], [], fun _ v => v = (.bool false), fun _ v => []⟩, ⟨[0, 1, 2, 3, 4, 5], [], [], fun _ v => v = (v5), fun _ v => []⟩, ⟨[0, 1, 2, 3, 4, 5, 6], [], [], fun _ v => v = .string (strB X), fun _ v => []⟩, ⟨[0, 1, 2, 3, 4, 5], [], [], fun _ v => v = (v7), fun _ v => []⟩, ⟨[0, 1, 2, 3, 4, 5, 8], [], [], fun _ v => v = .string (strB X), fun _ v => []⟩, ⟨[0, 1, 2, 3, 4, 5, 6, 7, 8, 9], [], [], fun _ v => v = .bool false, fun _ v => []⟩, ⟨[0, 1, 2, 3, 4, 5, 6, 7, 8, 9, 10], [], [], fun _ v => v = .bool false, fun _ v => []⟩, ⟨[0, 1, 2, 3, 4, 5, 6, 7, 8, 9, 10, 11], [], [], fun _ v => v = (.bool false), fun _ v => []⟩, ⟨[0, 1, 2, 3, 4, 5, 6, 7, 8, 9, 10, 11, 12], [], [], fun _ v => v = (.int .i64 E), fun _ v => []⟩, ⟨[0, 1, 2, 3, 4, 5, 6, 7, 8, 9, 10, 11, 12], [], [], fun _ v => v = (.int .i64 E), fun _ v => []⟩, ⟨[0, 1, 2, 3, 4, 5, 6, 7, 8, 9, 10, 11, 12, 13, 14], [], [], fun _ v => v = .bool false, fun _ v => []⟩, ⟨[0, 1, 2, 3, 4, 5, 6, 7, 8, 9, 10, 11, 12, 13, 14, 15], [], [], fun _ v => v = .bool false, fun _ v => []⟩] ?A1 ?hA1 (by kernel_rfl) (by kernel_rfl) (by kernel_rfl) [0, 1, 2, 3, 4, 5, 6, 7, 8, 9, 10, 11, 12, 13, 14, 15, 16] (by kernel_rfl) ?hok1 ?fin1
  case hA1 => intro u; simp only [putAll, List.length_cons, List.length_nil, Nat.zero_add, Nat.reduceAdd, dstAt, List.getElem?_toArray, List.getElem?_cons_zero, List.getElem?_cons_succ, Option.bind_some, Act.put, List.setIfInBounds_toArray, List.set_cons_zero, List.set_cons_succ]; rfl
  case hok1 =>
    intro i hi
    obtain rfl | rfl | rfl | rfl | rfl | rfl | rfl | rfl | rfl | rfl | rfl | rfl | rfl | rfl | rfl | rfl | rfl : i = 0 ∨ i = 1 ∨ i = 2 ∨ i = 3 ∨ i = 4 ∨ i = 5 ∨ i = 6 ∨ i = 7 ∨ i = 8 ∨ i = 9 ∨ i = 10 ∨ i = 11 ∨ i = 12 ∨ i = 13 ∨ i = 14 ∨ i = 15 ∨ i = 16 := by simp only [List.length_cons, List.length_nil, Nat.zero_add, Nat.reduceAdd] at hi; omega
    · clear hi
      refine step_of rfl rfl rfl ?_
      intro u G w hf S
      simp only [resOf, spec, RSpec.resAt, z0, z1, z2, z3, z4, z5, z6, z7, ptrBlk] at S ⊢
      refine does_load 38 (.tmp 2) g2 rfl _ _ _ (S.get (r := blk g2 _) pk) _ Try.underlying38 rfl 40 (by kernel_rfl) (by first | rfl | (first | rfl | assumption | (exact Hid.out (by assumption)) | (exact rqL_size _) | (exact tokL_size _) | (rw [arr8_size]; first | rfl | assumption | (exact Hid.out (by assumption)) | exact rqL_size _ | exact tokL_size _ | exact List.length_replicate ..) | (simp [arr8_size]; done))) ?_; exact ⟨rfl, S⟩
    · clear hi
      refine step_of rfl rfl rfl ?_
      intro u G w hf S
      have f0 : u 0 = .agg (rqL r).toArray := hf 0 (by simp)
      simp only [resOf, spec, RSpec.resAt, z0, z1, z2, z3, z4, z5, z6, z7, ptrBlk] at S ⊢
      simp only [f0]
      refine does_fn (args := [(.agg (rqL r).toArray)]) Try.func12 (by kernel_rfl) (by kernel_rfl) (P3.out w) rfl ?_
      rintro e w1 ⟨rfl, T⟩
      exact ⟨_, rfl, rfl, S.call T⟩
    · clear hi
      refine step_of rfl rfl rfl ?_
      intro u G w hf S
      simp only [resOf, spec, RSpec.resAt, z0, z1, z2, z3, z4, z5, z6, z7, ptrBlk] at S ⊢
      refine does_load 38 (.tmp 2) g2 rfl _ _ _ (S.get (r := blk g2 _) pk) _ Try.underlying38 rfl 40 (by kernel_rfl) (by first | rfl | (first | rfl | assumption | (exact Hid.out (by assumption)) | (exact rqL_size _) | (exact tokL_size _) | (rw [arr8_size]; first | rfl | assumption | (exact Hid.out (by assumption)) | exact rqL_size _ | exact tokL_size _ | exact List.length_replicate ..) | (simp [arr8_size]; done))) ?_; exact ⟨rfl, S⟩
    · clear hi
      refine step_of rfl rfl rfl ?_
      intro u G w hf S
      have f0 : u 0 = .agg (rqL r).toArray := hf 0 (by simp)
      have f1 : u 1 = .int .i64 E := hf 1 (by simp)
      have f2 : u 2 = .agg (rqL r).toArray := hf 2 (by simp)
      simp only [resOf, spec, RSpec.resAt, z0, z1, z2, z3, z4, z5, z6, z7, ptrBlk] at S ⊢
      simp only [f0, f1, f2]
      refine does_fn (args := [(.agg (rqL r).toArray)]) Try.func13 (by kernel_rfl) (by kernel_rfl) (P4.out w) rfl ?_
      rintro e w1 ⟨rfl, T⟩
      exact ⟨_, rfl, rfl, S.call T⟩
    · clear hi
      refine step_of rfl rfl rfl ?_
      intro u G w hf S
      have f0 : u 0 = .agg (rqL r).toArray := hf 0 (by simp)
      have f1 : u 1 = .int .i64 E := hf 1 (by simp)
      have f2 : u 2 = .agg (rqL r).toArray := hf 2 (by simp)
      have f3 : u 3 = .int .i64 E := hf 3 (by simp)
      simp only [resOf, spec, RSpec.resAt, z0, z1, z2, z3, z4, z5, z6, z7, ptrBlk] at S ⊢
      simp only [f0, f1, f2, f3]
      simp only [does]
      go_simp
      try first | exact S | exact ⟨vv, S⟩ | exact vv
    · clear hi
      refine step_of rfl rfl rfl ?_
      intro u G w hf S
      have f0 : u 0 = .agg (rqL r).toArray := hf 0 (by simp)
      have f1 : u 1 = .int .i64 E := hf 1 (by simp)
      have f2 : u 2 = .agg (rqL r).toArray := hf 2 (by simp)
      have f3 : u 3 = .int .i64 E := hf 3 (by simp)
      have f4 : u 4 = .bool false := hf 4 (by simp)
      simp only [resOf, spec, RSpec.resAt, z0, z1, z2, z3, z4, z5, z6, z7, ptrBlk] at S ⊢
      simp only [f0, f1, f2, f3, f4]
      simp only [does]
      go_simp
      try first | exact S | exact ⟨vv, S⟩ | exact vv
    · clear hi
      refine step_of_g rfl rfl ?_
      intro u G w hf S
      have f0 : u 0 = .agg (rqL r).toArray := hf 0 (by simp)
      have f1 : u 1 = .int .i64 E := hf 1 (by simp)
      have f2 : u 2 = .agg (rqL r).toArray := hf 2 (by simp)
      have f3 : u 3 = .int .i64 E := hf 3 (by simp)
      have f4 : u 4 = .bool false := hf 4 (by simp)
      have f5 : u 5 = (.bool false) := hf 5 (by simp)
      simp only [resOf, spec, RSpec.resAt, z0, z1, z2, z3, z4, z5, z6, z7, ptrBlk] at S ⊢
      simp only [f0, f1, f2, f3, f4, f5]
      refine ⟨rfl, ?_⟩
      simp only [does]
      go_simp
      try first | exact S | exact ⟨vv, S⟩ | exact vv
    · clear hi
      refine step_of_g rfl rfl ?_
      intro u G w hf S
      have f0 : u 0 = .agg (rqL r).toArray := hf 0 (by simp)
      have f1 : u 1 = .int .i64 E := hf 1 (by simp)
      have f2 : u 2 = .agg (rqL r).toArray := hf 2 (by simp)
      have f3 : u 3 = .int .i64 E := hf 3 (by simp)
      have f4 : u 4 = .bool false := hf 4 (by simp)
      have f5 : u 5 = (.bool false) := hf 5 (by simp)
      have f6 : u 6 = (v5) := hf 6 (by simp)
      simp only [resOf, spec, RSpec.resAt, z0, z1, z2, z3, z4, z5, z6, z7, ptrBlk] at S ⊢
      simp only [f0, f1, f2, f3, f4, f5, f6]
      refine ⟨rfl, ?_⟩
      refine does_conv 22 9 5 (.tmp 27) _ _ rfl Try.underlying22 Try.underlying5 Try.underlying9 (S.bs (v := v5) (xs := X) pk) ?_; exact ⟨rfl, S⟩
    · clear hi
      refine step_of_g rfl rfl ?_
      intro u G w hf S
      have f0 : u 0 = .agg (rqL r).toArray := hf 0 (by simp)
      have f1 : u 1 = .int .i64 E := hf 1 (by simp)
      have f2 : u 2 = .agg (rqL r).toArray := hf 2 (by simp)
      have f3 : u 3 = .int .i64 E := hf 3 (by simp)
      have f4 : u 4 = .bool false := hf 4 (by simp)
      have f5 : u 5 = (.bool false) := hf 5 (by simp)
      simp only [resOf, spec, RSpec.resAt, z0, z1, z2, z3, z4, z5, z6, z7, ptrBlk] at S ⊢
      simp only [f0, f1, f2, f3, f4, f5]
      refine ⟨rfl, ?_⟩
      simp only [does]
      go_simp
      try first | exact S | exact ⟨vv, S⟩ | exact vv
    · clear hi
      refine step_of_g rfl rfl ?_
      intro u G w hf S
      have f0 : u 0 = .agg (rqL r).toArray := hf 0 (by simp)
      have f1 : u 1 = .int .i64 E := hf 1 (by simp)
      have f2 : u 2 = .agg (rqL r).toArray := hf 2 (by simp)
      have f3 : u 3 = .int .i64 E := hf 3 (by simp)
      have f4 : u 4 = .bool false := hf 4 (by simp)
      have f5 : u 5 = (.bool false) := hf 5 (by simp)
      have f8 : u 8 = (v7) := hf 8 (by simp)
      simp only [resOf, spec, RSpec.resAt, z0, z1, z2, z3, z4, z5, z6, z7, ptrBlk] at S ⊢
      simp only [f0, f1, f2, f3, f4, f5, f8]
      refine ⟨rfl, ?_⟩
      refine does_conv 22 9 5 (.tmp 29) _ _ rfl Try.underlying22 Try.underlying5 Try.underlying9 (S.bs (v := v7) (xs := X) pk) ?_; exact ⟨rfl, S⟩
    · clear hi
      refine step_of_g rfl rfl ?_
      intro u G w hf S
      have f0 : u 0 = .agg (rqL r).toArray := hf 0 (by simp)
      have f1 : u 1 = .int .i64 E := hf 1 (by simp)
      have f2 : u 2 = .agg (rqL r).toArray := hf 2 (by simp)
      have f3 : u 3 = .int .i64 E := hf 3 (by simp)
      have f4 : u 4 = .bool false := hf 4 (by simp)
      have f5 : u 5 = (.bool false) := hf 5 (by simp)
      have f6 : u 6 = (v5) := hf 6 (by simp)
      have f7 : u 7 = .string (strB X) := hf 7 (by simp)
      have f8 : u 8 = (v7) := hf 8 (by simp)
      have f9 : u 9 = .string (strB X) := hf 9 (by simp)
      simp only [resOf, spec, RSpec.resAt, z0, z1, z2, z3, z4, z5, z6, z7, ptrBlk] at S ⊢
      simp only [f0, f1, f2, f3, f4, f5, f6, f7, f8, f9]
      refine ⟨rfl, ?_⟩
      simp only [does]
      go_simp
      try first | exact S | exact ⟨vv, S⟩ | exact vv
    · clear hi
      refine step_of rfl rfl rfl ?_
      intro u G w hf S
      have f0 : u 0 = .agg (rqL r).toArray := hf 0 (by simp)
      have f1 : u 1 = .int .i64 E := hf 1 (by simp)
      have f2 : u 2 = .agg (rqL r).toArray := hf 2 (by simp)
      have f3 : u 3 = .int .i64 E := hf 3 (by simp)
      have f4 : u 4 = .bool false := hf 4 (by simp)
      have f5 : u 5 = (.bool false) := hf 5 (by simp)
      have f6 : u 6 = (v5) := hf 6 (by simp)
      have f7 : u 7 = .string (strB X) := hf 7 (by simp)
      have f8 : u 8 = (v7) := hf 8 (by simp)
      have f9 : u 9 = .string (strB X) := hf 9 (by simp)
      have f10 : u 10 = .bool false := hf 10 (by simp)
      simp only [resOf, spec, RSpec.resAt, z0, z1, z2, z3, z4, z5, z6, z7, ptrBlk] at S ⊢
      simp only [f0, f1, f2, f3, f4, f5, f6, f7, f8, f9, f10]
      simp only [does]
      go_simp
      try first | exact S | exact ⟨vv, S⟩ | exact vv
    · clear hi
      refine step_of rfl rfl rfl ?_
      intro u G w hf S
      have f0 : u 0 = .agg (rqL r).toArray := hf 0 (by simp)
      have f1 : u 1 = .int .i64 E := hf 1 (by simp)
      have f2 : u 2 = .agg (rqL r).toArray := hf 2 (by simp)
      have f3 : u 3 = .int .i64 E := hf 3 (by simp)
      have f4 : u 4 = .bool false := hf 4 (by simp)
      have f5 : u 5 = (.bool false) := hf 5 (by simp)
      have f6 : u 6 = (v5) := hf 6 (by simp)
      have f7 : u 7 = .string (strB X) := hf 7 (by simp)
      have f8 : u 8 = (v7) := hf 8 (by simp)
      have f9 : u 9 = .string (strB X) := hf 9 (by simp)
      have f10 : u 10 = .bool false := hf 10 (by simp)
      have f11 : u 11 = .bool false := hf 11 (by simp)
      simp only [resOf, spec, RSpec.resAt, z0, z1, z2, z3, z4, z5, z6, z7, ptrBlk] at S ⊢
      simp only [f0, f1, f2, f3, f4, f5, f6, f7, f8, f9, f10, f11]
      simp only [does]
      go_simp
      try first | exact S | exact ⟨vv, S⟩ | exact vv
    · clear hi
      refine step_of_g rfl rfl ?_
      intro u G w hf S
      have f0 : u 0 = .agg (rqL r).toArray := hf 0 (by simp)
      have f1 : u 1 = .int .i64 E := hf 1 (by simp)
      have f2 : u 2 = .agg (rqL r).toArray := hf 2 (by simp)
      have f3 : u 3 = .int .i64 E := hf 3 (by simp)
      have f4 : u 4 = .bool false := hf 4 (by simp)
      have f5 : u 5 = (.bool false) := hf 5 (by simp)
      have f6 : u 6 = (v5) := hf 6 (by simp)
      have f7 : u 7 = .string (strB X) := hf 7 (by simp)
      have f8 : u 8 = (v7) := hf 8 (by simp)
      have f9 : u 9 = .string (strB X) := hf 9 (by simp)
      have f10 : u 10 = .bool false := hf 10 (by simp)
      have f11 : u 11 = .bool false := hf 11 (by simp)
      have f12 : u 12 = (.bool false) := hf 12 (by simp)
      simp only [resOf, spec, RSpec.resAt, z0, z1, z2, z3, z4, z5, z6, z7, ptrBlk] at S ⊢
      simp only [f0, f1, f2, f3, f4, f5, f6, f7, f8, f9, f10, f11, f12]
      refine ⟨rfl, ?_⟩
      simp only [does]
      go_simp
      try first | exact S | exact ⟨vv, S⟩ | exact vv
    · clear hi
      refine step_of_g rfl rfl ?_
      intro u G w hf S
      have f0 : u 0 = .agg (rqL r).toArray := hf 0 (by simp)
      have f1 : u 1 = .int .i64 E := hf 1 (by simp)
      have f2 : u 2 = .agg (rqL r).toArray := hf 2 (by simp)
      have f3 : u 3 = .int .i64 E := hf 3 (by simp)
      have f4 : u 4 = .bool false := hf 4 (by simp)
      have f5 : u 5 = (.bool false) := hf 5 (by simp)
      have f6 : u 6 = (v5) := hf 6 (by simp)
      have f7 : u 7 = .string (strB X) := hf 7 (by simp)
      have f8 : u 8 = (v7) := hf 8 (by simp)
      have f9 : u 9 = .string (strB X) := hf 9 (by simp)
      have f10 : u 10 = .bool false := hf 10 (by simp)
      have f11 : u 11 = .bool false := hf 11 (by simp)
      have f12 : u 12 = (.bool false) := hf 12 (by simp)
      simp only [resOf, spec, RSpec.resAt, z0, z1, z2, z3, z4, z5, z6, z7, ptrBlk] at S ⊢
      simp only [f0, f1, f2, f3, f4, f5, f6, f7, f8, f9, f10, f11, f12]
      refine ⟨rfl, ?_⟩
      simp only [does]
      go_simp
      try first | exact S | exact ⟨vv, S⟩ | exact vv
    · clear hi
      refine step_of_g rfl rfl ?_
      intro u G w hf S
      have f0 : u 0 = .agg (rqL r).toArray := hf 0 (by simp)
      have f1 : u 1 = .int .i64 E := hf 1 (by simp)
      have f2 : u 2 = .agg (rqL r).toArray := hf 2 (by simp)
      have f3 : u 3 = .int .i64 E := hf 3 (by simp)
      have f4 : u 4 = .bool false := hf 4 (by simp)
      have f5 : u 5 = (.bool false) := hf 5 (by simp)
      have f6 : u 6 = (v5) := hf 6 (by simp)
      have f7 : u 7 = .string (strB X) := hf 7 (by simp)
      have f8 : u 8 = (v7) := hf 8 (by simp)
      have f9 : u 9 = .string (strB X) := hf 9 (by simp)
      have f10 : u 10 = .bool false := hf 10 (by simp)
      have f11 : u 11 = .bool false := hf 11 (by simp)
      have f12 : u 12 = (.bool false) := hf 12 (by simp)
      have f13 : u 13 = (.int .i64 E) := hf 13 (by simp)
      have f14 : u 14 = (.int .i64 E) := hf 14 (by simp)
      simp only [resOf, spec, RSpec.resAt, z0, z1, z2, z3, z4, z5, z6, z7, ptrBlk] at S ⊢
      simp only [f0, f1, f2, f3, f4, f5, f6, f7, f8, f9, f10, f11, f12, f13, f14]
      refine ⟨rfl, ?_⟩
      simp only [does]
      go_simp
      try first | exact S | exact ⟨vv, S⟩ | exact vv
    · clear hi
      refine step_of rfl rfl rfl ?_
      intro u G w hf S
      have f0 : u 0 = .agg (rqL r).toArray := hf 0 (by simp)
      have f1 : u 1 = .int .i64 E := hf 1 (by simp)
      have f2 : u 2 = .agg (rqL r).toArray := hf 2 (by simp)
      have f3 : u 3 = .int .i64 E := hf 3 (by simp)
      have f4 : u 4 = .bool false := hf 4 (by simp)
      have f5 : u 5 = (.bool false) := hf 5 (by simp)
      have f6 : u 6 = (v5) := hf 6 (by simp)
      have f7 : u 7 = .string (strB X) := hf 7 (by simp)
      have f8 : u 8 = (v7) := hf 8 (by simp)
      have f9 : u 9 = .string (strB X) := hf 9 (by simp)
      have f10 : u 10 = .bool false := hf 10 (by simp)
      have f11 : u 11 = .bool false := hf 11 (by simp)
      have f12 : u 12 = (.bool false) := hf 12 (by simp)
      have f13 : u 13 = (.int .i64 E) := hf 13 (by simp)
      have f14 : u 14 = (.int .i64 E) := hf 14 (by simp)
      have f15 : u 15 = .bool false := hf 15 (by simp)
      simp only [resOf, spec, RSpec.resAt, z0, z1, z2, z3, z4, z5, z6, z7, ptrBlk] at S ⊢
      simp only [f0, f1, f2, f3, f4, f5, f6, f7, f8, f9, f10, f11, f12, f13, f14, f15]
      simp only [does]
      go_simp
      try first | exact S | exact ⟨vv, S⟩ | exact vv
  case fin1 =>
    intro u w hf S
    have f0 : u 0 = .agg (rqL r).toArray := hf 0 (by simp)
    have f1 : u 1 = .int .i64 E := hf 1 (by simp)
    have f2 : u 2 = .agg (rqL r).toArray := hf 2 (by simp)
    have f3 : u 3 = .int .i64 E := hf 3 (by simp)
    have f4 : u 4 = .bool false := hf 4 (by simp)
    have f5 : u 5 = (.bool false) := hf 5 (by simp)
    have f6 : u 6 = (v5) := hf 6 (by simp)
    have f7 : u 7 = .string (strB X) := hf 7 (by simp)
    have f8 : u 8 = (v7) := hf 8 (by simp)
    have f9 : u 9 = .string (strB X) := hf 9 (by simp)
    have f10 : u 10 = .bool false := hf 10 (by simp)
    have f11 : u 11 = .bool false := hf 11 (by simp)
    have f12 : u 12 = (.bool false) := hf 12 (by simp)
    have f13 : u 13 = (.int .i64 E) := hf 13 (by simp)
    have f14 : u 14 = (.int .i64 E) := hf 14 (by simp)
    have f15 : u 15 = .bool false := hf 15 (by simp)
    have f16 : u 16 = .bool false := hf 16 (by simp)
    simp only [resOf, spec, RSpec.resAt, z0, z1, z2, z3, z4, z5, z6, z7, ptrBlk] at S
    clear hf
    simp only [List.length_cons, List.length_nil, Nat.zero_add, Nat.reduceAdd, List.drop_succ_cons, List.drop_zero, f0, f1, f2, f3, f4, f5, f6, f7, f8, f9, f10, f11, f12, f13, f14, f15, f16]
    clear f0 f1 f2 f3 f4 f5 f6 f7 f8 f9 f10 f11 f12 f13 f14 f15 f16
    go_wp2_with (first | ((with_reducible show wpList _ _ _ (⟨some 2, .box 38 (.tmp 0), _, _, _, _⟩ :: _) _ _); refine step_boxA (dst := some 2) S 38 (.tmp 0) _ rfl gw ?_; clear S; intro g2 w S) | ((with_reducible show wpList _ _ _ (⟨_, .load 38 _, _, _, _, _⟩ :: _) _ _); first | (refine step_load S 38 _ _ rfl _ _ _ pk _ Try.underlying38 rfl 40 (by kernel_rfl) (by first | rfl | (first | rfl | assumption | (exact Hid.out (by assumption)) | (exact rqL_size _) | (exact tokL_size _) | (rw [arr8_size]; first | rfl | assumption | (exact Hid.out (by assumption)) | exact rqL_size _ | exact tokL_size _ | exact List.length_replicate ..) | (simp [arr8_size]; done))) gw ?_) | (refine step_loadO 38 _ _ rfl _ _ _ (S.old_heap (Hid.out (by assumption))) _ Try.underlying38 rfl 40 (by kernel_rfl) (by first | rfl | (first | rfl | assumption | (exact Hid.out (by assumption)) | (exact rqL_size _) | (exact tokL_size _) | (rw [arr8_size]; first | rfl | assumption | (exact Hid.out (by assumption)) | exact rqL_size _ | exact tokL_size _ | exact List.length_replicate ..) | (simp [arr8_size]; done))) gw ?_) | (refine step_loadR 38 _ _ _ rfl _ (S.old_range hy) _ Try.underlying38 rfl 40 (by kernel_rfl) (by first | rfl | (first | rfl | assumption | (exact Hid.out (by assumption)) | (exact rqL_size _) | (exact tokL_size _) | (rw [arr8_size]; first | rfl | assumption | (exact Hid.out (by assumption)) | exact rqL_size _ | exact tokL_size _ | exact List.length_replicate ..) | (simp [arr8_size]; done))) _ rfl gw ?_)) | ((with_reducible show wpList _ _ _ (⟨_, .convert 22 9 _, _, _, _, _⟩ :: _) _ _); refine step_conv 22 9 5 _ _ _ rfl Try.underlying22 Try.underlying5 Try.underlying9 (by first | assumption | exact S.oldB (Hid.out (by assumption)) | exact Bs.mk0 _ _ | exact S.bs pk | exact S.bsr pk) gw ?_) | (go_at_call 14; (with_reducible refine (P5.out _ _ (S.oldB H.out)).mono ?_); rintro e w1 ⟨rfl, T⟩; replace S := S.call T; clear T; (try simp only [List.nil_append, List.cons_append] at S)) | ((with_reducible show wpList _ _ _ (⟨some 9, .alloc 38, _, _, _, _⟩ :: _) _ _); refine step_alloc (dst := some 9) S 38 (.agg ((rqL rqZ).toArray)) ((rqL rqZ).toArray) (by kernel_rfl) rfl gw ?_; clear S; intro g9 w S) | ((with_reducible show wpList _ _ _ (⟨none, .store 38 (.tmp 9) (.tmp 41), _, _, _, _⟩ :: _) _ _); refine step_store S 38 (.tmp 9) (.tmp 41) _ _ rfl rfl _ _ pk 40 (by kernel_rfl) (by first | rfl | (first | rfl | assumption | (exact Hid.out (by assumption)) | (exact rqL_size _) | (exact tokL_size _) | (rw [arr8_size]; first | rfl | assumption | (exact Hid.out (by assumption)) | exact rqL_size _ | exact tokL_size _ | exact List.length_replicate ..) | (simp [arr8_size]; done))) (by first | rfl | (first | rfl | assumption | (exact Hid.out (by assumption)) | (exact rqL_size _) | (exact tokL_size _) | (rw [arr8_size]; first | rfl | assumption | (exact Hid.out (by assumption)) | exact rqL_size _ | exact tokL_size _ | exact List.length_replicate ..) | (simp [arr8_size]; done))) on1 gw ?_; clear S; intro w S) | (go_at_call 15; (with_reducible refine (P6.out _ _ (S.oldB H.out)).mono ?_); rintro e w1 ⟨rfl, T⟩; replace S := S.call T; clear T; (try simp only [List.nil_append, List.cons_append] at S)) | ((with_reducible show wpList _ _ _ (⟨some 10, .alloc 38, _, _, _, _⟩ :: _) _ _); refine step_alloc (dst := some 10) S 38 (.agg ((rqL rqZ).toArray)) ((rqL rqZ).toArray) (by kernel_rfl) rfl gw ?_; clear S; intro g10 w S) | ((with_reducible show wpList _ _ _ (⟨none, .store 38 (.tmp 10) (.tmp 46), _, _, _, _⟩ :: _) _ _); refine step_store S 38 (.tmp 10) (.tmp 46) _ _ rfl rfl _ _ pk 40 (by kernel_rfl) (by first | rfl | (first | rfl | assumption | (exact Hid.out (by assumption)) | (exact rqL_size _) | (exact tokL_size _) | (rw [arr8_size]; first | rfl | assumption | (exact Hid.out (by assumption)) | exact rqL_size _ | exact tokL_size _ | exact List.length_replicate ..) | (simp [arr8_size]; done))) (by first | rfl | (first | rfl | assumption | (exact Hid.out (by assumption)) | (exact rqL_size _) | (exact tokL_size _) | (rw [arr8_size]; first | rfl | assumption | (exact Hid.out (by assumption)) | exact rqL_size _ | exact tokL_size _ | exact List.length_replicate ..) | (simp [arr8_size]; done))) on1 gw ?_; clear S; intro w S) | fail)
    go_ret
    exact ⟨rfl, S.nil⟩
end Go.Proofs.Ytfhkmmagpnojmaa
