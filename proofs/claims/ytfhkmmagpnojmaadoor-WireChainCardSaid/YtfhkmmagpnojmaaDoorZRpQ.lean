/- Replies that tell an order alone: CheckReply, EncodeReply. No condition but the reach. -/
import Derived.Test.YtfhkmmagpnojmaaDoorZBd
import Derived.Test.YtfhkmmagpnojmaaDoorZRpO
import Derived.Test.YtfhkmmagpnojmaaDoorZRelyC
set_option linter.unusedSimpArgs false
set_option linter.unusedVariables false
namespace Go.Proofs.YtfhkmmagpnojmaaDoor
open Go.RowKit

set_option maxRecDepth 100000 in
set_option maxHeartbeats 1000000 in
theorem coded1_s (w0 : World) : Calls Tryd.prog 72 #[.int .u8 1, .int .i64 0] w0 fun e w' => e = .returned (.bool true) ∧ Has w0 w' [] := by
  have S := Has.start w0
  go_enter Tryd.func72, Tryd.ntmps72
  go_wp2
  go_ret
  exact ⟨rfl, S⟩
set_option maxRecDepth 100000 in
set_option maxHeartbeats 1000000 in
theorem orderValid_s (n : I64) (h : 0 ≤ n.v ∧ n.v ≤ 65535) (w0 : World) : Calls Tryd.prog 141 #[.int .i64 n.v] w0 fun e w' => e = .returned (.bool true) ∧ Has w0 w' [] := by
  have S := Has.start w0
  have p := fun w => in_s n.v 65535 w
  rw [decide_eq_true h] at p
  have P := Lib.hid p; clear p
  go_enter Tryd.func141, Tryd.ntmps141
  go_wp2_with (first | (go_at_call 71; (with_reducible refine (P.out _).mono ?_); rintro e w1 ⟨rfl, T⟩; replace S := S.call T; clear T; (try simp only [z4, z5] at S)) | fail)
  go_ret
  exact ⟨rfl, S.nil⟩
set_option maxRecDepth 100000 in
set_option maxHeartbeats 8000000 in
theorem checkReplyO_s (t : UInt64) (n : I64) (ht : t.toNat ≤ 4611686018427387904) (hn : 0 ≤ n.v ∧ n.v ≤ 65535) (w0 : World) :
    Calls Tryd.prog 41 #[.agg (rpL (rpO t n) nilS nilS).toArray] w0 fun e w' => e = .returned (.int .i64 0) ∧ Has w0 w' [] := by
  have S := Has.start w0
  have c := cellsO t n
  obtain ⟨d0, d1, d2, d3, d4, d5, d6, d7, d8, d9⟩ := c
  have p1 := fun w => replyBodyO_s t n w
  have p2 : ∀ w, Calls Tryd.prog 71 #[.int .i64 0, .int .i64 65535] w fun e w' => e = .returned (.bool true) ∧ Has w w' [] := fun w => in_s 0 65535 w
  have p3 := coded1_s
  have p4 := fun w => orderValid_s n hn w
  have p5 := fun w => replyOfO_s t n n w
  have p6 := fun w => sameReplyO_s t n w
  have mv : ∀ w, (callMethod (ordV n) "dunnage/wire.valid" #[]).run Tryd.prog w = .ok (.enter 141 #[.int .i64 n.v]) w := fun w => by kernel_rfl
  have i1 : ¬ (4611686018427387904 : Int) < (t.toNat : Int) := by omega
  obtain ⟨R, hR⟩ : ∃ R, R = rpO t n := ⟨_, rfl⟩
  rw [← hR] at d0 d1 d2 p1 p5 p6 ⊢
  have D0 := Lib.hid d0; have D1 := Lib.hid d1; have D2 := Lib.hid d2; have P1 := Lib.hid p1; have P2 := Lib.hid p2; have P3 := Lib.hid p3; have P4 := Lib.hid p4; have P5 := Lib.hid p5; have P6 := Lib.hid p6; have MV := Lib.hid mv; have HN := Lib.hid hn; clear d0 d1 d2 p1 p2 p3 p4 p5 p6 mv hn
  clear hR d3 d4 d5 d6 d7 d8 d9
  go_enter Tryd.func41, Tryd.ntmps41
  go_wp2_with (first | ((with_reducible refine iD 1 (.box 79 (.tmp 0)) ?_); refine step_boxA (dst := some 1) S 79 (.tmp 0) _ rfl gw ?_; clear S; intro g1 w S) | ((with_reducible refine iO _ (.load 79 _) ?_); first | (refine step_load S 79 _ _ rfl _ _ _ pk _ Tryd.underlying79 rfl 46 kR lN gw ?_) | (refine step_loadO 79 _ _ rfl _ _ _ (S.old_heap (Hid.out (by assumption))) _ Tryd.underlying79 rfl 46 kR lN gw ?_) | (refine step_loadR 79 _ _ _ rfl _ (S.old_range hy) _ Tryd.underlying79 rfl 46 kR lN _ rfl gw ?_)) | (go_at_call 68; (with_reducible refine (P1.out _).mono ?_); rintro e w1 ⟨rfl, T⟩; replace S := S.call T; clear T; (try simp only [z4, z5] at S)) | ((with_reducible refine iO _ (.load 24 _) ?_); refine step_load1 24 _ _ _ rfl (cL) _ Tryd.underlying24 rfl gw ?_) | ((with_reducible refine iO _ (.load 5 _) ?_); refine step_load1 5 _ _ _ rfl (cL) _ Tryd.underlying5 rfl gw ?_) | ((with_reducible refine iO _ (.load 23 _) ?_); refine step_load1 23 _ _ _ rfl (cL) _ Tryd.underlying23 rfl gw ?_) | fail)
  refine wp_rely S [⟨[], [], [], fun _ v => v = .pointer (some ⟨g1, 1, none⟩), fun _ v => []⟩, ⟨[0], [], [], fun _ v => v = .int .i64 0, fun _ v => []⟩, ⟨[0, 1], [], [], fun _ v => v = .bool true, fun _ v => []⟩, ⟨[0, 1, 2], [], [], fun _ v => v = .bool false, fun _ v => []⟩, ⟨[0, 1, 2, 3], [], [], fun _ v => v = (.bool false), fun _ v => []⟩, ⟨[0, 1, 2, 3, 4], [], [], fun _ v => v = .pointer (some ⟨g1, 0, none⟩), fun _ v => []⟩, ⟨[0, 1, 2, 3, 4, 5], [], [], fun _ v => v = .int .u8 1, fun _ v => []⟩, ⟨[0, 1, 2, 3, 4], [], [], fun _ v => v = .pointer (some ⟨g1, 1, none⟩), fun _ v => []⟩, ⟨[0, 1, 2, 3, 4, 7], [], [], fun _ v => v = .int .i64 0, fun _ v => []⟩, ⟨[0, 1, 2, 3, 4, 5, 6, 7, 8], [], [], fun _ v => v = .bool true, fun _ v => []⟩, ⟨[0, 1, 2, 3, 4, 5, 6, 7, 8, 9], [], [], fun _ v => v = .bool false, fun _ v => []⟩, ⟨[0, 1, 2, 3, 4, 5, 6, 7, 8, 9, 10], [], [], fun _ v => v = .bool false, fun _ v => []⟩, ⟨[0, 1, 2, 3, 4, 5, 6, 7, 8, 9, 10, 11], [], [], fun _ v => v = (.bool false), fun _ v => []⟩, ⟨[0, 1, 2, 3, 4, 5, 6, 7, 8, 9, 10, 11, 12], [], [], fun _ v => v = .pointer (some ⟨g1, 2, none⟩), fun _ v => []⟩, ⟨[0, 1, 2, 3, 4, 5, 6, 7, 8, 9, 10, 11, 12, 13], [], [], fun _ v => v = .int .u64 (t.toNat : Int), fun _ v => []⟩, ⟨[0, 1, 2, 3, 4, 5, 6, 7, 8, 9, 10, 11, 12, 13, 14], [], [], fun _ v => v = .bool false, fun _ v => []⟩, ⟨[0, 1, 2, 3, 4, 5, 6, 7, 8, 9, 10, 11, 12, 13, 14, 15], [], [], fun _ v => v = .bool false, fun _ v => []⟩, ⟨[0, 1, 2, 3, 4, 5, 6, 7, 8, 9, 10, 11, 12, 13, 14, 15, 16], [], [], fun _ v => v = (.bool false), fun _ v => []⟩, ⟨[0, 1, 2, 3, 4, 5, 6, 7, 8, 9, 10, 11, 12, 13, 14, 15, 16, 17], [], [], fun _ v => v = (ordV n), fun _ v => []⟩, ⟨[0, 1, 2, 3, 4, 5, 6, 7, 8, 9, 10, 11, 12, 13, 14, 15, 16, 17, 18], [], [], fun _ v => v = .bool true, fun _ v => []⟩, ⟨[0, 1, 2, 3, 4, 5, 6, 7, 8, 9, 10, 11, 12, 13, 14, 15, 16, 17, 18, 19], [], [], fun _ v => v = .bool false, fun _ v => []⟩, ⟨[0, 1, 2, 3, 4, 5, 6, 7, 8, 9, 10, 11, 12, 13, 14, 15, 16, 17, 18, 19, 20], [], [], fun _ v => v = .bool false, fun _ v => []⟩, ⟨[0, 1, 2, 3, 4, 5, 6, 7, 8, 9, 10, 11, 12, 13, 14, 15, 16, 17, 18, 19, 20, 21], [], [], fun _ v => v = (.bool false), fun _ v => []⟩, ⟨[0, 1, 2, 3, 4, 5, 6, 7, 8, 9, 10, 11, 12, 13, 14, 15, 16, 17, 18, 19, 20, 21, 22], [], [], fun _ v => v = .agg (rpL R nilS nilS).toArray, fun _ v => []⟩, ⟨[0, 1, 2, 3, 4, 5, 6, 7, 8, 9, 10, 11, 12, 13, 14, 15, 16, 17, 18, 19, 20, 21, 22], [], [], fun _ v => v = .agg (rpL R nilS nilS).toArray, fun _ v => []⟩, ⟨[0, 1, 2, 3, 4, 5, 6, 7, 8, 9, 10, 11, 12, 13, 14, 15, 16, 17, 18, 19, 20, 21, 22], [], [], fun _ v => v = (ordV n), fun _ v => []⟩, ⟨[0, 1, 2, 3, 4, 5, 6, 7, 8, 9, 10, 11, 12, 13, 14, 15, 16, 17, 18, 19, 20, 21, 22, 24, 25], [], [], fun _ v => v = .agg (rpL R nilS nilS).toArray, fun _ v => []⟩, ⟨[0, 1, 2, 3, 4, 5, 6, 7, 8, 9, 10, 11, 12, 13, 14, 15, 16, 17, 18, 19, 20, 21, 22, 23, 24, 25, 26], [], [], fun _ v => v = .bool true, fun _ v => []⟩, ⟨[0, 1, 2, 3, 4, 5, 6, 7, 8, 9, 10, 11, 12, 13, 14, 15, 16, 17, 18, 19, 20, 21, 22, 23, 24, 25, 26, 27], [], [], fun _ v => v = .bool false, fun _ v => []⟩, ⟨[0, 1, 2, 3, 4, 5, 6, 7, 8, 9, 10, 11, 12, 13, 14, 15, 16, 17, 18, 19, 20, 21, 22, 23, 24, 25, 26, 27, 28], [], [], fun _ v => v = .bool false, fun _ v => []⟩] ?A1 ?hA1 kR kR kR [0, 1, 2, 3, 4, 5, 6, 7, 8, 9, 10, 11, 12, 13, 14, 15, 16, 17, 18, 19, 20, 21, 22, 23, 24, 25, 26, 27, 28, 29] kR ?hok1 ?fin1
  case hA1 => intro u; simp only [putAll, List.length_cons, List.length_nil, Nat.zero_add, Nat.reduceAdd, dstAt, List.getElem?_toArray, List.getElem?_cons_zero, List.getElem?_cons_succ, Option.bind_some, Act.put, List.setIfInBounds_toArray, List.set_cons_zero, List.set_cons_succ]; rfl
  case hok1 =>
    intro i hi
    obtain rfl | rfl | rfl | rfl | rfl | rfl | rfl | rfl | rfl | rfl | rfl | rfl | rfl | rfl | rfl | rfl | rfl | rfl | rfl | rfl | rfl | rfl | rfl | rfl | rfl | rfl | rfl | rfl | rfl | rfl : i = 0 ∨ i = 1 ∨ i = 2 ∨ i = 3 ∨ i = 4 ∨ i = 5 ∨ i = 6 ∨ i = 7 ∨ i = 8 ∨ i = 9 ∨ i = 10 ∨ i = 11 ∨ i = 12 ∨ i = 13 ∨ i = 14 ∨ i = 15 ∨ i = 16 ∨ i = 17 ∨ i = 18 ∨ i = 19 ∨ i = 20 ∨ i = 21 ∨ i = 22 ∨ i = 23 ∨ i = 24 ∨ i = 25 ∨ i = 26 ∨ i = 27 ∨ i = 28 ∨ i = 29 := by simp only [List.length_cons, List.length_nil, Nat.zero_add, Nat.reduceAdd] at hi; omega
    · clear hi
      refine step_of rfl rfl rfl ?_
      intro u G w hf S
      simp only [resOf, spec, RSpec.resAt, z0, z1, z2, z3, z4, z5, z6, z7, ptrBlk] at S ⊢
      simp only [does]
      go_simp
      try first | exact S | exact ⟨vv, S⟩ | exact vv
    · clear hi
      refine step_of rfl rfl rfl ?_
      intro u G w hf S
      have f0 : u 0 = .pointer (some ⟨g1, 1, none⟩) := hf 0 (by simp)
      simp only [resOf, spec, RSpec.resAt, z0, z1, z2, z3, z4, z5, z6, z7, ptrBlk] at S ⊢
      simp only [f0]
      refine does_load1 24 (.tmp 6) _ _ rfl (S.cell (g := g1) pk co) _ Tryd.underlying24 rfl ?_; exact ⟨rfl, S⟩
    · clear hi
      refine step_of rfl rfl rfl ?_
      intro u G w hf S
      have f1 : u 1 = .int .i64 0 := hf 1 (by simp)
      simp only [resOf, spec, RSpec.resAt, z0, z1, z2, z3, z4, z5, z6, z7, ptrBlk] at S ⊢
      simp only [f1]
      refine does_fn (args := [(.int .i64 0), (.int .i64 65535)]) Tryd.func71 kR kR (P2.out w) rfl ?_
      rintro e w1 ⟨rfl, T⟩
      exact ⟨_, rfl, rfl, S.call T⟩
    · clear hi
      refine step_of rfl rfl rfl ?_
      intro u G w hf S
      have f2 : u 2 = .bool true := hf 2 (by simp)
      simp only [resOf, spec, RSpec.resAt, z0, z1, z2, z3, z4, z5, z6, z7, ptrBlk] at S ⊢
      simp only [f2]
      simp only [does]
      go_simp
      try first | exact S | exact ⟨vv, S⟩ | exact vv
    · clear hi
      refine step_of rfl rfl rfl ?_
      intro u G w hf S
      have f3 : u 3 = .bool false := hf 3 (by simp)
      simp only [resOf, spec, RSpec.resAt, z0, z1, z2, z3, z4, z5, z6, z7, ptrBlk] at S ⊢
      simp only [f3]
      simp only [does]
      go_simp
      try first | exact S | exact ⟨vv, S⟩ | exact vv
    · clear hi
      refine step_of_g rfl rfl ?_
      intro u G w hf S
      have f4 : u 4 = (.bool false) := hf 4 (by simp)
      simp only [resOf, spec, RSpec.resAt, z0, z1, z2, z3, z4, z5, z6, z7, ptrBlk] at S ⊢
      simp only [f4]
      refine ⟨rfl, ?_⟩
      simp only [does]
      go_simp
      try first | exact S | exact ⟨vv, S⟩ | exact vv
    · clear hi
      refine step_of_g rfl rfl ?_
      intro u G w hf S
      have f4 : u 4 = (.bool false) := hf 4 (by simp)
      have f5 : u 5 = .pointer (some ⟨g1, 0, none⟩) := hf 5 (by simp)
      simp only [resOf, spec, RSpec.resAt, z0, z1, z2, z3, z4, z5, z6, z7, ptrBlk] at S ⊢
      simp only [f4, f5]
      refine ⟨rfl, ?_⟩
      refine does_load1 5 (.tmp 11) _ _ rfl (S.cell (g := g1) pk co) _ Tryd.underlying5 rfl ?_; exact ⟨rfl, S⟩
    · clear hi
      refine step_of_g rfl rfl ?_
      intro u G w hf S
      have f4 : u 4 = (.bool false) := hf 4 (by simp)
      simp only [resOf, spec, RSpec.resAt, z0, z1, z2, z3, z4, z5, z6, z7, ptrBlk] at S ⊢
      simp only [f4]
      refine ⟨rfl, ?_⟩
      simp only [does]
      go_simp
      try first | exact S | exact ⟨vv, S⟩ | exact vv
    · clear hi
      refine step_of_g rfl rfl ?_
      intro u G w hf S
      have f4 : u 4 = (.bool false) := hf 4 (by simp)
      have f7 : u 7 = .pointer (some ⟨g1, 1, none⟩) := hf 7 (by simp)
      simp only [resOf, spec, RSpec.resAt, z0, z1, z2, z3, z4, z5, z6, z7, ptrBlk] at S ⊢
      simp only [f4, f7]
      refine ⟨rfl, ?_⟩
      refine does_load1 24 (.tmp 13) _ _ rfl (S.cell (g := g1) pk co) _ Tryd.underlying24 rfl ?_; exact ⟨rfl, S⟩
    · clear hi
      refine step_of_g rfl rfl ?_
      intro u G w hf S
      have f4 : u 4 = (.bool false) := hf 4 (by simp)
      have f6 : u 6 = .int .u8 1 := hf 6 (by simp)
      have f8 : u 8 = .int .i64 0 := hf 8 (by simp)
      simp only [resOf, spec, RSpec.resAt, z0, z1, z2, z3, z4, z5, z6, z7, ptrBlk] at S ⊢
      simp only [f4, f6, f8]
      refine ⟨rfl, ?_⟩
      refine does_fn (args := [(.int .u8 1), (.int .i64 0)]) Tryd.func72 kR kR (P3.out w) rfl ?_
      rintro e w1 ⟨rfl, T⟩
      exact ⟨_, rfl, rfl, S.call T⟩
    · clear hi
      refine step_of_g rfl rfl ?_
      intro u G w hf S
      have f4 : u 4 = (.bool false) := hf 4 (by simp)
      have f9 : u 9 = .bool true := hf 9 (by simp)
      simp only [resOf, spec, RSpec.resAt, z0, z1, z2, z3, z4, z5, z6, z7, ptrBlk] at S ⊢
      simp only [f4, f9]
      refine ⟨rfl, ?_⟩
      simp only [does]
      go_simp
      try first | exact S | exact ⟨vv, S⟩ | exact vv
    · clear hi
      refine step_of rfl rfl rfl ?_
      intro u G w hf S
      have f4 : u 4 = (.bool false) := hf 4 (by simp)
      have f10 : u 10 = .bool false := hf 10 (by simp)
      simp only [resOf, spec, RSpec.resAt, z0, z1, z2, z3, z4, z5, z6, z7, ptrBlk] at S ⊢
      simp only [f4, f10]
      simp only [does]
      go_simp
      try first | exact S | exact ⟨vv, S⟩ | exact vv
    · clear hi
      refine step_of rfl rfl rfl ?_
      intro u G w hf S
      have f11 : u 11 = .bool false := hf 11 (by simp)
      simp only [resOf, spec, RSpec.resAt, z0, z1, z2, z3, z4, z5, z6, z7, ptrBlk] at S ⊢
      simp only [f11]
      simp only [does]
      go_simp
      try first | exact S | exact ⟨vv, S⟩ | exact vv
    · clear hi
      refine step_of_g rfl rfl ?_
      intro u G w hf S
      have f12 : u 12 = (.bool false) := hf 12 (by simp)
      simp only [resOf, spec, RSpec.resAt, z0, z1, z2, z3, z4, z5, z6, z7, ptrBlk] at S ⊢
      simp only [f12]
      refine ⟨rfl, ?_⟩
      simp only [does]
      go_simp
      try first | exact S | exact ⟨vv, S⟩ | exact vv
    · clear hi
      refine step_of_g rfl rfl ?_
      intro u G w hf S
      have f12 : u 12 = (.bool false) := hf 12 (by simp)
      have f13 : u 13 = .pointer (some ⟨g1, 2, none⟩) := hf 13 (by simp)
      simp only [resOf, spec, RSpec.resAt, z0, z1, z2, z3, z4, z5, z6, z7, ptrBlk] at S ⊢
      simp only [f12, f13]
      refine ⟨rfl, ?_⟩
      refine does_load1 23 (.tmp 19) _ _ rfl (S.cell (g := g1) pk co) _ Tryd.underlying23 rfl ?_; exact ⟨rfl, S⟩
    · clear hi
      refine step_of_g rfl rfl ?_
      intro u G w hf S
      have f12 : u 12 = (.bool false) := hf 12 (by simp)
      have f14 : u 14 = .int .u64 (t.toNat : Int) := hf 14 (by simp)
      simp only [resOf, spec, RSpec.resAt, z0, z1, z2, z3, z4, z5, z6, z7, ptrBlk] at S ⊢
      simp only [f12, f14]
      refine ⟨rfl, ?_⟩
      simp only [does]
      go_simp
      try first | exact S | exact ⟨vv, S⟩ | exact vv
    · clear hi
      refine step_of rfl rfl rfl ?_
      intro u G w hf S
      have f12 : u 12 = (.bool false) := hf 12 (by simp)
      have f15 : u 15 = .bool false := hf 15 (by simp)
      simp only [resOf, spec, RSpec.resAt, z0, z1, z2, z3, z4, z5, z6, z7, ptrBlk] at S ⊢
      simp only [f12, f15]
      simp only [does]
      go_simp
      try first | exact S | exact ⟨vv, S⟩ | exact vv
    · clear hi
      refine step_of rfl rfl rfl ?_
      intro u G w hf S
      have f16 : u 16 = .bool false := hf 16 (by simp)
      simp only [resOf, spec, RSpec.resAt, z0, z1, z2, z3, z4, z5, z6, z7, ptrBlk] at S ⊢
      simp only [f16]
      simp only [does]
      go_simp
      try first | exact S | exact ⟨vv, S⟩ | exact vv
    · clear hi
      refine step_of_g rfl rfl ?_
      intro u G w hf S
      have f17 : u 17 = (.bool false) := hf 17 (by simp)
      simp only [resOf, spec, RSpec.resAt, z0, z1, z2, z3, z4, z5, z6, z7, ptrBlk] at S ⊢
      simp only [f17]
      refine ⟨rfl, ?_⟩
      simp only [does]
      go_simp
      try first | exact S | exact ⟨vv, S⟩ | exact vv
    · clear hi
      refine step_of_g rfl rfl ?_
      intro u G w hf S
      have f17 : u 17 = (.bool false) := hf 17 (by simp)
      have f18 : u 18 = (ordV n) := hf 18 (by simp)
      simp only [resOf, spec, RSpec.resAt, z0, z1, z2, z3, z4, z5, z6, z7, ptrBlk] at S ⊢
      simp only [f17, f18]
      refine ⟨rfl, ?_⟩
      refine does_inv (.tmp 24) "dunnage/wire.valid" [] _ _ [] 141 _ rfl rfl (MV.out w) (P4.out w) ?_; rintro e w1 ⟨rfl, T⟩; exact ⟨_, rfl, rfl, S.call T⟩
    · clear hi
      refine step_of_g rfl rfl ?_
      intro u G w hf S
      have f17 : u 17 = (.bool false) := hf 17 (by simp)
      have f19 : u 19 = .bool true := hf 19 (by simp)
      simp only [resOf, spec, RSpec.resAt, z0, z1, z2, z3, z4, z5, z6, z7, ptrBlk] at S ⊢
      simp only [f17, f19]
      refine ⟨rfl, ?_⟩
      simp only [does]
      go_simp
      try first | exact S | exact ⟨vv, S⟩ | exact vv
    · clear hi
      refine step_of rfl rfl rfl ?_
      intro u G w hf S
      have f17 : u 17 = (.bool false) := hf 17 (by simp)
      have f20 : u 20 = .bool false := hf 20 (by simp)
      simp only [resOf, spec, RSpec.resAt, z0, z1, z2, z3, z4, z5, z6, z7, ptrBlk] at S ⊢
      simp only [f17, f20]
      simp only [does]
      go_simp
      try first | exact S | exact ⟨vv, S⟩ | exact vv
    · clear hi
      refine step_of rfl rfl rfl ?_
      intro u G w hf S
      have f21 : u 21 = .bool false := hf 21 (by simp)
      simp only [resOf, spec, RSpec.resAt, z0, z1, z2, z3, z4, z5, z6, z7, ptrBlk] at S ⊢
      simp only [f21]
      simp only [does]
      go_simp
      try first | exact S | exact ⟨vv, S⟩ | exact vv
    · clear hi
      refine step_of_g rfl rfl ?_
      intro u G w hf S
      have f22 : u 22 = (.bool false) := hf 22 (by simp)
      simp only [resOf, spec, RSpec.resAt, z0, z1, z2, z3, z4, z5, z6, z7, ptrBlk] at S ⊢
      simp only [f22]
      refine ⟨rfl, ?_⟩
      refine does_load 79 (.tmp 1) g1 rfl _ _ _ (S.get (r := blk g1 _) pk) _ Tryd.underlying79 rfl 46 kR lN ?_; exact ⟨rfl, S⟩
    · clear hi
      refine step_of_g rfl rfl ?_
      intro u G w hf S
      have f22 : u 22 = (.bool false) := hf 22 (by simp)
      simp only [resOf, spec, RSpec.resAt, z0, z1, z2, z3, z4, z5, z6, z7, ptrBlk] at S ⊢
      simp only [f22]
      refine ⟨rfl, ?_⟩
      refine does_load 79 (.tmp 1) g1 rfl _ _ _ (S.get (r := blk g1 _) pk) _ Tryd.underlying79 rfl 46 kR lN ?_; exact ⟨rfl, S⟩
    · clear hi
      refine step_of_g rfl rfl ?_
      intro u G w hf S
      have f22 : u 22 = (.bool false) := hf 22 (by simp)
      simp only [resOf, spec, RSpec.resAt, z0, z1, z2, z3, z4, z5, z6, z7, ptrBlk] at S ⊢
      simp only [f22]
      refine ⟨rfl, ?_⟩
      simp only [does]
      go_simp
      try first | exact S | exact ⟨vv, S⟩ | exact vv
    · clear hi
      refine step_of_g rfl rfl ?_
      intro u G w hf S
      have f22 : u 22 = (.bool false) := hf 22 (by simp)
      have f24 : u 24 = .agg (rpL R nilS nilS).toArray := hf 24 (by simp)
      have f25 : u 25 = (ordV n) := hf 25 (by simp)
      simp only [resOf, spec, RSpec.resAt, z0, z1, z2, z3, z4, z5, z6, z7, ptrBlk] at S ⊢
      simp only [f22, f24, f25]
      refine ⟨rfl, ?_⟩
      refine does_fn (args := [(.agg (rpL R nilS nilS).toArray), ((ordV n))]) Tryd.func70 kR kR (P5.out w) rfl ?_
      rintro e w1 ⟨rfl, T⟩
      exact ⟨_, rfl, rfl, S.call T⟩
    · clear hi
      refine step_of_g rfl rfl ?_
      intro u G w hf S
      have f22 : u 22 = (.bool false) := hf 22 (by simp)
      have f23 : u 23 = .agg (rpL R nilS nilS).toArray := hf 23 (by simp)
      have f26 : u 26 = .agg (rpL R nilS nilS).toArray := hf 26 (by simp)
      simp only [resOf, spec, RSpec.resAt, z0, z1, z2, z3, z4, z5, z6, z7, ptrBlk] at S ⊢
      simp only [f22, f23, f26]
      refine ⟨rfl, ?_⟩
      refine does_fn (args := [(.agg (rpL R nilS nilS).toArray), (.agg (rpL R nilS nilS).toArray)]) Tryd.func73 kR kR (P6.out w) rfl ?_
      rintro e w1 ⟨rfl, T⟩
      exact ⟨_, rfl, rfl, S.call T⟩
    · clear hi
      refine step_of_g rfl rfl ?_
      intro u G w hf S
      have f22 : u 22 = (.bool false) := hf 22 (by simp)
      have f27 : u 27 = .bool true := hf 27 (by simp)
      simp only [resOf, spec, RSpec.resAt, z0, z1, z2, z3, z4, z5, z6, z7, ptrBlk] at S ⊢
      simp only [f22, f27]
      refine ⟨rfl, ?_⟩
      simp only [does]
      go_simp
      try first | exact S | exact ⟨vv, S⟩ | exact vv
    · clear hi
      refine step_of rfl rfl rfl ?_
      intro u G w hf S
      have f22 : u 22 = (.bool false) := hf 22 (by simp)
      have f28 : u 28 = .bool false := hf 28 (by simp)
      simp only [resOf, spec, RSpec.resAt, z0, z1, z2, z3, z4, z5, z6, z7, ptrBlk] at S ⊢
      simp only [f22, f28]
      simp only [does]
      go_simp
      try first | exact S | exact ⟨vv, S⟩ | exact vv
  case fin1 =>
    intro u w hf S
    have f0 : u 0 = .pointer (some ⟨g1, 1, none⟩) := hf 0 (by simp)
    have f1 : u 1 = .int .i64 0 := hf 1 (by simp)
    have f2 : u 2 = .bool true := hf 2 (by simp)
    have f3 : u 3 = .bool false := hf 3 (by simp)
    have f4 : u 4 = (.bool false) := hf 4 (by simp)
    have f5 : u 5 = .pointer (some ⟨g1, 0, none⟩) := hf 5 (by simp)
    have f6 : u 6 = .int .u8 1 := hf 6 (by simp)
    have f7 : u 7 = .pointer (some ⟨g1, 1, none⟩) := hf 7 (by simp)
    have f8 : u 8 = .int .i64 0 := hf 8 (by simp)
    have f9 : u 9 = .bool true := hf 9 (by simp)
    have f10 : u 10 = .bool false := hf 10 (by simp)
    have f11 : u 11 = .bool false := hf 11 (by simp)
    have f12 : u 12 = (.bool false) := hf 12 (by simp)
    have f13 : u 13 = .pointer (some ⟨g1, 2, none⟩) := hf 13 (by simp)
    have f14 : u 14 = .int .u64 (t.toNat : Int) := hf 14 (by simp)
    have f15 : u 15 = .bool false := hf 15 (by simp)
    have f16 : u 16 = .bool false := hf 16 (by simp)
    have f17 : u 17 = (.bool false) := hf 17 (by simp)
    have f18 : u 18 = (ordV n) := hf 18 (by simp)
    have f19 : u 19 = .bool true := hf 19 (by simp)
    have f20 : u 20 = .bool false := hf 20 (by simp)
    have f21 : u 21 = .bool false := hf 21 (by simp)
    have f22 : u 22 = (.bool false) := hf 22 (by simp)
    have f23 : u 23 = .agg (rpL R nilS nilS).toArray := hf 23 (by simp)
    have f24 : u 24 = .agg (rpL R nilS nilS).toArray := hf 24 (by simp)
    have f25 : u 25 = (ordV n) := hf 25 (by simp)
    have f26 : u 26 = .agg (rpL R nilS nilS).toArray := hf 26 (by simp)
    have f27 : u 27 = .bool true := hf 27 (by simp)
    have f28 : u 28 = .bool false := hf 28 (by simp)
    have f29 : u 29 = .bool false := hf 29 (by simp)
    simp only [resOf, spec, RSpec.resAt, z0, z1, z2, z3, z4, z5, z6, z7, ptrBlk] at S
    clear hf
    simp only [List.length_cons, List.length_nil, Nat.zero_add, Nat.reduceAdd, List.drop_succ_cons, List.drop_zero, f0, f1, f2, f3, f4, f5, f6, f7, f8, f9, f10, f11, f12, f13, f14, f15, f16, f17, f18, f19, f20, f21, f22, f23, f24, f25, f26, f27, f28, f29]
    clear f0 f1 f2 f3 f4 f5 f6 f7 f8 f9 f10 f11 f12 f13 f14 f15 f16 f17 f18 f19 f20 f21 f22 f23 f24 f25 f26 f27 f28 f29
    go_wp2_with (first | ((with_reducible refine iD 1 (.box 79 (.tmp 0)) ?_); refine step_boxA (dst := some 1) S 79 (.tmp 0) _ rfl gw ?_; clear S; intro g1 w S) | ((with_reducible refine iO _ (.load 79 _) ?_); first | (refine step_load S 79 _ _ rfl _ _ _ pk _ Tryd.underlying79 rfl 46 kR lN gw ?_) | (refine step_loadO 79 _ _ rfl _ _ _ (S.old_heap (Hid.out (by assumption))) _ Tryd.underlying79 rfl 46 kR lN gw ?_) | (refine step_loadR 79 _ _ _ rfl _ (S.old_range hy) _ Tryd.underlying79 rfl 46 kR lN _ rfl gw ?_)) | ((with_reducible refine iO _ (.load 24 _) ?_); refine step_load1 24 _ _ _ rfl (cL) _ Tryd.underlying24 rfl gw ?_) | ((with_reducible refine iO _ (.load 5 _) ?_); refine step_load1 5 _ _ _ rfl (cL) _ Tryd.underlying5 rfl gw ?_) | ((with_reducible refine iO _ (.load 23 _) ?_); refine step_load1 23 _ _ _ rfl (cL) _ Tryd.underlying23 rfl gw ?_) | fail)
    go_ret
    exact ⟨rfl, S.nil⟩
set_option maxRecDepth 100000 in
set_option maxHeartbeats 1000000 in
theorem orderWrite_s (n : I64) (h : 0 ≤ n.v ∧ n.v ≤ 65535) (g : Nat) (v : Value) (xs : List UInt8) (w0 w1 : World) (F : List Res) (S : Has w0 w1 (wrt g v :: row8 v xs :: F)) (hl : xs.length + 8 ≤ 140737488355328) :
    Calls Tryd.prog 142 #[.int .i64 n.v, .pointer (some ⟨g, 0, none⟩)] w1 (Wrote w0 g (xs ++ numB n.v.toNat 2) F) := by
  have p1 := fun v w F S => wuint_i n.v n.v.toNat (by omega) 2 2 rfl g v xs w0 w F S (by omega) (by decide) (by omega)
  have e1 : n.v % 18446744073709551616 = n.v := by omega
  have e2 : IntKind.u64.wrap n.v = n.v := by rw [IntKind.wrap_u64]; omega
  have P1 := Lib.hid p1; clear p1
  go_enter Tryd.func142, Tryd.ntmps142
  go_wp2_with (first | (go_at_call 48; (with_reducible refine (P1.out v _ _ S).mono ?_); rintro e w1 ⟨rfl, v1, S1⟩) | fail)
  go_end0
  exact ⟨rfl, v1, S1⟩
/-- The encoding of such a reply. -/
def encO (t : UInt64) (n : I64) : List UInt8 := frm ((([] ++ numB 1 1) ++ numB 0 2) ++ numB t.toNat 8 ++ numB n.v.toNat 2)
set_option maxRecDepth 100000 in
set_option maxHeartbeats 8000000 in
theorem encodeReplyO_s (t : UInt64) (n : I64) (ht : t.toNat ≤ 4611686018427387904) (hn : 0 ≤ n.v ∧ n.v ≤ 65535) (w0 : World) :
    Calls Tryd.prog 38 #[.agg (rpL (rpO t n) nilS nilS).toArray] w0 (MadeE w0 (encO t n) 0) := by
  have S := Has.start w0
  have c := cellsO t n
  obtain ⟨d0, d1, d2, d3, d4, d5, d6, d7, d8, d9⟩ := c
  have hck := fun w => checkReplyO_s t n ht hn w
  have hrb := fun w => replyBodyO_s t n w
  have htl := t.toNat_lt
  unfold encO
  have p1 := fun g v w F S => wuint_i 1 1 rfl 1 1 rfl g v [] w0 w F S (by decide) (by decide) (by decide)
  have l1 : (([] : List UInt8) ++ numB 1 1).length = 1 := by rw [List.nil_append, numB_length]
  obtain ⟨X1, hX1⟩ : ∃ X, X = [] ++ numB 1 1 := ⟨_, rfl⟩
  rw [← hX1] at p1 l1 ⊢
  have p2 := fun g v w F S => wuint_i 0 0 rfl 2 2 rfl g v X1 w0 w F S (by decide) (by decide) (by omega)
  have l2 : (X1 ++ numB 0 2).length = 3 := by rw [List.length_append, numB_length]; omega
  obtain ⟨X2, hX2⟩ : ∃ X, X = X1 ++ numB 0 2 := ⟨_, rfl⟩
  rw [← hX2] at p2 l2 ⊢
  have p3 := fun g v w F S => wuint_i (t.toNat : Int) t.toNat rfl 8 8 rfl g v X2 w0 w F S (by omega) (by decide) (by omega)
  have l3 : (X2 ++ numB t.toNat 8).length = 11 := by rw [List.length_append, numB_length]; omega
  obtain ⟨X3, hX3⟩ : ∃ X, X = X2 ++ numB t.toNat 8 := ⟨_, rfl⟩
  rw [← hX3] at p3 l3 ⊢
  have p4 := fun g v w F S => orderWrite_s n hn g v X3 w0 w F S (by omega)
  have l4 : (X3 ++ numB n.v.toNat 2).length = 13 := by rw [List.length_append, numB_length]; omega
  obtain ⟨X4, hX4⟩ : ∃ X, X = X3 ++ numB n.v.toNat 2 := ⟨_, rfl⟩
  rw [← hX4] at p4 l4 ⊢
  have p5 := fun g v w h1 h2 => framed_s g v X4 w h1 h2 (by omega)
  have mv : ∀ (u : Value) w, (callMethod (ordV n) "dunnage/wire.write" #[u]).run Tryd.prog w = .ok (.enter 142 #[.int .i64 n.v, u]) w := fun u w => by kernel_rfl
  obtain ⟨R, hR⟩ : ∃ R, R = rpO t n := ⟨_, rfl⟩
  rw [← hR] at d0 d1 d2 hck hrb ⊢
  have D0 := Lib.hid d0; have D1 := Lib.hid d1; have D2 := Lib.hid d2; have HCK := Lib.hid hck; have HRB := Lib.hid hrb; have P1 := Lib.hid p1; have P2 := Lib.hid p2; have P3 := Lib.hid p3; have P4 := Lib.hid p4; have P5 := Lib.hid p5; have MV := Lib.hid mv; have HN := Lib.hid hn; clear d0 d1 d2 hck hrb p1 p2 p3 p4 p5 mv hn
  clear hR d3 d4 d5 d6 d7 d8 d9 hX1 hX2 hX3 hX4 l1 l2 l3 l4 ht
  go_enter Tryd.func38, Tryd.ntmps38
  go_wp2_with (first | (go_at_call 48; (with_reducible refine (P1.out g12 (.slice none 0 0) _ _ (S.nil8.pick2 (r := wrt g12 (.slice none 0 0)) (s := row8 (.slice none 0 0) []) pk pk)).mono ?_); rintro e w1 ⟨rfl, v1, S1⟩; clear S; have S := S1; clear S1; have _t := P1; clear P1) | (go_at_call 48; (with_reducible refine (P2.out g12 v1 _ _ S).mono ?_); rintro e w1 ⟨rfl, v2, S1⟩; clear S; have S := S1; clear S1) | (go_at_call 48; (with_reducible refine (P3.out g12 v2 _ _ S).mono ?_); rintro e w1 ⟨rfl, v3, S1⟩; clear S; have S := S1; clear S1) | ((with_reducible refine iD 30 (.call _) ?_); refine step_inv (.tmp 28) "dunnage/wire.write" [.tmp 29] _ _ [.pointer (some ⟨g12, 0, none⟩)] 142 _ rfl rfl (MV.out _ _) (P4.out g12 v3 _ _ S) gw ?_; rintro e w1 ⟨rfl, v4, S1⟩; refine .inl ⟨_, rfl, ?_⟩; clear S; have S := S1; clear S1) | ((with_reducible refine iD 1 (.box 79 (.tmp 0)) ?_); refine step_boxA (dst := some 1) S 79 (.tmp 0) _ rfl rfl ?_; clear S; intro g1 w S) | ((with_reducible refine iO _ (.load 79 _) ?_); first | (refine step_load S 79 _ _ rfl _ _ _ pk _ Tryd.underlying79 rfl 46 kR lN rfl ?_) | (refine step_loadO 79 _ _ rfl _ _ _ (S.old_heap (Hid.out (by assumption))) _ Tryd.underlying79 rfl 46 kR lN rfl ?_) | (refine step_loadR 79 _ _ _ rfl _ (S.old_range hy) _ Tryd.underlying79 rfl 46 kR lN _ rfl rfl ?_)) | (go_at_call 41; (with_reducible refine (HCK.out _).mono ?_); rintro e w1 ⟨rfl, T⟩; replace S := S.call T; clear T; (try simp only [z4, z5] at S)) | ((with_reducible refine iD 11 (.build 104 _) ?_); refine step_buildZ 104 (.agg (#[.slice none 0 0])) (fun w => by kernel_rfl) rfl ?_) | ((with_reducible refine iD 12 (.box 104 (.tmp 11)) ?_); refine step_boxA (dst := some 12) S 104 (.tmp 11) _ rfl rfl ?_; clear S; intro g12 w S) | ((with_reducible refine iO _ (.load 5 _) ?_); refine step_load1 5 _ _ _ rfl (cL) _ Tryd.underlying5 rfl rfl ?_) | ((with_reducible refine iO _ (.load 24 _) ?_); refine step_load1 24 _ _ _ rfl (cL) _ Tryd.underlying24 rfl rfl ?_) | ((with_reducible refine iO _ (.load 23 _) ?_); refine step_load1 23 _ _ _ rfl (cL) _ Tryd.underlying23 rfl rfl ?_) | (go_at_call 68; (with_reducible refine (HRB.out _).mono ?_); rintro e w1 ⟨rfl, T⟩; replace S := S.call T; clear T; (try simp only [z4, z5] at S)) | (go_at_call 58; (with_reducible refine (P5.out g12 v4 _ (S.cell (g := g12) pk rfl) (S.bs (xs := X4) pk)).mono ?_); rintro e w1 ⟨v5, rfl, T⟩; replace S := S.call T; clear T; (try simp only [z4, z5] at S)) | fail)
  go_ret2
  exact ⟨_, rfl, S.sub (by repeat (first | exact Sub.nil _ | refine Sub.cons pk ?_))⟩
end Go.Proofs.YtfhkmmagpnojmaaDoor
