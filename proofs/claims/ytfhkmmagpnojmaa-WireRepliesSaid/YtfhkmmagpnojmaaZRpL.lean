/- WireReplies' walk. No condition but the reach. -/
import Derived.Test.YtfhkmmagpnojmaaZBd
import Derived.Test.YtfhkmmagpnojmaaZRfD
set_option linter.unusedSimpArgs false
set_option linter.unusedVariables false
namespace Go.Proofs.Ytfhkmmagpnojmaa
open Go.RowKit

set_option maxRecDepth 100000 in
set_option maxHeartbeats 32000000 in
theorem wireReplies_walk (r : Rp) (vr vc v : Value) (b : List UInt8) (w0 : World) (hvr : Sl w0 3 vr r.robots.length (r.robots.flatMap sgtL)) (hvc : Sl w0 35 vc r.records.length (r.records.flatMap rcdL)) (hl1 : r.robots.length * 24 ≤ 140737488351232 ∧ r.records.length * 56 ≤ 140737488351232) (h : Bs w0 v b) (hl : b.length ≤ 140737488355328) :
    Calls Try.prog 5 #[.agg (rpL r vr vc).toArray, v] w0 fun e w' => e = .returned (.bool true) ∧ Has w0 w' [] := by
  have S := Has.start w0
  obtain ⟨a0, c0, rfl, k1, k2⟩ := Sl.shape h
  unfold maxLen at k2
  have hone := rpL_one r vr vc (one_sl hvr).1 (one_sl hvc).1
  have p0 := fun w h1 h2 => twinReply_s r vr vc w h1 h2 (by omega) (by omega)
  have p1 := fun ur uc w h1 h2 => encodeReply_s r ur uc w h1 h2
  have p2 := fun w h1 h2 => replyEncoded_s r vr vc w h1 h2
  have p3 := fun ur uc w h1 h2 => checkReply_s r ur uc w h1 h2
  have p4 := fun w h1 h2 => refCheckReply_s r vr vc w h1 h2
  have p5 := fun v w h => decodeReply_s v b w h hl
  have p6 := fun v w h => refDecodeReply_s v b w h hl
  have p7 := fun ur uc w h1 h2 h3 h4 => refSameReply_s r r ur uc vr vc w h1 h2 h3 h4
  have p8 := fun ur uc yr yc w h1 h2 h3 h4 => refSameReply_s (dpR b) (dpR b) ur uc yr yc w h1 h2 h3 h4
  have hbl : ([] : List UInt8).length + b.length ≤ 140737488355328 := by simpa using hl
  simp only [decide_true] at p7 p8
  obtain ⟨X, hX⟩ : ∃ X, X = encRp r := ⟨_, rfl⟩
  obtain ⟨E, hE⟩ : ∃ X, X = rpE r := ⟨_, rfl⟩
  obtain ⟨D, hD⟩ : ∃ X, X = dpR b := ⟨_, rfl⟩
  obtain ⟨DE, hDE⟩ : ∃ X, X = dpE b := ⟨_, rfl⟩
  rw [← hX, ← hE] at p2
  simp only [← hX, ← hE] at p1
  simp only [← hE] at p3
  rw [← hE] at p4
  rw [← hD] at p8
  rw [← hD, ← hDE] at p5 p6
  unfold MadeRp at p5 p6
  have H := Lib.hid h; have P0 := Lib.hid p0; have P1 := Lib.hid p1; have P2 := Lib.hid p2; have P3 := Lib.hid p3; have P4 := Lib.hid p4; have P5 := Lib.hid p5; have P6 := Lib.hid p6; have P7 := Lib.hid p7; have P8 := Lib.hid p8; have HVR := Lib.hid hvr; have HVC := Lib.hid hvc; have HONE := Lib.hid hone; have HBL := Lib.hid hbl; clear h p0 p1 p2 p3 p4 p5 p6 p7 p8 hvr hvc hone hbl
  clear hX hE hD hDE hl1
  go_enter Try.func5, Try.ntmps5
  go_upto_region 4 with (first | ((with_reducible refine iD 2 (.box 53 (.tmp 0)) ?_); refine step_boxA (dst := some 2) S 53 (.tmp 0) _ rfl gw ?_; clear S; intro g2 w S) | (go_at_call 16; (with_reducible refine (P0.out _ (S.old HVR.out) (S.old HVC.out)).mono ?_); rintro e w1 ⟨ur, uc, rfl, T⟩; replace S := S.call T; clear T; (try simp only [z4, z5] at S); have OU := Lib.hid (rpL_one r ur uc (one_sl (S.sl (v := ur) pk)).1 (one_sl (S.sl (v := uc) pk)).1)) | ((with_reducible refine iO none (.store 53 (.tmp 5) (.tmp 14)) ?_); refine step_store S 53 (.tmp 5) (.tmp 14) g5 _ rfl rfl _ _ pk 46 kR (rpL_size _ _ _) (rpL_size _ _ _) OU.out gw ?_; clear S; intro w S) | ((with_reducible refine iD 2 (.box 53 (.tmp 0)) ?_); refine step_boxA (dst := some 2) S 53 (.tmp 0) _ rfl gw ?_; clear S; intro g2 w S) | ((with_reducible refine iO _ (.load 53 _) ?_); first | (refine step_load S 53 _ _ rfl _ _ _ pk _ Try.underlying53 rfl 46 kR lN gw ?_) | (refine step_loadO 53 _ _ rfl _ _ _ (S.old_heap (Hid.out (by assumption))) _ Try.underlying53 rfl 46 kR lN gw ?_) | (refine step_loadR 53 _ _ _ rfl _ (S.old_range hy) _ Try.underlying53 rfl 46 kR lN _ rfl gw ?_)) | ((with_reducible refine iD 5 (.alloc 53) ?_); refine step_alloc (dst := some 5) S 53 (.agg ((rpL rpZ (.slice none 0 0) (.slice none 0 0)).toArray)) ((rpL rpZ (.slice none 0 0) (.slice none 0 0)).toArray) kR rfl gw ?_; clear S; intro g5 w S) | ((with_reducible refine iO none (.store 53 (.tmp 5) (.tmp 14)) ?_); refine step_store S 53 (.tmp 5) (.tmp 14) _ _ rfl rfl _ _ pk 46 kR lN lN on1 gw ?_; clear S; intro w S) | (go_at_call 17; (with_reducible refine (P1.out ur uc _ (S.sl (v := ur) pk) (S.sl (v := uc) pk)).mono ?_); rintro e w1 ⟨v17, rfl, T⟩; replace S := S.call T; clear T; (try simp only [z4, z5] at S)) | (go_at_call 18; (with_reducible refine (P2.out _ (S.old HVR.out) (S.old HVC.out)).mono ?_); rintro e w1 ⟨v22, rfl, T⟩; replace S := S.call T; clear T; (try simp only [z4, z5] at S)) | ((with_reducible refine iO _ (.convert 22 9 _) ?_); refine step_conv 22 9 5 _ _ _ rfl Try.underlying22 Try.underlying5 Try.underlying9 bS gw ?_) | ((with_reducible refine iD 48 (.buildSlice 22 0 _) ?_); refine step_build8 S 0 _ [] (by first | rfl | kernel_rfl) rfl (by decide) gw ?_; clear S; intro v48 w S) | (at_builtin; refine step_append8 S (.tmp 48) (.tmp 49) _ _ rfl pk _ _ rfl bS lE gw ?_; clear S; intro v50 w S; (try simp only [z4] at S)) | ((with_reducible refine iD 11 (.alloc 53) ?_); refine step_alloc (dst := some 11) S 53 (.agg ((rpL rpZ (.slice none 0 0) (.slice none 0 0)).toArray)) ((rpL rpZ (.slice none 0 0) (.slice none 0 0)).toArray) kR rfl gw ?_; clear S; intro g11 w S) | ((with_reducible refine iO none (.store 53 (.tmp 11) (.tmp 54)) ?_); refine step_store S 53 (.tmp 11) (.tmp 54) _ _ rfl rfl _ _ pk 46 kR lN lN on1 gw ?_; clear S; intro w S) | ((with_reducible refine iD 12 (.alloc 53) ?_); refine step_alloc (dst := some 12) S 53 (.agg ((rpL rpZ (.slice none 0 0) (.slice none 0 0)).toArray)) ((rpL rpZ (.slice none 0 0) (.slice none 0 0)).toArray) kR rfl gw ?_; clear S; intro g12 w S) | ((with_reducible refine iO none (.store 53 (.tmp 12) (.tmp 59)) ?_); refine step_store S 53 (.tmp 12) (.tmp 59) _ _ rfl rfl _ _ pk 46 kR lN lN on1 gw ?_; clear S; intro w S) | fail)
  refine wp_rely S [⟨[], [], [], fun _ v => v = .agg (rpL r ur uc).toArray, fun _ v => []⟩, ⟨[0], [], [], fun _ v => v = .int .i64 E, fun _ v => []⟩, ⟨[], [], [], fun _ v => v = .agg (rpL r vr vc).toArray, fun _ v => []⟩, ⟨[0, 1, 2], [], [], fun _ v => v = .int .i64 E, fun _ v => []⟩, ⟨[0, 1, 2, 3], [], [], fun _ v => v = .bool false, fun _ v => []⟩, ⟨[0, 1, 2, 3, 4], [], [], fun _ v => v = (.bool false), fun _ v => []⟩, ⟨[0, 1, 2, 3, 4, 5], [], [], fun _ v => v = (v17), fun _ v => []⟩, ⟨[0, 1, 2, 3, 4, 5, 6], [], [], fun _ v => v = .string (strB X), fun _ v => []⟩, ⟨[0, 1, 2, 3, 4, 5], [], [], fun _ v => v = (v22), fun _ v => []⟩, ⟨[0, 1, 2, 3, 4, 5, 8], [], [], fun _ v => v = .string (strB X), fun _ v => []⟩, ⟨[0, 1, 2, 3, 4, 5, 6, 7, 8, 9], [], [], fun _ v => v = .bool false, fun _ v => []⟩, ⟨[0, 1, 2, 3, 4, 5, 6, 7, 8, 9, 10], [], [], fun _ v => v = .bool false, fun _ v => []⟩, ⟨[0, 1, 2, 3, 4, 5, 6, 7, 8, 9, 10, 11], [], [], fun _ v => v = (.bool false), fun _ v => []⟩, ⟨[0, 1, 2, 3, 4, 5, 6, 7, 8, 9, 10, 11, 12], [], [], fun _ v => v = (.int .i64 E), fun _ v => []⟩, ⟨[0, 1, 2, 3, 4, 5, 6, 7, 8, 9, 10, 11, 12], [], [], fun _ v => v = (.int .i64 E), fun _ v => []⟩, ⟨[0, 1, 2, 3, 4, 5, 6, 7, 8, 9, 10, 11, 12, 13, 14], [], [], fun _ v => v = .bool false, fun _ v => []⟩, ⟨[0, 1, 2, 3, 4, 5, 6, 7, 8, 9, 10, 11, 12, 13, 14, 15], [], [], fun _ v => v = .bool false, fun _ v => []⟩, ⟨[0, 1, 2, 3, 4, 5, 6, 7, 8, 9, 10, 11, 12, 13, 14, 15, 16], [], [], fun _ v => v = (.bool false), fun _ v => []⟩, ⟨[0, 1, 2, 3, 4, 5, 6, 7, 8, 9, 10, 11, 12, 13, 14, 15, 16, 17], [], [], fun _ v => v = .agg (rpL r ur uc).toArray, fun _ v => []⟩, ⟨[0, 1, 2, 3, 4, 5, 6, 7, 8, 9, 10, 11, 12, 13, 14, 15, 16, 17], [], [], fun _ v => v = .agg (rpL r vr vc).toArray, fun _ v => []⟩, ⟨[0, 1, 2, 3, 4, 5, 6, 7, 8, 9, 10, 11, 12, 13, 14, 15, 16, 17, 18, 19], [], [], fun _ v => v = .bool true, fun _ v => []⟩, ⟨[0, 1, 2, 3, 4, 5, 6, 7, 8, 9, 10, 11, 12, 13, 14, 15, 16, 17, 18, 19, 20], [], [], fun _ v => v = .bool false, fun _ v => []⟩, ⟨[0, 1, 2, 3, 4, 5, 6, 7, 8, 9, 10, 11, 12, 13, 14, 15, 16, 17, 18, 19, 20, 21], [], [], fun _ v => v = .bool false, fun _ v => []⟩] ?A1 ?hA1 kR kR kR [0, 1, 2, 3, 4, 5, 6, 7, 8, 9, 10, 11, 12, 13, 14, 15, 16, 17, 18, 19, 20, 21, 22] kR ?hok1 ?fin1
  case hA1 => intro u; simp only [putAll, List.length_cons, List.length_nil, Nat.zero_add, Nat.reduceAdd, dstAt, List.getElem?_toArray, List.getElem?_cons_zero, List.getElem?_cons_succ, Option.bind_some, Act.put, List.setIfInBounds_toArray, List.set_cons_zero, List.set_cons_succ]; rfl
  case hok1 =>
    intro i hi
    obtain rfl | rfl | rfl | rfl | rfl | rfl | rfl | rfl | rfl | rfl | rfl | rfl | rfl | rfl | rfl | rfl | rfl | rfl | rfl | rfl | rfl | rfl | rfl : i = 0 ∨ i = 1 ∨ i = 2 ∨ i = 3 ∨ i = 4 ∨ i = 5 ∨ i = 6 ∨ i = 7 ∨ i = 8 ∨ i = 9 ∨ i = 10 ∨ i = 11 ∨ i = 12 ∨ i = 13 ∨ i = 14 ∨ i = 15 ∨ i = 16 ∨ i = 17 ∨ i = 18 ∨ i = 19 ∨ i = 20 ∨ i = 21 ∨ i = 22 := by simp only [List.length_cons, List.length_nil, Nat.zero_add, Nat.reduceAdd] at hi; omega
    · clear hi
      refine step_of rfl rfl rfl ?_
      intro u G w hf S
      simp only [resOf, spec, RSpec.resAt, z0, z1, z2, z3, z4, z5, z6, z7, ptrBlk] at S ⊢
      refine does_load 53 (.tmp 5) g5 rfl _ _ _ (S.get (r := blk g5 _) pk) _ Try.underlying53 rfl 46 kR lN ?_; exact ⟨rfl, S⟩
    · clear hi
      refine step_of rfl rfl rfl ?_
      intro u G w hf S
      have f0 : u 0 = .agg (rpL r ur uc).toArray := hf 0 (by simp)
      simp only [resOf, spec, RSpec.resAt, z0, z1, z2, z3, z4, z5, z6, z7, ptrBlk] at S ⊢
      simp only [f0]
      refine does_fn (args := [(.agg (rpL r ur uc).toArray)]) Try.func19 kR kR (P3.out ur uc w (S.sl (v := ur) pk) (S.sl (v := uc) pk)) rfl ?_
      rintro e w1 ⟨rfl, T⟩
      exact ⟨_, rfl, rfl, S.call T⟩
    · clear hi
      refine step_of rfl rfl rfl ?_
      intro u G w hf S
      simp only [resOf, spec, RSpec.resAt, z0, z1, z2, z3, z4, z5, z6, z7, ptrBlk] at S ⊢
      refine does_load 53 (.tmp 2) g2 rfl _ _ _ (S.get (r := blk g2 _) pk) _ Try.underlying53 rfl 46 kR lN ?_; exact ⟨rfl, S⟩
    · clear hi
      refine step_of rfl rfl rfl ?_
      intro u G w hf S
      have f2 : u 2 = .agg (rpL r vr vc).toArray := hf 2 (by simp)
      simp only [resOf, spec, RSpec.resAt, z0, z1, z2, z3, z4, z5, z6, z7, ptrBlk] at S ⊢
      simp only [f2]
      refine does_fn (args := [(.agg (rpL r vr vc).toArray)]) Try.func20 kR kR (P4.out w (S.old HVR.out) (S.old HVC.out)) rfl ?_
      rintro e w1 ⟨rfl, T⟩
      exact ⟨_, rfl, rfl, S.call T⟩
    · clear hi
      refine step_of rfl rfl rfl ?_
      intro u G w hf S
      have f1 : u 1 = .int .i64 E := hf 1 (by simp)
      have f3 : u 3 = .int .i64 E := hf 3 (by simp)
      simp only [resOf, spec, RSpec.resAt, z0, z1, z2, z3, z4, z5, z6, z7, ptrBlk] at S ⊢
      simp only [f1, f3]
      simp only [does]
      go_simp
      try first | exact S | exact ⟨vv, S⟩ | exact vv
    · clear hi
      refine step_of rfl rfl rfl ?_
      intro u G w hf S
      have f4 : u 4 = .bool false := hf 4 (by simp)
      simp only [resOf, spec, RSpec.resAt, z0, z1, z2, z3, z4, z5, z6, z7, ptrBlk] at S ⊢
      simp only [f4]
      simp only [does]
      go_simp
      try first | exact S | exact ⟨vv, S⟩ | exact vv
    · clear hi
      refine step_of_g rfl rfl ?_
      intro u G w hf S
      have f5 : u 5 = (.bool false) := hf 5 (by simp)
      simp only [resOf, spec, RSpec.resAt, z0, z1, z2, z3, z4, z5, z6, z7, ptrBlk] at S ⊢
      simp only [f5]
      refine ⟨rfl, ?_⟩
      simp only [does]
      go_simp
      try first | exact S | exact ⟨vv, S⟩ | exact vv
    · clear hi
      refine step_of_g rfl rfl ?_
      intro u G w hf S
      have f5 : u 5 = (.bool false) := hf 5 (by simp)
      have f6 : u 6 = (v17) := hf 6 (by simp)
      simp only [resOf, spec, RSpec.resAt, z0, z1, z2, z3, z4, z5, z6, z7, ptrBlk] at S ⊢
      simp only [f5, f6]
      refine ⟨rfl, ?_⟩
      refine does_conv 22 9 5 (.tmp 31) _ _ rfl Try.underlying22 Try.underlying5 Try.underlying9 (S.bs (v := v17) (xs := X) pk) ?_; exact ⟨rfl, S⟩
    · clear hi
      refine step_of_g rfl rfl ?_
      intro u G w hf S
      have f5 : u 5 = (.bool false) := hf 5 (by simp)
      simp only [resOf, spec, RSpec.resAt, z0, z1, z2, z3, z4, z5, z6, z7, ptrBlk] at S ⊢
      simp only [f5]
      refine ⟨rfl, ?_⟩
      simp only [does]
      go_simp
      try first | exact S | exact ⟨vv, S⟩ | exact vv
    · clear hi
      refine step_of_g rfl rfl ?_
      intro u G w hf S
      have f5 : u 5 = (.bool false) := hf 5 (by simp)
      have f8 : u 8 = (v22) := hf 8 (by simp)
      simp only [resOf, spec, RSpec.resAt, z0, z1, z2, z3, z4, z5, z6, z7, ptrBlk] at S ⊢
      simp only [f5, f8]
      refine ⟨rfl, ?_⟩
      refine does_conv 22 9 5 (.tmp 33) _ _ rfl Try.underlying22 Try.underlying5 Try.underlying9 (S.bs (v := v22) (xs := X) pk) ?_; exact ⟨rfl, S⟩
    · clear hi
      refine step_of_g rfl rfl ?_
      intro u G w hf S
      have f5 : u 5 = (.bool false) := hf 5 (by simp)
      have f7 : u 7 = .string (strB X) := hf 7 (by simp)
      have f9 : u 9 = .string (strB X) := hf 9 (by simp)
      simp only [resOf, spec, RSpec.resAt, z0, z1, z2, z3, z4, z5, z6, z7, ptrBlk] at S ⊢
      simp only [f5, f7, f9]
      refine ⟨rfl, ?_⟩
      simp only [does]
      go_simp
      try first | exact S | exact ⟨vv, S⟩ | exact vv
    · clear hi
      refine step_of rfl rfl rfl ?_
      intro u G w hf S
      have f5 : u 5 = (.bool false) := hf 5 (by simp)
      have f10 : u 10 = .bool false := hf 10 (by simp)
      simp only [resOf, spec, RSpec.resAt, z0, z1, z2, z3, z4, z5, z6, z7, ptrBlk] at S ⊢
      simp only [f5, f10]
      simp only [does]
      go_simp
      try first | exact S | exact ⟨vv, S⟩ | exact vv
    · clear hi
      refine step_of rfl rfl rfl ?_
      intro u G w hf S
      have f11 : u 11 = .bool false := hf 11 (by simp)
      simp only [resOf, spec, RSpec.resAt, z0, z1, z2, z3, z4, z5, z6, z7, ptrBlk] at S ⊢
      simp only [f11]
      simp only [does]
      go_simp
      try first | exact S | exact ⟨vv, S⟩ | exact vv
    · clear hi
      refine step_of_g rfl rfl ?_
      intro u G w hf S
      have f12 : u 12 = (.bool false) := hf 12 (by simp)
      simp only [resOf, spec, RSpec.resAt, z0, z1, z2, z3, z4, z5, z6, z7, ptrBlk] at S ⊢
      simp only [f12]
      refine ⟨rfl, ?_⟩
      simp only [does]
      go_simp
      try first | exact S | exact ⟨vv, S⟩ | exact vv
    · clear hi
      refine step_of_g rfl rfl ?_
      intro u G w hf S
      have f12 : u 12 = (.bool false) := hf 12 (by simp)
      simp only [resOf, spec, RSpec.resAt, z0, z1, z2, z3, z4, z5, z6, z7, ptrBlk] at S ⊢
      simp only [f12]
      refine ⟨rfl, ?_⟩
      simp only [does]
      go_simp
      try first | exact S | exact ⟨vv, S⟩ | exact vv
    · clear hi
      refine step_of_g rfl rfl ?_
      intro u G w hf S
      have f12 : u 12 = (.bool false) := hf 12 (by simp)
      have f13 : u 13 = (.int .i64 E) := hf 13 (by simp)
      have f14 : u 14 = (.int .i64 E) := hf 14 (by simp)
      simp only [resOf, spec, RSpec.resAt, z0, z1, z2, z3, z4, z5, z6, z7, ptrBlk] at S ⊢
      simp only [f12, f13, f14]
      refine ⟨rfl, ?_⟩
      simp only [does]
      go_simp
      try first | exact S | exact ⟨vv, S⟩ | exact vv
    · clear hi
      refine step_of rfl rfl rfl ?_
      intro u G w hf S
      have f12 : u 12 = (.bool false) := hf 12 (by simp)
      have f15 : u 15 = .bool false := hf 15 (by simp)
      simp only [resOf, spec, RSpec.resAt, z0, z1, z2, z3, z4, z5, z6, z7, ptrBlk] at S ⊢
      simp only [f12, f15]
      simp only [does]
      go_simp
      try first | exact S | exact ⟨vv, S⟩ | exact vv
    · clear hi
      refine step_of rfl rfl rfl ?_
      intro u G w hf S
      have f16 : u 16 = .bool false := hf 16 (by simp)
      simp only [resOf, spec, RSpec.resAt, z0, z1, z2, z3, z4, z5, z6, z7, ptrBlk] at S ⊢
      simp only [f16]
      simp only [does]
      go_simp
      try first | exact S | exact ⟨vv, S⟩ | exact vv
    · clear hi
      refine step_of_g rfl rfl ?_
      intro u G w hf S
      have f17 : u 17 = (.bool false) := hf 17 (by simp)
      simp only [resOf, spec, RSpec.resAt, z0, z1, z2, z3, z4, z5, z6, z7, ptrBlk] at S ⊢
      simp only [f17]
      refine ⟨rfl, ?_⟩
      refine does_load 53 (.tmp 5) g5 rfl _ _ _ (S.get (r := blk g5 _) pk) _ Try.underlying53 rfl 46 kR lN ?_; exact ⟨rfl, S⟩
    · clear hi
      refine step_of_g rfl rfl ?_
      intro u G w hf S
      have f17 : u 17 = (.bool false) := hf 17 (by simp)
      simp only [resOf, spec, RSpec.resAt, z0, z1, z2, z3, z4, z5, z6, z7, ptrBlk] at S ⊢
      simp only [f17]
      refine ⟨rfl, ?_⟩
      refine does_load 53 (.tmp 2) g2 rfl _ _ _ (S.get (r := blk g2 _) pk) _ Try.underlying53 rfl 46 kR lN ?_; exact ⟨rfl, S⟩
    · clear hi
      refine step_of_g rfl rfl ?_
      intro u G w hf S
      have f17 : u 17 = (.bool false) := hf 17 (by simp)
      have f18 : u 18 = .agg (rpL r ur uc).toArray := hf 18 (by simp)
      have f19 : u 19 = .agg (rpL r vr vc).toArray := hf 19 (by simp)
      simp only [resOf, spec, RSpec.resAt, z0, z1, z2, z3, z4, z5, z6, z7, ptrBlk] at S ⊢
      simp only [f17, f18, f19]
      refine ⟨rfl, ?_⟩
      refine does_fn (args := [(.agg (rpL r ur uc).toArray), (.agg (rpL r vr vc).toArray)]) Try.func21 kR kR (P7.out ur uc w (S.sl (v := ur) pk) (S.sl (v := uc) pk) (S.old HVR.out) (S.old HVC.out)) rfl ?_
      rintro e w1 ⟨rfl, T⟩
      exact ⟨_, rfl, rfl, S.call T⟩
    · clear hi
      refine step_of_g rfl rfl ?_
      intro u G w hf S
      have f17 : u 17 = (.bool false) := hf 17 (by simp)
      have f20 : u 20 = .bool true := hf 20 (by simp)
      simp only [resOf, spec, RSpec.resAt, z0, z1, z2, z3, z4, z5, z6, z7, ptrBlk] at S ⊢
      simp only [f17, f20]
      refine ⟨rfl, ?_⟩
      simp only [does]
      go_simp
      try first | exact S | exact ⟨vv, S⟩ | exact vv
    · clear hi
      refine step_of rfl rfl rfl ?_
      intro u G w hf S
      have f17 : u 17 = (.bool false) := hf 17 (by simp)
      have f21 : u 21 = .bool false := hf 21 (by simp)
      simp only [resOf, spec, RSpec.resAt, z0, z1, z2, z3, z4, z5, z6, z7, ptrBlk] at S ⊢
      simp only [f17, f21]
      simp only [does]
      go_simp
      try first | exact S | exact ⟨vv, S⟩ | exact vv
  case fin1 =>
    intro u w hf S
    have f0 : u 0 = .agg (rpL r ur uc).toArray := hf 0 (by simp)
    have f1 : u 1 = .int .i64 E := hf 1 (by simp)
    have f2 : u 2 = .agg (rpL r vr vc).toArray := hf 2 (by simp)
    have f3 : u 3 = .int .i64 E := hf 3 (by simp)
    have f4 : u 4 = .bool false := hf 4 (by simp)
    have f5 : u 5 = (.bool false) := hf 5 (by simp)
    have f6 : u 6 = (v17) := hf 6 (by simp)
    have f7 : u 7 = .string (strB X) := hf 7 (by simp)
    have f8 : u 8 = (v22) := hf 8 (by simp)
    have f9 : u 9 = .string (strB X) := hf 9 (by simp)
    have f10 : u 10 = .bool false := hf 10 (by simp)
    have f11 : u 11 = .bool false := hf 11 (by simp)
    have f12 : u 12 = (.bool false) := hf 12 (by simp)
    have f13 : u 13 = (.int .i64 E) := hf 13 (by simp)
    have f14 : u 14 = (.int .i64 E) := hf 14 (by simp)
    have f15 : u 15 = .bool false := hf 15 (by simp)
    have f16 : u 16 = .bool false := hf 16 (by simp)
    have f17 : u 17 = (.bool false) := hf 17 (by simp)
    have f18 : u 18 = .agg (rpL r ur uc).toArray := hf 18 (by simp)
    have f19 : u 19 = .agg (rpL r vr vc).toArray := hf 19 (by simp)
    have f20 : u 20 = .bool true := hf 20 (by simp)
    have f21 : u 21 = .bool false := hf 21 (by simp)
    have f22 : u 22 = .bool false := hf 22 (by simp)
    simp only [resOf, spec, RSpec.resAt, z0, z1, z2, z3, z4, z5, z6, z7, ptrBlk] at S
    clear hf
    simp only [List.length_cons, List.length_nil, Nat.zero_add, Nat.reduceAdd, List.drop_succ_cons, List.drop_zero, f0, f1, f2, f3, f4, f5, f6, f7, f8, f9, f10, f11, f12, f13, f14, f15, f16, f17, f18, f19, f20, f21, f22]
    clear f0 f1 f2 f3 f4 f5 f6 f7 f8 f9 f10 f11 f12 f13 f14 f15 f16 f17 f18 f19 f20 f21 f22
    clear P0 P1 P2 P3 P4 P7
    go_upto_region 9 with (first | (go_at_call 22; (with_reducible refine (P5.out _ _ (S.bs (v := v50) pk)).mono ?_); rintro e w1 ⟨xr, xc, rfl, T⟩; replace S := S.call T; clear T; (try simp only [z4, z5] at S); have OX := Lib.hid (rpL_one D xr xc (one_sl (S.sl (v := xr) pk)).1 (one_sl (S.sl (v := xc) pk)).1)) | (go_at_call 23; (with_reducible refine (P6.out _ _ (S.oldB H.out)).mono ?_); rintro e w1 ⟨yr, yc, rfl, T⟩; replace S := S.call T; clear T; (try simp only [z4, z5] at S); have OY := Lib.hid (rpL_one D yr yc (one_sl (S.sl (v := yr) pk)).1 (one_sl (S.sl (v := yc) pk)).1)) | ((with_reducible refine iO none (.store 53 (.tmp 11) (.tmp 54)) ?_); refine step_store S 53 (.tmp 11) (.tmp 54) g11 _ rfl rfl _ _ pk 46 kR (rpL_size _ _ _) (rpL_size _ _ _) OX.out gw ?_; clear S; intro w S) | ((with_reducible refine iO none (.store 53 (.tmp 12) (.tmp 59)) ?_); refine step_store S 53 (.tmp 12) (.tmp 59) g12 _ rfl rfl _ _ pk 46 kR (rpL_size _ _ _) (rpL_size _ _ _) OY.out gw ?_; clear S; intro w S) | ((with_reducible refine iD 2 (.box 53 (.tmp 0)) ?_); refine step_boxA (dst := some 2) S 53 (.tmp 0) _ rfl gw ?_; clear S; intro g2 w S) | ((with_reducible refine iO _ (.load 53 _) ?_); first | (refine step_load S 53 _ _ rfl _ _ _ pk _ Try.underlying53 rfl 46 kR lN gw ?_) | (refine step_loadO 53 _ _ rfl _ _ _ (S.old_heap (Hid.out (by assumption))) _ Try.underlying53 rfl 46 kR lN gw ?_) | (refine step_loadR 53 _ _ _ rfl _ (S.old_range hy) _ Try.underlying53 rfl 46 kR lN _ rfl gw ?_)) | ((with_reducible refine iD 5 (.alloc 53) ?_); refine step_alloc (dst := some 5) S 53 (.agg ((rpL rpZ (.slice none 0 0) (.slice none 0 0)).toArray)) ((rpL rpZ (.slice none 0 0) (.slice none 0 0)).toArray) kR rfl gw ?_; clear S; intro g5 w S) | ((with_reducible refine iO none (.store 53 (.tmp 5) (.tmp 14)) ?_); refine step_store S 53 (.tmp 5) (.tmp 14) _ _ rfl rfl _ _ pk 46 kR lN lN on1 gw ?_; clear S; intro w S) | ((with_reducible refine iO _ (.convert 22 9 _) ?_); refine step_conv 22 9 5 _ _ _ rfl Try.underlying22 Try.underlying5 Try.underlying9 bS gw ?_) | ((with_reducible refine iD 48 (.buildSlice 22 0 _) ?_); refine step_build8 S 0 _ [] (by first | rfl | kernel_rfl) rfl (by decide) gw ?_; clear S; intro v48 w S) | (at_builtin; refine step_append8 S (.tmp 48) (.tmp 49) _ _ rfl pk _ _ rfl bS lE gw ?_; clear S; intro v50 w S; (try simp only [z4] at S)) | ((with_reducible refine iD 11 (.alloc 53) ?_); refine step_alloc (dst := some 11) S 53 (.agg ((rpL rpZ (.slice none 0 0) (.slice none 0 0)).toArray)) ((rpL rpZ (.slice none 0 0) (.slice none 0 0)).toArray) kR rfl gw ?_; clear S; intro g11 w S) | ((with_reducible refine iO none (.store 53 (.tmp 11) (.tmp 54)) ?_); refine step_store S 53 (.tmp 11) (.tmp 54) _ _ rfl rfl _ _ pk 46 kR lN lN on1 gw ?_; clear S; intro w S) | ((with_reducible refine iD 12 (.alloc 53) ?_); refine step_alloc (dst := some 12) S 53 (.agg ((rpL rpZ (.slice none 0 0) (.slice none 0 0)).toArray)) ((rpL rpZ (.slice none 0 0) (.slice none 0 0)).toArray) kR rfl gw ?_; clear S; intro g12 w S) | ((with_reducible refine iO none (.store 53 (.tmp 12) (.tmp 59)) ?_); refine step_store S 53 (.tmp 12) (.tmp 59) _ _ rfl rfl _ _ pk 46 kR lN lN on1 gw ?_; clear S; intro w S) | fail)
    go_wp2_with (first | ((with_reducible refine iD 2 (.box 53 (.tmp 0)) ?_); refine step_boxA (dst := some 2) S 53 (.tmp 0) _ rfl gw ?_; clear S; intro g2 w S) | ((with_reducible refine iO _ (.load 53 _) ?_); first | (refine step_load S 53 _ _ rfl _ _ _ pk _ Try.underlying53 rfl 46 kR lN gw ?_) | (refine step_loadO 53 _ _ rfl _ _ _ (S.old_heap (Hid.out (by assumption))) _ Try.underlying53 rfl 46 kR lN gw ?_) | (refine step_loadR 53 _ _ _ rfl _ (S.old_range hy) _ Try.underlying53 rfl 46 kR lN _ rfl gw ?_)) | ((with_reducible refine iD 5 (.alloc 53) ?_); refine step_alloc (dst := some 5) S 53 (.agg ((rpL rpZ (.slice none 0 0) (.slice none 0 0)).toArray)) ((rpL rpZ (.slice none 0 0) (.slice none 0 0)).toArray) kR rfl gw ?_; clear S; intro g5 w S) | ((with_reducible refine iO none (.store 53 (.tmp 5) (.tmp 14)) ?_); refine step_store S 53 (.tmp 5) (.tmp 14) _ _ rfl rfl _ _ pk 46 kR lN lN on1 gw ?_; clear S; intro w S) | ((with_reducible refine iO _ (.convert 22 9 _) ?_); refine step_conv 22 9 5 _ _ _ rfl Try.underlying22 Try.underlying5 Try.underlying9 bS gw ?_) | (go_at_call 21; (with_reducible refine (P8.out xr xc yr yc _ (S.sl (v := xr) pk) (S.sl (v := xc) pk) (S.sl (v := yr) pk) (S.sl (v := yc) pk)).mono ?_); rintro e w1 ⟨rfl, T⟩; replace S := S.call T; clear T; (try simp only [z4, z5] at S)) | ((with_reducible refine iD 48 (.buildSlice 22 0 _) ?_); refine step_build8 S 0 _ [] (by first | rfl | kernel_rfl) rfl (by decide) gw ?_; clear S; intro v48 w S) | (at_builtin; refine step_append8 S (.tmp 48) (.tmp 49) _ _ rfl pk _ _ rfl bS lE gw ?_; clear S; intro v50 w S; (try simp only [z4] at S)) | ((with_reducible refine iD 11 (.alloc 53) ?_); refine step_alloc (dst := some 11) S 53 (.agg ((rpL rpZ (.slice none 0 0) (.slice none 0 0)).toArray)) ((rpL rpZ (.slice none 0 0) (.slice none 0 0)).toArray) kR rfl gw ?_; clear S; intro g11 w S) | ((with_reducible refine iO none (.store 53 (.tmp 11) (.tmp 54)) ?_); refine step_store S 53 (.tmp 11) (.tmp 54) _ _ rfl rfl _ _ pk 46 kR lN lN on1 gw ?_; clear S; intro w S) | ((with_reducible refine iD 12 (.alloc 53) ?_); refine step_alloc (dst := some 12) S 53 (.agg ((rpL rpZ (.slice none 0 0) (.slice none 0 0)).toArray)) ((rpL rpZ (.slice none 0 0) (.slice none 0 0)).toArray) kR rfl gw ?_; clear S; intro g12 w S) | ((with_reducible refine iO none (.store 53 (.tmp 12) (.tmp 59)) ?_); refine step_store S 53 (.tmp 12) (.tmp 59) _ _ rfl rfl _ _ pk 46 kR lN lN on1 gw ?_; clear S; intro w S) | fail)
    go_ret
    exact ⟨rfl, S.nil⟩
end Go.Proofs.Ytfhkmmagpnojmaa
