/- WireLogs: the walk. No condition but the table of constants and the reach. -/
import Derived.Test.YtfhkmmagpnojmaaDoorBd
import Derived.Test.YtfhkmmagpnojmaaDoorLgV
set_option linter.unusedSimpArgs false
set_option linter.unusedVariables false
namespace Go.Proofs.YtfhkmmagpnojmaaDoor
open Go.RowKit

theorem xor1_u8 (x : UInt8) : ∃ z : UInt8, bits .xor .u8 (x.toNat : Int) 1 = (z.toNat : Int) := by
  refine ⟨x ^^^ 1, ?_⟩
  have : ((1 : UInt8).toNat : Int) = 1 := rfl
  rw [← this, u8_xor_nat _ _ x.toNat_lt (1 : UInt8).toNat_lt, UInt8.toNat_xor]
theorem spoil_rc (l : List Rcd) (k : Nat) (x : Rcd) (z : UInt8) (hx : l[k]? = some x) : (l.flatMap rcdL).set (k * 35 + 1) (by8 z) = (l.set k ⟨x.tick, z, x.code, x.link, x.len⟩).flatMap rcdL :=
  flat_set rcdL 35 rcdL_length l k 1 x ⟨x.tick, z, x.code, x.link, x.len⟩ (by8 z) hx (by decide) rfl

set_option maxRecDepth 100000 in
set_option maxHeartbeats 8000000 in
theorem wireLogs_walk (g : Lg) (rv : Value) (t : UInt64) (k : UInt8) (c : I64) (bv : Value) (b : List UInt8) (first : UInt32) (w0 : World) (hr : Sl w0 35 rv g.recs.length (g.recs.flatMap rcdL)) (hb : Bs w0 bv b) (hK : KT w0) (hl : b.length ≤ 140737488351232) (hlr : g.recs.length * 56 ≤ 140737488355328) :
    Calls Tryd.prog 5 #[.agg (lgL g rv).toArray, .int .u64 (t.toNat : Int), by8 k, .int .i64 c.v, bv, .int .u32 (first.toNat : Int)] w0 fun e w' => e = .returned (.bool true) ∧ Has w0 w' [] := by
  have S := Has.start w0
  obtain ⟨a0, c0, rfl, k1, k2⟩ := Sl.shape hr
  obtain ⟨a1, c1, rfl, k3, k4⟩ := Sl.shape hb
  unfold maxLen at k2 k4
  have p1 := fun w h => twinLog_s g (.slice a0 g.recs.length c0) w h hlr
  have p2 := fun v w h1 h2 h3 => append_s g v t k c (.slice a1 b.length c1) b w h1 h2 h3 hl
  have p3 := fun w h1 h2 => refAppended_s g (.slice a0 g.recs.length c0) t k c (.slice a1 b.length c1) b w h1 h2
  have p4 := fun v w h => checkLog_s g v w h
  have p5 := fun w h => refCheckLog_s g (.slice a0 g.recs.length c0) w h
  have p7 := fun v w h => since_s g v first w h
  have p8 := fun w h => refRecordsSince_s g (.slice a0 g.recs.length c0) first w h
  have p9 := fun v1 v2 w h1 h2 => sameLog_s g v1 v2 w h1 h2
  have hAl : (apR g t k c b).recs.length ≤ 32 := by
    by_cases h : apE g t k c b.length = 0
    · exact apR_length g t k c b h
    · unfold apR; rw [if_neg h]; decide
  have hRl := sinceR_len g first
  obtain ⟨A, hA⟩ : ∃ A, A = apR g t k c b := ⟨_, rfl⟩
  obtain ⟨E1, hE1⟩ : ∃ E, E = apE g t k c b.length := ⟨_, rfl⟩
  obtain ⟨E0, hE0⟩ : ∃ E, E = lgE g := ⟨_, rfl⟩
  obtain ⟨R, hR⟩ : ∃ R, R = sinceR g first := ⟨_, rfl⟩
  rw [← hA, ← hE1] at p2 p3
  rw [← hA] at hAl
  rw [← hR] at hRl
  rw [← hE0] at p4 p5
  rw [← hE0, ← hR] at p7 p8
  have p6 := fun v1 v2 w h1 h2 => sameLog_s A v1 v2 w h1 h2
  have p10 := fun v1 v2 w h1 h2 => sameRecords_s v1 v2 R w h1 h2
  have HR := Lib.hid hr; have HB := Lib.hid hb; have HK := Lib.hid hK; have P1 := Lib.hid p1; have P2 := Lib.hid p2; have P3 := Lib.hid p3; have P4 := Lib.hid p4; have P5 := Lib.hid p5; have P6 := Lib.hid p6; have P7 := Lib.hid p7; have P8 := Lib.hid p8; have P9 := Lib.hid p9; have P10 := Lib.hid p10; have HAL := Lib.hid hAl; have HRL := Lib.hid hRl; clear hr hb hK p1 p2 p3 p4 p5 p6 p7 p8 p9 p10 hAl hRl
  clear hA hE1 hE0 hR hlr
  go_enter Tryd.func5, Tryd.ntmps5
  go_upto_region 4 with (first | ((with_reducible refine iO none (.store 40 (.tmp 13) (.tmp 23)) ?_); refine step_store S 40 (.tmp 13) (.tmp 23) g13 _ rfl rfl _ _ pk 34 kR (lgL_size _ _) (lgL_size _ _) (lgL_one _ _ (one_sl (S.sl (v := v23) pk)).1) gw ?_; clear S; intro w S) | ((with_reducible refine iO none (.store 40 (.tmp 14) (.tmp 31)) ?_); refine step_store S 40 (.tmp 14) (.tmp 31) g14 _ rfl rfl _ _ pk 34 kR (lgL_size _ _) (lgL_size _ _) (lgL_one _ _ (one_sl (S.sl (v := v30) pk)).1) gw ?_; clear S; intro w S) | ((with_reducible refine iO none (.store 40 (.tmp 16) (.tmp 40)) ?_); refine step_store S 40 (.tmp 16) (.tmp 40) g16 _ rfl rfl _ _ pk 34 kR (lgL_size _ _) (lgL_size _ _) (lgL_one _ _ (one_sl (S.sl_rd (v := v39) pk)).1) gw ?_; clear S; intro w S) | ((with_reducible refine iD 6 (.box 40 (.tmp 0)) ?_); refine step_boxA (dst := some 6) S 40 (.tmp 0) _ rfl gw ?_; clear S; intro g6 w S) | ((with_reducible refine iO _ (.load 40 _) ?_); first | (refine step_load S 40 _ _ rfl _ _ _ pk _ Tryd.underlying40 rfl 34 kR lN gw ?_) | (refine step_loadO 40 _ _ rfl _ _ _ (S.old_heap (Hid.out (by assumption))) _ Tryd.underlying40 rfl 34 kR lN gw ?_) | (refine step_loadR 40 _ _ _ rfl _ (S.old_range hy) _ Tryd.underlying40 rfl 34 kR lN _ rfl gw ?_)) | (go_at_call 20; (with_reducible refine (P1.out _ (S.old HR.out)).mono ?_); rintro e w1 ⟨v23, rfl, T⟩; replace S := S.call T; clear T; (try simp only [z4, z5] at S)) | ((with_reducible refine iD 13 (.alloc 40) ?_); refine step_alloc (dst := some 13) S 40 (.agg ((lgL lgZ (.slice none 0 0)).toArray)) ((lgL lgZ (.slice none 0 0)).toArray) kR rfl gw ?_; clear S; intro g13 w S) | ((with_reducible refine iO none (.store 40 (.tmp 13) (.tmp 23)) ?_); refine step_store S 40 (.tmp 13) (.tmp 23) _ _ rfl rfl _ _ pk 34 kR lN lN on1 gw ?_; clear S; intro w S) | (go_at_call 21; (with_reducible refine (P2.out v23 _ (S.sl (v := v23) pk) (S.oldB HB.out) kT).mono ?_); rintro e w1 ⟨v30, rfl, T⟩; replace S := S.call T; clear T; (try simp only [z4, z5] at S)) | ((with_reducible refine iD 14 (.alloc 40) ?_); refine step_alloc (dst := some 14) S 40 (.agg ((lgL lgZ (.slice none 0 0)).toArray)) ((lgL lgZ (.slice none 0 0)).toArray) kR rfl gw ?_; clear S; intro g14 w S) | ((with_reducible refine iO none (.store 40 (.tmp 14) (.tmp 31)) ?_); refine step_store S 40 (.tmp 14) (.tmp 31) _ _ rfl rfl _ _ pk 34 kR lN lN on1 gw ?_; clear S; intro w S) | (go_at_call 22; (with_reducible refine (P3.out _ (S.old HR.out) (S.oldB HB.out)).mono ?_); rintro e w1 ⟨v39, rfl, T⟩; replace S := S.call T; clear T; (try simp only [z4, z5] at S)) | ((with_reducible refine iD 16 (.alloc 40) ?_); refine step_alloc (dst := some 16) S 40 (.agg ((lgL lgZ (.slice none 0 0)).toArray)) ((lgL lgZ (.slice none 0 0)).toArray) kR rfl gw ?_; clear S; intro g16 w S) | ((with_reducible refine iO none (.store 40 (.tmp 16) (.tmp 40)) ?_); refine step_store S 40 (.tmp 16) (.tmp 40) _ _ rfl rfl _ _ pk 34 kR lN lN on1 gw ?_; clear S; intro w S) | ((with_reducible refine iO _ (.load 31 _) ?_); refine step_load1 31 _ _ _ rfl (cL) _ Tryd.underlying31 rfl gw ?_) | ((with_reducible refine iO _ (.load 5 _) ?_); refine step_load1 5 _ _ _ rfl (cL) _ Tryd.underlying5 rfl gw ?_) | ((with_reducible refine iO none (.store 5 (.tmp 73) (.tmp 71)) ?_); first | (refine step_store1 S 5 (.tmp 73) (.tmp 71) _ _ (.int _ _) rfl rfl _ _ pk kR rfl rfl lN gw ?_; clear S; intro w S; try simp only [List.setIfInBounds_toArray, List.set_cons_zero, List.set_cons_succ] at S) | (refine step_storeR S 5 (.tmp 73) (.tmp 71) _ _ (.int _ _) rfl rfl _ _ _ _ pk lE kR rfl rfl gw ?_; clear S; intro w S) | (refine step_storeS S 5 (.tmp 73) (.tmp 71) _ _ (.int _ _) rfl rfl _ _ _ _ _ pk lE kR rfl rfl gw ?_; clear S; intro w S)) | ((with_reducible refine iO none (.store 5 (.tmp 108) (.tmp 106)) ?_); first | (refine step_store1 S 5 (.tmp 108) (.tmp 106) _ _ (.int _ _) rfl rfl _ _ pk kR rfl rfl lN gw ?_; clear S; intro w S; try simp only [List.setIfInBounds_toArray, List.set_cons_zero, List.set_cons_succ] at S) | (refine step_storeR S 5 (.tmp 108) (.tmp 106) _ _ (.int _ _) rfl rfl _ _ _ _ pk lE kR rfl rfl gw ?_; clear S; intro w S) | (refine step_storeS S 5 (.tmp 108) (.tmp 106) _ _ (.int _ _) rfl rfl _ _ _ _ _ pk lE kR rfl rfl gw ?_; clear S; intro w S)) | fail)
  refine wp_rely S [⟨[], [], [], fun _ v => v = .agg (lgL g v23).toArray, fun _ v => []⟩, ⟨[0], [], [], fun _ v => v = .int .i64 E0, fun _ v => []⟩, ⟨[], [], [], fun _ v => v = .agg (lgL g (.slice a0 g.recs.length c0)).toArray, fun _ v => []⟩, ⟨[0, 1, 2], [], [], fun _ v => v = .int .i64 E0, fun _ v => []⟩, ⟨[0, 1, 2, 3], [], [], fun _ v => v = .bool false, fun _ v => []⟩, ⟨[0, 1, 2, 3, 4], [], [], fun _ v => v = (.bool false), fun _ v => []⟩, ⟨[0, 1, 2, 3, 4, 5], [], [], fun _ v => v = .agg (lgL A v30).toArray, fun _ v => []⟩, ⟨[0, 1, 2, 3, 4, 5], [], [], fun _ v => v = .agg (lgL A v39).toArray, fun _ v => []⟩, ⟨[0, 1, 2, 3, 4, 5, 6, 7], [], [], fun _ v => v = .bool true, fun _ v => []⟩, ⟨[0, 1, 2, 3, 4, 5, 6, 7, 8], [], [], fun _ v => v = .bool false, fun _ v => []⟩, ⟨[0, 1, 2, 3, 4, 5, 6, 7, 8, 9], [], [], fun _ v => v = .bool false, fun _ v => []⟩, ⟨[0, 1, 2, 3, 4, 5, 6, 7, 8, 9, 10], [], [], fun _ v => v = (.bool false), fun _ v => []⟩, ⟨[0, 1, 2, 3, 4, 5, 6, 7, 8, 9, 10, 11], [], [], fun _ v => v = (.int .i64 E1), fun _ v => []⟩, ⟨[0, 1, 2, 3, 4, 5, 6, 7, 8, 9, 10, 11], [], [], fun _ v => v = (.int .i64 E1), fun _ v => []⟩, ⟨[0, 1, 2, 3, 4, 5, 6, 7, 8, 9, 10, 11, 12, 13], [], [], fun _ v => v = .bool false, fun _ v => []⟩, ⟨[0, 1, 2, 3, 4, 5, 6, 7, 8, 9, 10, 11, 12, 13, 14], [], [], fun _ v => v = .bool false, fun _ v => []⟩] ?A1 ?hA1 kR kR kR [0, 1, 2, 3, 4, 5, 6, 7, 8, 9, 10, 11, 12, 13, 14, 15] kR ?hok1 ?fin1
  case hA1 => intro u; simp only [putAll, List.length_cons, List.length_nil, Nat.zero_add, Nat.reduceAdd, dstAt, List.getElem?_toArray, List.getElem?_cons_zero, List.getElem?_cons_succ, Option.bind_some, Act.put, List.setIfInBounds_toArray, List.set_cons_zero, List.set_cons_succ]; rfl
  case hok1 =>
    intro i hi
    obtain rfl | rfl | rfl | rfl | rfl | rfl | rfl | rfl | rfl | rfl | rfl | rfl | rfl | rfl | rfl | rfl : i = 0 ∨ i = 1 ∨ i = 2 ∨ i = 3 ∨ i = 4 ∨ i = 5 ∨ i = 6 ∨ i = 7 ∨ i = 8 ∨ i = 9 ∨ i = 10 ∨ i = 11 ∨ i = 12 ∨ i = 13 ∨ i = 14 ∨ i = 15 := by simp only [List.length_cons, List.length_nil, Nat.zero_add, Nat.reduceAdd] at hi; omega
    · clear hi
      refine step_of rfl rfl rfl ?_
      intro u G w hf S
      simp only [resOf, spec, RSpec.resAt, z0, z1, z2, z3, z4, z5, z6, z7, ptrBlk] at S ⊢
      refine does_load 40 (.tmp 13) g13 rfl _ _ _ (S.get (r := blk g13 _) pk) _ Tryd.underlying40 rfl 34 kR lN ?_; exact ⟨rfl, S⟩
    · clear hi
      refine step_of rfl rfl rfl ?_
      intro u G w hf S
      have f0 : u 0 = .agg (lgL g v23).toArray := hf 0 (by simp)
      simp only [resOf, spec, RSpec.resAt, z0, z1, z2, z3, z4, z5, z6, z7, ptrBlk] at S ⊢
      simp only [f0]
      refine does_fn (args := [(.agg (lgL g v23).toArray)]) Tryd.func23 kR kR (P4.out v23 w (S.sl (v := v23) pk)) rfl ?_
      rintro e w1 ⟨rfl, T⟩
      exact ⟨_, rfl, rfl, S.call T⟩
    · clear hi
      refine step_of rfl rfl rfl ?_
      intro u G w hf S
      simp only [resOf, spec, RSpec.resAt, z0, z1, z2, z3, z4, z5, z6, z7, ptrBlk] at S ⊢
      refine does_load 40 (.tmp 6) g6 rfl _ _ _ (S.get (r := blk g6 _) pk) _ Tryd.underlying40 rfl 34 kR lN ?_; exact ⟨rfl, S⟩
    · clear hi
      refine step_of rfl rfl rfl ?_
      intro u G w hf S
      have f2 : u 2 = .agg (lgL g (.slice a0 g.recs.length c0)).toArray := hf 2 (by simp)
      simp only [resOf, spec, RSpec.resAt, z0, z1, z2, z3, z4, z5, z6, z7, ptrBlk] at S ⊢
      simp only [f2]
      refine does_fn (args := [(.agg (lgL g (.slice a0 g.recs.length c0)).toArray)]) Tryd.func24 kR kR (P5.out w (S.old HR.out)) rfl ?_
      rintro e w1 ⟨rfl, T⟩
      exact ⟨_, rfl, rfl, S.call T⟩
    · clear hi
      refine step_of rfl rfl rfl ?_
      intro u G w hf S
      have f1 : u 1 = .int .i64 E0 := hf 1 (by simp)
      have f3 : u 3 = .int .i64 E0 := hf 3 (by simp)
      simp only [resOf, spec, RSpec.resAt, z0, z1, z2, z3, z4, z5, z6, z7, ptrBlk] at S ⊢
      simp only [f1, f3]
      simp only [does]
      go_simp
      try first | exact S | exact ⟨vv, S⟩ | exact vv
    · clear hi
      refine step_of rfl rfl rfl ?_
      intro u G w hf S
      have f4 : u 4 = .bool false := hf 4 (by simp)
      simp only [resOf, spec, RSpec.resAt, z0, z1, z2, z3, z4, z5, z6, z7, ptrBlk] at S ⊢
      simp only [f4]
      simp only [does]
      go_simp
      try first | exact S | exact ⟨vv, S⟩ | exact vv
    · clear hi
      refine step_of_g rfl rfl ?_
      intro u G w hf S
      have f5 : u 5 = (.bool false) := hf 5 (by simp)
      simp only [resOf, spec, RSpec.resAt, z0, z1, z2, z3, z4, z5, z6, z7, ptrBlk] at S ⊢
      simp only [f5]
      refine ⟨rfl, ?_⟩
      refine does_load 40 (.tmp 14) g14 rfl _ _ _ (S.get (r := blk g14 _) pk) _ Tryd.underlying40 rfl 34 kR lN ?_; exact ⟨rfl, S⟩
    · clear hi
      refine step_of_g rfl rfl ?_
      intro u G w hf S
      have f5 : u 5 = (.bool false) := hf 5 (by simp)
      simp only [resOf, spec, RSpec.resAt, z0, z1, z2, z3, z4, z5, z6, z7, ptrBlk] at S ⊢
      simp only [f5]
      refine ⟨rfl, ?_⟩
      refine does_load 40 (.tmp 16) g16 rfl _ _ _ (S.get (r := blk g16 _) pk) _ Tryd.underlying40 rfl 34 kR lN ?_; exact ⟨rfl, S⟩
    · clear hi
      refine step_of_g rfl rfl ?_
      intro u G w hf S
      have f5 : u 5 = (.bool false) := hf 5 (by simp)
      have f6 : u 6 = .agg (lgL A v30).toArray := hf 6 (by simp)
      have f7 : u 7 = .agg (lgL A v39).toArray := hf 7 (by simp)
      simp only [resOf, spec, RSpec.resAt, z0, z1, z2, z3, z4, z5, z6, z7, ptrBlk] at S ⊢
      simp only [f5, f6, f7]
      refine ⟨rfl, ?_⟩
      refine does_fn (args := [(.agg (lgL A v30).toArray), (.agg (lgL A v39).toArray)]) Tryd.func25 kR kR (P6.out v30 v39 w (S.sl (v := v30) pk) (S.sl_rd (v := v39) pk)) rfl ?_
      rintro e w1 ⟨rfl, T⟩
      exact ⟨_, rfl, rfl, S.call T⟩
    · clear hi
      refine step_of_g rfl rfl ?_
      intro u G w hf S
      have f5 : u 5 = (.bool false) := hf 5 (by simp)
      have f8 : u 8 = .bool true := hf 8 (by simp)
      simp only [resOf, spec, RSpec.resAt, z0, z1, z2, z3, z4, z5, z6, z7, ptrBlk] at S ⊢
      simp only [f5, f8]
      refine ⟨rfl, ?_⟩
      simp only [does]
      go_simp
      try first | exact S | exact ⟨vv, S⟩ | exact vv
    · clear hi
      refine step_of rfl rfl rfl ?_
      intro u G w hf S
      have f5 : u 5 = (.bool false) := hf 5 (by simp)
      have f9 : u 9 = .bool false := hf 9 (by simp)
      simp only [resOf, spec, RSpec.resAt, z0, z1, z2, z3, z4, z5, z6, z7, ptrBlk] at S ⊢
      simp only [f5, f9]
      simp only [does]
      go_simp
      try first | exact S | exact ⟨vv, S⟩ | exact vv
    · clear hi
      refine step_of rfl rfl rfl ?_
      intro u G w hf S
      have f10 : u 10 = .bool false := hf 10 (by simp)
      simp only [resOf, spec, RSpec.resAt, z0, z1, z2, z3, z4, z5, z6, z7, ptrBlk] at S ⊢
      simp only [f10]
      simp only [does]
      go_simp
      try first | exact S | exact ⟨vv, S⟩ | exact vv
    · clear hi
      refine step_of_g rfl rfl ?_
      intro u G w hf S
      have f11 : u 11 = (.bool false) := hf 11 (by simp)
      simp only [resOf, spec, RSpec.resAt, z0, z1, z2, z3, z4, z5, z6, z7, ptrBlk] at S ⊢
      simp only [f11]
      refine ⟨rfl, ?_⟩
      simp only [does]
      go_simp
      try first | exact S | exact ⟨vv, S⟩ | exact vv
    · clear hi
      refine step_of_g rfl rfl ?_
      intro u G w hf S
      have f11 : u 11 = (.bool false) := hf 11 (by simp)
      simp only [resOf, spec, RSpec.resAt, z0, z1, z2, z3, z4, z5, z6, z7, ptrBlk] at S ⊢
      simp only [f11]
      refine ⟨rfl, ?_⟩
      simp only [does]
      go_simp
      try first | exact S | exact ⟨vv, S⟩ | exact vv
    · clear hi
      refine step_of_g rfl rfl ?_
      intro u G w hf S
      have f11 : u 11 = (.bool false) := hf 11 (by simp)
      have f12 : u 12 = (.int .i64 E1) := hf 12 (by simp)
      have f13 : u 13 = (.int .i64 E1) := hf 13 (by simp)
      simp only [resOf, spec, RSpec.resAt, z0, z1, z2, z3, z4, z5, z6, z7, ptrBlk] at S ⊢
      simp only [f11, f12, f13]
      refine ⟨rfl, ?_⟩
      simp only [does]
      go_simp
      try first | exact S | exact ⟨vv, S⟩ | exact vv
    · clear hi
      refine step_of rfl rfl rfl ?_
      intro u G w hf S
      have f11 : u 11 = (.bool false) := hf 11 (by simp)
      have f14 : u 14 = .bool false := hf 14 (by simp)
      simp only [resOf, spec, RSpec.resAt, z0, z1, z2, z3, z4, z5, z6, z7, ptrBlk] at S ⊢
      simp only [f11, f14]
      simp only [does]
      go_simp
      try first | exact S | exact ⟨vv, S⟩ | exact vv
  case fin1 =>
    intro u w hf S
    have f0 : u 0 = .agg (lgL g v23).toArray := hf 0 (by simp)
    have f1 : u 1 = .int .i64 E0 := hf 1 (by simp)
    have f2 : u 2 = .agg (lgL g (.slice a0 g.recs.length c0)).toArray := hf 2 (by simp)
    have f3 : u 3 = .int .i64 E0 := hf 3 (by simp)
    have f4 : u 4 = .bool false := hf 4 (by simp)
    have f5 : u 5 = (.bool false) := hf 5 (by simp)
    have f6 : u 6 = .agg (lgL A v30).toArray := hf 6 (by simp)
    have f7 : u 7 = .agg (lgL A v39).toArray := hf 7 (by simp)
    have f8 : u 8 = .bool true := hf 8 (by simp)
    have f9 : u 9 = .bool false := hf 9 (by simp)
    have f10 : u 10 = .bool false := hf 10 (by simp)
    have f11 : u 11 = (.bool false) := hf 11 (by simp)
    have f12 : u 12 = (.int .i64 E1) := hf 12 (by simp)
    have f13 : u 13 = (.int .i64 E1) := hf 13 (by simp)
    have f14 : u 14 = .bool false := hf 14 (by simp)
    have f15 : u 15 = .bool false := hf 15 (by simp)
    simp only [resOf, spec, RSpec.resAt, z0, z1, z2, z3, z4, z5, z6, z7, ptrBlk] at S
    clear hf
    simp only [List.length_cons, List.length_nil, Nat.zero_add, Nat.reduceAdd, List.drop_succ_cons, List.drop_zero, f0, f1, f2, f3, f4, f5, f6, f7, f8, f9, f10, f11, f12, f13, f14, f15]
    clear f0 f1 f2 f3 f4 f5 f6 f7 f8 f9 f10 f11 f12 f13 f14 f15
    obtain ⟨a30, c30, rfl, _, _⟩ := Sl.shape (S.sl (v := v30) pk)
    go_wp2_with (first | ((with_reducible refine iD 6 (.box 40 (.tmp 0)) ?_); refine step_boxA (dst := some 6) S 40 (.tmp 0) _ rfl gw ?_; clear S; intro g6 w S) | ((with_reducible refine iO _ (.load 40 _) ?_); first | (refine step_load S 40 _ _ rfl _ _ _ pk _ Tryd.underlying40 rfl 34 kR lN gw ?_) | (refine step_loadO 40 _ _ rfl _ _ _ (S.old_heap (Hid.out (by assumption))) _ Tryd.underlying40 rfl 34 kR lN gw ?_) | (refine step_loadR 40 _ _ _ rfl _ (S.old_range hy) _ Tryd.underlying40 rfl 34 kR lN _ rfl gw ?_)) | ((with_reducible refine iD 13 (.alloc 40) ?_); refine step_alloc (dst := some 13) S 40 (.agg ((lgL lgZ (.slice none 0 0)).toArray)) ((lgL lgZ (.slice none 0 0)).toArray) kR rfl gw ?_; clear S; intro g13 w S) | ((with_reducible refine iO none (.store 40 (.tmp 13) (.tmp 23)) ?_); refine step_store S 40 (.tmp 13) (.tmp 23) _ _ rfl rfl _ _ pk 34 kR lN lN on1 gw ?_; clear S; intro w S) | ((with_reducible refine iD 14 (.alloc 40) ?_); refine step_alloc (dst := some 14) S 40 (.agg ((lgL lgZ (.slice none 0 0)).toArray)) ((lgL lgZ (.slice none 0 0)).toArray) kR rfl gw ?_; clear S; intro g14 w S) | ((with_reducible refine iO none (.store 40 (.tmp 14) (.tmp 31)) ?_); refine step_store S 40 (.tmp 14) (.tmp 31) _ _ rfl rfl _ _ pk 34 kR lN lN on1 gw ?_; clear S; intro w S) | ((with_reducible refine iD 16 (.alloc 40) ?_); refine step_alloc (dst := some 16) S 40 (.agg ((lgL lgZ (.slice none 0 0)).toArray)) ((lgL lgZ (.slice none 0 0)).toArray) kR rfl gw ?_; clear S; intro g16 w S) | ((with_reducible refine iO none (.store 40 (.tmp 16) (.tmp 40)) ?_); refine step_store S 40 (.tmp 16) (.tmp 40) _ _ rfl rfl _ _ pk 34 kR lN lN on1 gw ?_; clear S; intro w S) | ((with_reducible refine iO _ (.load 31 _) ?_); refine step_load1 31 _ _ _ rfl (cL) _ Tryd.underlying31 rfl gw ?_) | ((with_reducible refine iO _ (.load 5 _) ?_); refine step_load1 5 _ _ _ rfl (cL) _ Tryd.underlying5 rfl gw ?_) | ((with_reducible refine iO none (.store 5 (.tmp 73) (.tmp 71)) ?_); first | (refine step_store1 S 5 (.tmp 73) (.tmp 71) _ _ (.int _ _) rfl rfl _ _ pk kR rfl rfl lN gw ?_; clear S; intro w S; try simp only [List.setIfInBounds_toArray, List.set_cons_zero, List.set_cons_succ] at S) | (refine step_storeR S 5 (.tmp 73) (.tmp 71) _ _ (.int _ _) rfl rfl _ _ _ _ pk lE kR rfl rfl gw ?_; clear S; intro w S) | (refine step_storeS S 5 (.tmp 73) (.tmp 71) _ _ (.int _ _) rfl rfl _ _ _ _ _ pk lE kR rfl rfl gw ?_; clear S; intro w S)) | ((with_reducible refine iO none (.store 5 (.tmp 108) (.tmp 106)) ?_); first | (refine step_store1 S 5 (.tmp 108) (.tmp 106) _ _ (.int _ _) rfl rfl _ _ pk kR rfl rfl lN gw ?_; clear S; intro w S; try simp only [List.setIfInBounds_toArray, List.set_cons_zero, List.set_cons_succ] at S) | (refine step_storeR S 5 (.tmp 108) (.tmp 106) _ _ (.int _ _) rfl rfl _ _ _ _ pk lE kR rfl rfl gw ?_; clear S; intro w S) | (refine step_storeS S 5 (.tmp 108) (.tmp 106) _ _ (.int _ _) rfl rfl _ _ _ _ _ pk lE kR rfl rfl gw ?_; clear S; intro w S)) | fail)
    go_loopw [18] (fun t wr => ∃ (k : Nat) (L : List Rcd), k ≤ A.recs.length ∧ L.length = A.recs.length ∧ t = .int .i64 (k : Int) ∧ Has w0 wr [row (.slice a30 A.recs.length c30) 50 35 A.recs.length (L.flatMap rcdL), blk g14 (.cells (lgL A (.slice a30 A.recs.length c30)).toArray 40 (0, 0)), blk g13 (.cells (lgL g v23).toArray 40 (0, 0)), rowRc v23 g.recs, blk g6 (.cells (lgL g (.slice a0 g.recs.length c0)).toArray 40 (0, 0))]) (fun t _ => A.recs.length - (intOf t).toNat)
    case atStart => exact ⟨0, A.recs, Nat.zero_le _, rfl, rfl, S.sub (by repeat (first | exact Sub.nil _ | refine Sub.cons pk ?_))⟩
    case round =>
      clear S
      obtain ⟨k, L, hk, hL, rfl, S⟩ := hrel
      obtain ⟨n, hn⟩ : ∃ n, n = A.recs.length := ⟨_, rfl⟩
      have hn32 := HAL.out
      have q33 := lgL_33 A (.slice a30 A.recs.length c30)
      rw [← hn] at S hk hL hn32 q33 ⊢
      by_cases hlt : k < n
      · obtain ⟨gx, cx, hax, _⟩ := S.row_at (Pick.head _ _) (by omega)
        simp only [Value.slice.injEq, true_and] at hax
        obtain ⟨rfl, rfl⟩ := hax
        have hki : (k : Int) < (n : Int) := by omega
        have hki2 : (k : Int) < 9223372036854775807 := by omega
        obtain ⟨x, hx⟩ : ∃ x, L[k]? = some x := ⟨_, List.getElem?_eq_getElem (by omega)⟩
        have hxc := flat_cell rcdL 35 rcdL_length L k 1 x _ hx rfl
        obtain ⟨z, hxx⟩ := xor1_u8 x.kind
        have hsp := spoil_rc L k x z hx
        have hks : k * 35 + 1 < (L.flatMap rcdL).length := by rw [flat_len rcdL 35 rcdL_length]; omega
        have hl2 : (L.set k ⟨x.tick, z, x.code, x.link, x.len⟩).length = n := by rw [List.length_set, hL]
        obtain ⟨L2, hL2⟩ : ∃ L2, L2 = L.set k ⟨x.tick, z, x.code, x.link, x.len⟩ := ⟨_, rfl⟩
        rw [← hL2] at hsp hl2
        have HXC := Lib.hid hxc; have HSP := Lib.hid hsp; have HKS := Lib.hid hks; have HL2 := Lib.hid hl2; have Q33 := Lib.hid q33; have HN := Lib.hid hn; clear hxc hsp hks hl2 q33 hn
        clear hx hL hL2 hn32
        go_wp2_with (first | ((with_reducible refine iD 6 (.box 40 (.tmp 0)) ?_); refine step_boxA (dst := some 6) S 40 (.tmp 0) _ rfl gw ?_; clear S; intro g6 w S) | ((with_reducible refine iO _ (.load 40 _) ?_); first | (refine step_load S 40 _ _ rfl _ _ _ pk _ Tryd.underlying40 rfl 34 kR lN gw ?_) | (refine step_loadO 40 _ _ rfl _ _ _ (S.old_heap (Hid.out (by assumption))) _ Tryd.underlying40 rfl 34 kR lN gw ?_) | (refine step_loadR 40 _ _ _ rfl _ (S.old_range hy) _ Tryd.underlying40 rfl 34 kR lN _ rfl gw ?_)) | ((with_reducible refine iD 13 (.alloc 40) ?_); refine step_alloc (dst := some 13) S 40 (.agg ((lgL lgZ (.slice none 0 0)).toArray)) ((lgL lgZ (.slice none 0 0)).toArray) kR rfl gw ?_; clear S; intro g13 w S) | ((with_reducible refine iO none (.store 40 (.tmp 13) (.tmp 23)) ?_); refine step_store S 40 (.tmp 13) (.tmp 23) _ _ rfl rfl _ _ pk 34 kR lN lN on1 gw ?_; clear S; intro w S) | ((with_reducible refine iD 14 (.alloc 40) ?_); refine step_alloc (dst := some 14) S 40 (.agg ((lgL lgZ (.slice none 0 0)).toArray)) ((lgL lgZ (.slice none 0 0)).toArray) kR rfl gw ?_; clear S; intro g14 w S) | ((with_reducible refine iO none (.store 40 (.tmp 14) (.tmp 31)) ?_); refine step_store S 40 (.tmp 14) (.tmp 31) _ _ rfl rfl _ _ pk 34 kR lN lN on1 gw ?_; clear S; intro w S) | ((with_reducible refine iD 16 (.alloc 40) ?_); refine step_alloc (dst := some 16) S 40 (.agg ((lgL lgZ (.slice none 0 0)).toArray)) ((lgL lgZ (.slice none 0 0)).toArray) kR rfl gw ?_; clear S; intro g16 w S) | ((with_reducible refine iO none (.store 40 (.tmp 16) (.tmp 40)) ?_); refine step_store S 40 (.tmp 16) (.tmp 40) _ _ rfl rfl _ _ pk 34 kR lN lN on1 gw ?_; clear S; intro w S) | ((with_reducible refine iO _ (.load 31 _) ?_); refine step_load1 31 _ _ _ rfl (cL) _ Tryd.underlying31 rfl gw ?_) | ((with_reducible refine iO _ (.load 5 _) ?_); refine step_load1 5 _ _ _ rfl (cL) _ Tryd.underlying5 rfl gw ?_) | ((with_reducible refine iO none (.store 5 (.tmp 73) (.tmp 71)) ?_); first | (refine step_store1 S 5 (.tmp 73) (.tmp 71) _ _ (.int _ _) rfl rfl _ _ pk kR rfl rfl lN gw ?_; clear S; intro w S; try simp only [List.setIfInBounds_toArray, List.set_cons_zero, List.set_cons_succ] at S) | (refine step_storeR S 5 (.tmp 73) (.tmp 71) _ _ (.int _ _) rfl rfl _ _ _ _ pk lE kR rfl rfl gw ?_; clear S; intro w S) | (refine step_storeS S 5 (.tmp 73) (.tmp 71) _ _ (.int _ _) rfl rfl _ _ _ _ _ pk lE kR rfl rfl gw ?_; clear S; intro w S)) | ((with_reducible refine iO none (.store 5 (.tmp 108) (.tmp 106)) ?_); first | (refine step_store1 S 5 (.tmp 108) (.tmp 106) _ _ (.int _ _) rfl rfl _ _ pk kR rfl rfl lN gw ?_; clear S; intro w S; try simp only [List.setIfInBounds_toArray, List.set_cons_zero, List.set_cons_succ] at S) | (refine step_storeR S 5 (.tmp 108) (.tmp 106) _ _ (.int _ _) rfl rfl _ _ _ _ pk lE kR rfl rfl gw ?_; clear S; intro w S) | (refine step_storeS S 5 (.tmp 108) (.tmp 106) _ _ (.int _ _) rfl rfl _ _ _ _ _ pk lE kR rfl rfl gw ?_; clear S; intro w S)) | fail)
        go_roundw
        case rel => exact ⟨k + 1, L2, by omega, HL2.out, by go_num, by rw [← HSP.out]; exact S.sub (by repeat (first | exact Sub.nil _ | refine Sub.cons pk ?_))⟩
        case measure => simp [intOf]; omega
      · obtain rfl : k = n := by omega
        have hki : ¬ (k : Int) < (k : Int) := by omega
        have S := S.sub (show Sub _ [blk g13 (.cells (lgL g v23).toArray 40 (0, 0)), rowRc v23 g.recs, blk g6 (.cells (lgL g (.slice a0 g.recs.length c0)).toArray 40 (0, 0)), blk g14 (.cells (lgL A (.slice a30 k c30)).toArray 40 (0, 0))] from (by repeat (first | exact Sub.nil _ | refine Sub.cons pk ?_)))
        have Q33 := Lib.hid q33; have HN := Lib.hid hn; clear q33 hn
        clear hL hn32
        go_upto_region 12 with (first | ((with_reducible refine iD 6 (.box 40 (.tmp 0)) ?_); refine step_boxA (dst := some 6) S 40 (.tmp 0) _ rfl gw ?_; clear S; intro g6 w S) | ((with_reducible refine iO _ (.load 40 _) ?_); first | (refine step_load S 40 _ _ rfl _ _ _ pk _ Tryd.underlying40 rfl 34 kR lN gw ?_) | (refine step_loadO 40 _ _ rfl _ _ _ (S.old_heap (Hid.out (by assumption))) _ Tryd.underlying40 rfl 34 kR lN gw ?_) | (refine step_loadR 40 _ _ _ rfl _ (S.old_range hy) _ Tryd.underlying40 rfl 34 kR lN _ rfl gw ?_)) | ((with_reducible refine iD 13 (.alloc 40) ?_); refine step_alloc (dst := some 13) S 40 (.agg ((lgL lgZ (.slice none 0 0)).toArray)) ((lgL lgZ (.slice none 0 0)).toArray) kR rfl gw ?_; clear S; intro g13 w S) | ((with_reducible refine iO none (.store 40 (.tmp 13) (.tmp 23)) ?_); refine step_store S 40 (.tmp 13) (.tmp 23) _ _ rfl rfl _ _ pk 34 kR lN lN on1 gw ?_; clear S; intro w S) | ((with_reducible refine iD 14 (.alloc 40) ?_); refine step_alloc (dst := some 14) S 40 (.agg ((lgL lgZ (.slice none 0 0)).toArray)) ((lgL lgZ (.slice none 0 0)).toArray) kR rfl gw ?_; clear S; intro g14 w S) | ((with_reducible refine iO none (.store 40 (.tmp 14) (.tmp 31)) ?_); refine step_store S 40 (.tmp 14) (.tmp 31) _ _ rfl rfl _ _ pk 34 kR lN lN on1 gw ?_; clear S; intro w S) | ((with_reducible refine iD 16 (.alloc 40) ?_); refine step_alloc (dst := some 16) S 40 (.agg ((lgL lgZ (.slice none 0 0)).toArray)) ((lgL lgZ (.slice none 0 0)).toArray) kR rfl gw ?_; clear S; intro g16 w S) | ((with_reducible refine iO none (.store 40 (.tmp 16) (.tmp 40)) ?_); refine step_store S 40 (.tmp 16) (.tmp 40) _ _ rfl rfl _ _ pk 34 kR lN lN on1 gw ?_; clear S; intro w S) | ((with_reducible refine iO _ (.load 31 _) ?_); refine step_load1 31 _ _ _ rfl (cL) _ Tryd.underlying31 rfl gw ?_) | ((with_reducible refine iO _ (.load 5 _) ?_); refine step_load1 5 _ _ _ rfl (cL) _ Tryd.underlying5 rfl gw ?_) | ((with_reducible refine iO none (.store 5 (.tmp 73) (.tmp 71)) ?_); first | (refine step_store1 S 5 (.tmp 73) (.tmp 71) _ _ (.int _ _) rfl rfl _ _ pk kR rfl rfl lN gw ?_; clear S; intro w S; try simp only [List.setIfInBounds_toArray, List.set_cons_zero, List.set_cons_succ] at S) | (refine step_storeR S 5 (.tmp 73) (.tmp 71) _ _ (.int _ _) rfl rfl _ _ _ _ pk lE kR rfl rfl gw ?_; clear S; intro w S) | (refine step_storeS S 5 (.tmp 73) (.tmp 71) _ _ (.int _ _) rfl rfl _ _ _ _ _ pk lE kR rfl rfl gw ?_; clear S; intro w S)) | (go_at_call 26; (with_reducible refine (P7.out v23 _ (S.sl (v := v23) pk)).mono ?_); rintro e w1 ⟨v77, rfl, T⟩; replace S := S.call T; clear T; (try simp only [z4, z5] at S)) | (go_at_call 27; (with_reducible refine (P8.out _ (S.old HR.out)).mono ?_); rintro e w1 ⟨v83, rfl, T⟩; replace S := S.call T; clear T; (try simp only [z4, z5] at S)) | ((with_reducible refine iO none (.store 5 (.tmp 108) (.tmp 106)) ?_); first | (refine step_store1 S 5 (.tmp 108) (.tmp 106) _ _ (.int _ _) rfl rfl _ _ pk kR rfl rfl lN gw ?_; clear S; intro w S; try simp only [List.setIfInBounds_toArray, List.set_cons_zero, List.set_cons_succ] at S) | (refine step_storeR S 5 (.tmp 108) (.tmp 106) _ _ (.int _ _) rfl rfl _ _ _ _ pk lE kR rfl rfl gw ?_; clear S; intro w S) | (refine step_storeS S 5 (.tmp 108) (.tmp 106) _ _ (.int _ _) rfl rfl _ _ _ _ _ pk lE kR rfl rfl gw ?_; clear S; intro w S)) | fail)
        obtain ⟨a77, c77, rfl, _, _⟩ := Sl.shape (S.sl (v := v77) pk)
        go_wp2_with (first | ((with_reducible refine iD 6 (.box 40 (.tmp 0)) ?_); refine step_boxA (dst := some 6) S 40 (.tmp 0) _ rfl gw ?_; clear S; intro g6 w S) | ((with_reducible refine iO _ (.load 40 _) ?_); first | (refine step_load S 40 _ _ rfl _ _ _ pk _ Tryd.underlying40 rfl 34 kR lN gw ?_) | (refine step_loadO 40 _ _ rfl _ _ _ (S.old_heap (Hid.out (by assumption))) _ Tryd.underlying40 rfl 34 kR lN gw ?_) | (refine step_loadR 40 _ _ _ rfl _ (S.old_range hy) _ Tryd.underlying40 rfl 34 kR lN _ rfl gw ?_)) | ((with_reducible refine iD 13 (.alloc 40) ?_); refine step_alloc (dst := some 13) S 40 (.agg ((lgL lgZ (.slice none 0 0)).toArray)) ((lgL lgZ (.slice none 0 0)).toArray) kR rfl gw ?_; clear S; intro g13 w S) | ((with_reducible refine iO none (.store 40 (.tmp 13) (.tmp 23)) ?_); refine step_store S 40 (.tmp 13) (.tmp 23) _ _ rfl rfl _ _ pk 34 kR lN lN on1 gw ?_; clear S; intro w S) | ((with_reducible refine iD 14 (.alloc 40) ?_); refine step_alloc (dst := some 14) S 40 (.agg ((lgL lgZ (.slice none 0 0)).toArray)) ((lgL lgZ (.slice none 0 0)).toArray) kR rfl gw ?_; clear S; intro g14 w S) | ((with_reducible refine iO none (.store 40 (.tmp 14) (.tmp 31)) ?_); refine step_store S 40 (.tmp 14) (.tmp 31) _ _ rfl rfl _ _ pk 34 kR lN lN on1 gw ?_; clear S; intro w S) | ((with_reducible refine iD 16 (.alloc 40) ?_); refine step_alloc (dst := some 16) S 40 (.agg ((lgL lgZ (.slice none 0 0)).toArray)) ((lgL lgZ (.slice none 0 0)).toArray) kR rfl gw ?_; clear S; intro g16 w S) | ((with_reducible refine iO none (.store 40 (.tmp 16) (.tmp 40)) ?_); refine step_store S 40 (.tmp 16) (.tmp 40) _ _ rfl rfl _ _ pk 34 kR lN lN on1 gw ?_; clear S; intro w S) | ((with_reducible refine iO _ (.load 31 _) ?_); refine step_load1 31 _ _ _ rfl (cL) _ Tryd.underlying31 rfl gw ?_) | ((with_reducible refine iO _ (.load 5 _) ?_); refine step_load1 5 _ _ _ rfl (cL) _ Tryd.underlying5 rfl gw ?_) | ((with_reducible refine iO none (.store 5 (.tmp 73) (.tmp 71)) ?_); first | (refine step_store1 S 5 (.tmp 73) (.tmp 71) _ _ (.int _ _) rfl rfl _ _ pk kR rfl rfl lN gw ?_; clear S; intro w S; try simp only [List.setIfInBounds_toArray, List.set_cons_zero, List.set_cons_succ] at S) | (refine step_storeR S 5 (.tmp 73) (.tmp 71) _ _ (.int _ _) rfl rfl _ _ _ _ pk lE kR rfl rfl gw ?_; clear S; intro w S) | (refine step_storeS S 5 (.tmp 73) (.tmp 71) _ _ (.int _ _) rfl rfl _ _ _ _ _ pk lE kR rfl rfl gw ?_; clear S; intro w S)) | (go_at_call 28; (with_reducible refine (P10.out _ _ _ (S.sl (v := .slice a77 R.length c77) (xs := R.flatMap rcdL) pk) (S.sl (v := v83) (xs := R.flatMap rcdL) pk)).mono ?_); rintro e w1 ⟨rfl, T⟩; replace S := S.call T; clear T; (try simp only [z4, z5] at S)) | ((with_reducible refine iO none (.store 5 (.tmp 108) (.tmp 106)) ?_); first | (refine step_store1 S 5 (.tmp 108) (.tmp 106) _ _ (.int _ _) rfl rfl _ _ pk kR rfl rfl lN gw ?_; clear S; intro w S; try simp only [List.setIfInBounds_toArray, List.set_cons_zero, List.set_cons_succ] at S) | (refine step_storeR S 5 (.tmp 108) (.tmp 106) _ _ (.int _ _) rfl rfl _ _ _ _ pk lE kR rfl rfl gw ?_; clear S; intro w S) | (refine step_storeS S 5 (.tmp 108) (.tmp 106) _ _ (.int _ _) rfl rfl _ _ _ _ _ pk lE kR rfl rfl gw ?_; clear S; intro w S)) | fail)
        go_loopw [21] (fun t wr => ∃ (k : Nat) (L : List Rcd), k ≤ R.length ∧ L.length = R.length ∧ t = .int .i64 (k : Int) ∧ Has w0 wr [row (.slice a77 R.length c77) 50 35 R.length (L.flatMap rcdL), blk g13 (.cells (lgL g v23).toArray 40 (0, 0)), rowRc v23 g.recs, blk g6 (.cells (lgL g (.slice a0 g.recs.length c0)).toArray 40 (0, 0))]) (fun t _ => R.length - (intOf t).toNat)
        case atStart => exact ⟨0, R, Nat.zero_le _, rfl, rfl, S.sub (by repeat (first | exact Sub.nil _ | refine Sub.cons pk ?_))⟩
        case round =>
          clear S
          obtain ⟨k, L, hk, hL, rfl, S⟩ := hrel
          obtain ⟨n, hn⟩ : ∃ n, n = R.length := ⟨_, rfl⟩
          have hn32 := HRL.out
          rw [← hn] at S hk hL hn32 ⊢
          by_cases hlt : k < n
          · obtain ⟨gx, cx, hax, _⟩ := S.row_at (Pick.head _ _) (by omega)
            simp only [Value.slice.injEq, true_and] at hax
            obtain ⟨rfl, rfl⟩ := hax
            have hki : (k : Int) < (n : Int) := by omega
            have hki2 : (k : Int) < 9223372036854775807 := by omega
            obtain ⟨x, hx⟩ : ∃ x, L[k]? = some x := ⟨_, List.getElem?_eq_getElem (by omega)⟩
            have hxc := flat_cell rcdL 35 rcdL_length L k 1 x _ hx rfl
            obtain ⟨z, hxx⟩ := xor1_u8 x.kind
            have hsp := spoil_rc L k x z hx
            have hks : k * 35 + 1 < (L.flatMap rcdL).length := by rw [flat_len rcdL 35 rcdL_length]; omega
            have hl2 : (L.set k ⟨x.tick, z, x.code, x.link, x.len⟩).length = n := by rw [List.length_set, hL]
            obtain ⟨L2, hL2⟩ : ∃ L2, L2 = L.set k ⟨x.tick, z, x.code, x.link, x.len⟩ := ⟨_, rfl⟩
            rw [← hL2] at hsp hl2
            have HXC := Lib.hid hxc; have HSP := Lib.hid hsp; have HKS := Lib.hid hks; have HL2 := Lib.hid hl2; have HN := Lib.hid hn; clear hxc hsp hks hl2 hn
            clear hx hL hL2 hn32
            go_wp2_with (first | ((with_reducible refine iD 6 (.box 40 (.tmp 0)) ?_); refine step_boxA (dst := some 6) S 40 (.tmp 0) _ rfl gw ?_; clear S; intro g6 w S) | ((with_reducible refine iO _ (.load 40 _) ?_); first | (refine step_load S 40 _ _ rfl _ _ _ pk _ Tryd.underlying40 rfl 34 kR lN gw ?_) | (refine step_loadO 40 _ _ rfl _ _ _ (S.old_heap (Hid.out (by assumption))) _ Tryd.underlying40 rfl 34 kR lN gw ?_) | (refine step_loadR 40 _ _ _ rfl _ (S.old_range hy) _ Tryd.underlying40 rfl 34 kR lN _ rfl gw ?_)) | ((with_reducible refine iD 13 (.alloc 40) ?_); refine step_alloc (dst := some 13) S 40 (.agg ((lgL lgZ (.slice none 0 0)).toArray)) ((lgL lgZ (.slice none 0 0)).toArray) kR rfl gw ?_; clear S; intro g13 w S) | ((with_reducible refine iO none (.store 40 (.tmp 13) (.tmp 23)) ?_); refine step_store S 40 (.tmp 13) (.tmp 23) _ _ rfl rfl _ _ pk 34 kR lN lN on1 gw ?_; clear S; intro w S) | ((with_reducible refine iD 14 (.alloc 40) ?_); refine step_alloc (dst := some 14) S 40 (.agg ((lgL lgZ (.slice none 0 0)).toArray)) ((lgL lgZ (.slice none 0 0)).toArray) kR rfl gw ?_; clear S; intro g14 w S) | ((with_reducible refine iO none (.store 40 (.tmp 14) (.tmp 31)) ?_); refine step_store S 40 (.tmp 14) (.tmp 31) _ _ rfl rfl _ _ pk 34 kR lN lN on1 gw ?_; clear S; intro w S) | ((with_reducible refine iD 16 (.alloc 40) ?_); refine step_alloc (dst := some 16) S 40 (.agg ((lgL lgZ (.slice none 0 0)).toArray)) ((lgL lgZ (.slice none 0 0)).toArray) kR rfl gw ?_; clear S; intro g16 w S) | ((with_reducible refine iO none (.store 40 (.tmp 16) (.tmp 40)) ?_); refine step_store S 40 (.tmp 16) (.tmp 40) _ _ rfl rfl _ _ pk 34 kR lN lN on1 gw ?_; clear S; intro w S) | ((with_reducible refine iO _ (.load 31 _) ?_); refine step_load1 31 _ _ _ rfl (cL) _ Tryd.underlying31 rfl gw ?_) | ((with_reducible refine iO _ (.load 5 _) ?_); refine step_load1 5 _ _ _ rfl (cL) _ Tryd.underlying5 rfl gw ?_) | ((with_reducible refine iO none (.store 5 (.tmp 73) (.tmp 71)) ?_); first | (refine step_store1 S 5 (.tmp 73) (.tmp 71) _ _ (.int _ _) rfl rfl _ _ pk kR rfl rfl lN gw ?_; clear S; intro w S; try simp only [List.setIfInBounds_toArray, List.set_cons_zero, List.set_cons_succ] at S) | (refine step_storeR S 5 (.tmp 73) (.tmp 71) _ _ (.int _ _) rfl rfl _ _ _ _ pk lE kR rfl rfl gw ?_; clear S; intro w S) | (refine step_storeS S 5 (.tmp 73) (.tmp 71) _ _ (.int _ _) rfl rfl _ _ _ _ _ pk lE kR rfl rfl gw ?_; clear S; intro w S)) | ((with_reducible refine iO none (.store 5 (.tmp 108) (.tmp 106)) ?_); first | (refine step_store1 S 5 (.tmp 108) (.tmp 106) _ _ (.int _ _) rfl rfl _ _ pk kR rfl rfl lN gw ?_; clear S; intro w S; try simp only [List.setIfInBounds_toArray, List.set_cons_zero, List.set_cons_succ] at S) | (refine step_storeR S 5 (.tmp 108) (.tmp 106) _ _ (.int _ _) rfl rfl _ _ _ _ pk lE kR rfl rfl gw ?_; clear S; intro w S) | (refine step_storeS S 5 (.tmp 108) (.tmp 106) _ _ (.int _ _) rfl rfl _ _ _ _ _ pk lE kR rfl rfl gw ?_; clear S; intro w S)) | fail)
            go_roundw
            case rel => exact ⟨k + 1, L2, by omega, HL2.out, by go_num, by rw [← HSP.out]; exact S.sub (by repeat (first | exact Sub.nil _ | refine Sub.cons pk ?_))⟩
            case measure => simp [intOf]; omega
          · obtain rfl : k = n := by omega
            have hki : ¬ (k : Int) < (k : Int) := by omega
            have HN := Lib.hid hn; clear hn
            clear hL hn32
            go_wp2_with (first | ((with_reducible refine iD 6 (.box 40 (.tmp 0)) ?_); refine step_boxA (dst := some 6) S 40 (.tmp 0) _ rfl gw ?_; clear S; intro g6 w S) | ((with_reducible refine iO _ (.load 40 _) ?_); first | (refine step_load S 40 _ _ rfl _ _ _ pk _ Tryd.underlying40 rfl 34 kR lN gw ?_) | (refine step_loadO 40 _ _ rfl _ _ _ (S.old_heap (Hid.out (by assumption))) _ Tryd.underlying40 rfl 34 kR lN gw ?_) | (refine step_loadR 40 _ _ _ rfl _ (S.old_range hy) _ Tryd.underlying40 rfl 34 kR lN _ rfl gw ?_)) | ((with_reducible refine iD 13 (.alloc 40) ?_); refine step_alloc (dst := some 13) S 40 (.agg ((lgL lgZ (.slice none 0 0)).toArray)) ((lgL lgZ (.slice none 0 0)).toArray) kR rfl gw ?_; clear S; intro g13 w S) | ((with_reducible refine iO none (.store 40 (.tmp 13) (.tmp 23)) ?_); refine step_store S 40 (.tmp 13) (.tmp 23) _ _ rfl rfl _ _ pk 34 kR lN lN on1 gw ?_; clear S; intro w S) | ((with_reducible refine iD 14 (.alloc 40) ?_); refine step_alloc (dst := some 14) S 40 (.agg ((lgL lgZ (.slice none 0 0)).toArray)) ((lgL lgZ (.slice none 0 0)).toArray) kR rfl gw ?_; clear S; intro g14 w S) | ((with_reducible refine iO none (.store 40 (.tmp 14) (.tmp 31)) ?_); refine step_store S 40 (.tmp 14) (.tmp 31) _ _ rfl rfl _ _ pk 34 kR lN lN on1 gw ?_; clear S; intro w S) | ((with_reducible refine iD 16 (.alloc 40) ?_); refine step_alloc (dst := some 16) S 40 (.agg ((lgL lgZ (.slice none 0 0)).toArray)) ((lgL lgZ (.slice none 0 0)).toArray) kR rfl gw ?_; clear S; intro g16 w S) | ((with_reducible refine iO none (.store 40 (.tmp 16) (.tmp 40)) ?_); refine step_store S 40 (.tmp 16) (.tmp 40) _ _ rfl rfl _ _ pk 34 kR lN lN on1 gw ?_; clear S; intro w S) | (go_at_call 25; (with_reducible refine (P9.out _ _ _ (S.sl (v := v23) pk) (S.old HR.out)).mono ?_); rintro e w1 ⟨rfl, T⟩; replace S := S.call T; clear T; (try simp only [z4, z5] at S)) | ((with_reducible refine iO _ (.load 31 _) ?_); refine step_load1 31 _ _ _ rfl (cL) _ Tryd.underlying31 rfl gw ?_) | ((with_reducible refine iO _ (.load 5 _) ?_); refine step_load1 5 _ _ _ rfl (cL) _ Tryd.underlying5 rfl gw ?_) | ((with_reducible refine iO none (.store 5 (.tmp 73) (.tmp 71)) ?_); first | (refine step_store1 S 5 (.tmp 73) (.tmp 71) _ _ (.int _ _) rfl rfl _ _ pk kR rfl rfl lN gw ?_; clear S; intro w S; try simp only [List.setIfInBounds_toArray, List.set_cons_zero, List.set_cons_succ] at S) | (refine step_storeR S 5 (.tmp 73) (.tmp 71) _ _ (.int _ _) rfl rfl _ _ _ _ pk lE kR rfl rfl gw ?_; clear S; intro w S) | (refine step_storeS S 5 (.tmp 73) (.tmp 71) _ _ (.int _ _) rfl rfl _ _ _ _ _ pk lE kR rfl rfl gw ?_; clear S; intro w S)) | ((with_reducible refine iO none (.store 5 (.tmp 108) (.tmp 106)) ?_); first | (refine step_store1 S 5 (.tmp 108) (.tmp 106) _ _ (.int _ _) rfl rfl _ _ pk kR rfl rfl lN gw ?_; clear S; intro w S; try simp only [List.setIfInBounds_toArray, List.set_cons_zero, List.set_cons_succ] at S) | (refine step_storeR S 5 (.tmp 108) (.tmp 106) _ _ (.int _ _) rfl rfl _ _ _ _ pk lE kR rfl rfl gw ?_; clear S; intro w S) | (refine step_storeS S 5 (.tmp 108) (.tmp 106) _ _ (.int _ _) rfl rfl _ _ _ _ _ pk lE kR rfl rfl gw ?_; clear S; intro w S)) | fail)
            go_ret
            exact ⟨rfl, S.nil⟩

theorem u32N (n : Nat) (h : n < 4294967296) : ((UInt32.ofNat n).toNat : Int) = (n : Int) := by rw [UInt32.toNat_ofNat']; omega

theorem wireLogs_c (g : Lg) (rv : Value) (t k : Nat) (c : Int) (bv : Value) (b : List UInt8) (first : Nat) (w0 : World) (hr : Sl w0 35 rv g.recs.length (g.recs.flatMap rcdL)) (hlr : g.recs.length * 56 ≤ 140737488351232) (ht : t < 18446744073709551616) (hk : k < 256) (hc : -9223372036854775808 ≤ c ∧ c ≤ 9223372036854775807) (hb : Bs w0 bv b) (hf : first < 4294967296) (hK : KT w0) (hl : b.length ≤ 140737488351232) :
    Calls Tryd.prog 5 #[.agg (lgL g rv).toArray, .int .u64 (t : Int), .int .u8 (k : Int), .int .i64 c, bv, .int .u32 (first : Int)] w0 fun e w' => e = .returned (.bool true) ∧ Has w0 w' [] := by
  have := wireLogs_walk g rv (UInt64.ofNat t) (UInt8.ofNat k) ⟨c, hc⟩ bv b (UInt32.ofNat first) w0 hr hb hK hl (by omega)
  unfold by8 at this
  rw [u64N t ht, u8N k hk, u32N first hf] at this
  exact this
end Go.Proofs.YtfhkmmagpnojmaaDoor
