/- WireWhole's walk. No condition but the table of constants and the reach. -/
import Derived.Test.YtfhkmmagpnojmaaDoorBd
import Derived.Test.YtfhkmmagpnojmaaDoorAlv7
import Derived.Test.YtfhkmmagpnojmaaDoorSpN
import Derived.Test.YtfhkmmagpnojmaaDoorRefQ
set_option linter.unusedSimpArgs false
set_option linter.unusedVariables false
namespace Go.Proofs.YtfhkmmagpnojmaaDoor
open Go.RowKit

theorem strB_app (x y : List UInt8) : strB x ++ strB y = strB (x ++ y) := by
  apply ByteArray.ext
  rw [ByteArray.data_append]
  simp [strB]

set_option maxRecDepth 100000 in
set_option maxHeartbeats 8000000 in
theorem wireWhole_walk (v : Value) (b : List UInt8) (w0 : World) (h : Bs w0 v b) (hl : b.length ≤ 140737488351232) (hK : KT w0) :
    Calls Tryd.prog 6 #[v] w0 fun e w' => e = .returned (.bool true) ∧ Has w0 w' [] := by
  have S := Has.start w0
  obtain ⟨a0, c0, rfl, k1, k2⟩ := Sl.shape h
  unfold maxLen at k2
  have pa := fun w h => alive_s w h
  by_cases hbig : 4160 < b.length
  · have i1 : 4160 < (b.length : Int) := by omega
    have p1 := fun v w h => split_s v b w h
    rw [show spE b.length = 4 from if_neg (by omega)] at p1
    have H := Lib.hid h; have PA := Lib.hid pa; have P1 := Lib.hid p1; have HK := Lib.hid hK; clear h pa p1 hK
    clear hbig
    go_enter Tryd.func6, Tryd.ntmps6
    go_wp2_with (first | (go_at_call 29; (with_reducible refine (PA.out _ kT).mono ?_); rintro e w1 ⟨rfl, T⟩; replace S := S.call T; clear T; (try simp only [z4, z5] at S)) | (go_at_call 30; (with_reducible refine (P1.out _ _ (S.oldB H.out)).mono ?_); rintro e w1 ⟨v17, v18, ps, rfl, hp, T⟩; replace S := S.call T; clear T; (try simp only [z4, z5] at S)) | ((with_reducible refine iO _ (.load 25 _) ?_); refine step_load1 25 _ _ _ rfl (cL) _ Tryd.underlying25 rfl gw ?_) | ((with_reducible refine iO _ (.load 5 _) ?_); refine step_load1 5 _ _ _ rfl (cL) _ Tryd.underlying5 rfl gw ?_) | ((with_reducible refine iO _ (.convert 25 9 _) ?_); refine step_conv 25 9 5 _ _ _ rfl Tryd.underlying25 Tryd.underlying5 Tryd.underlying9 bS gw ?_) | fail)
    go_ret
    exact ⟨rfl, S.nil⟩
  have i1 : ¬ 4160 < (b.length : Int) := by omega
  have p1 := fun v w h => split_a v b w h (by omega)
  have hw := split_whole b
  have hc := split_count b
  obtain ⟨X, hX⟩ : ∃ X, X = splitB b := ⟨_, rfl⟩
  rw [← hX] at p1 hw hc
  obtain ⟨F, R⟩ := X
  dsimp only at p1 hw hc
  obtain ⟨hw1, hw2, hw3, hw4⟩ := hw
  have hc1 := hc.2
  have p2 := fun v w h => split_a v R w h (by omega)
  rw [hw4] at p2
  have j1 : ¬ 64 ≤ (R.length : Int) := by omega
  have b60 : b.length ≤ 4160 := by omega
  clear hbig hX hw4 hc
  have H := Lib.hid h; have PA := Lib.hid pa; have P1 := Lib.hid p1; have P2 := Lib.hid p2; have HK := Lib.hid hK; have HW1 := Lib.hid hw1; have HW2 := Lib.hid hw2; have HW3 := Lib.hid hw3; have HC1 := Lib.hid hc1; have B60 := Lib.hid b60; clear h pa p1 p2 hK hw1 hw2 hw3 hc1 b60
  go_enter Tryd.func6, Tryd.ntmps6
  go_upto_region 5 with (first | (go_at_call 29; (with_reducible refine (PA.out _ kT).mono ?_); rintro e w1 ⟨rfl, T⟩; replace S := S.call T; clear T; (try simp only [z4, z5] at S)) | (go_at_call 30; (with_reducible refine (P1.out _ _ (S.oldB H.out)).mono ?_); rintro e w1 ⟨v17, v18, ps, rfl, hp, T⟩; replace S := S.call T; clear T; (try simp only [z4, z5] at S)) | ((with_reducible refine iO _ (.load 25 _) ?_); refine step_load1 25 _ _ _ rfl (cL) _ Tryd.underlying25 rfl gw ?_) | ((with_reducible refine iO _ (.load 5 _) ?_); refine step_load1 5 _ _ _ rfl (cL) _ Tryd.underlying5 rfl gw ?_) | ((with_reducible refine iO _ (.convert 25 9 _) ?_); refine step_conv 25 9 5 _ _ _ rfl Tryd.underlying25 Tryd.underlying5 Tryd.underlying9 bS gw ?_) | fail)
  have hpl : ((ps.map (·.2)).flatten).length ≤ 4160 := by rw [hp]; have := HC1.out; have := B60.out; omega
  have hkl := flat_take_le ps
  have hwf : ∀ p ∈ ps, 2 ≤ p.2.length ∧ p.2.length = frN p.2 := fun p hpm => HW2.out p.2 (by rw [← hp]; exact List.mem_map_of_mem hpm)
  have hall : ((ps.take ps.length).map (·.2)).flatten ++ R = b := by rw [List.take_length, hp]; exact HW1.out
  obtain ⟨a18, c18, rfl, _, _⟩ := Sl.shape (S.bs (v := v18) (xs := R) pk)
  obtain ⟨a17, c17, rfl, _, _⟩ := Sl.shape (S.sl (v := v17) pk)
  obtain ⟨N, hN⟩ : ∃ N, N = ps.length := ⟨_, rfl⟩
  have hN0 := hN
  rw [← hN] at hall
  have S : Has w0 w1 [row (.slice a17 ps.length c17) 25 1 ps.length (ps.map (·.1)), row8 (.slice a18 R.length c18) R, allF ps] := S
  rw [← hN] at S
  have hT : ∀ k, ((ps.take k).map (·.2)).flatten.length ≤ 4160 := fun k => Nat.le_trans (hkl k) hpl
  clear hp hpl hkl
  rw [← hN]
  have HWF := Lib.hid hwf; have HALL := Lib.hid hall; have HN0 := Lib.hid hN0; have HT := Lib.hid hT; clear hwf hall hN0 hT
  clear hN
  go_wp2_with (first | ((with_reducible refine iO _ (.load 25 _) ?_); refine step_load1 25 _ _ _ rfl (cL) _ Tryd.underlying25 rfl gw ?_) | ((with_reducible refine iO _ (.load 5 _) ?_); refine step_load1 5 _ _ _ rfl (cL) _ Tryd.underlying5 rfl gw ?_) | ((with_reducible refine iO _ (.convert 25 9 _) ?_); refine step_conv 25 9 5 _ _ _ rfl Tryd.underlying25 Tryd.underlying5 Tryd.underlying9 bS gw ?_) | fail)
  go_loopw [7, 8] (fun v7 u wr => ∃ (k : Nat), k ≤ N ∧ u = .int .i64 (k : Int) ∧ Has w0 wr [row8 v7 ((ps.take k).map (·.2)).flatten, row (.slice a17 N c17) 25 1 N (ps.map (·.1)), row8 (.slice a18 R.length c18) R, allF ps]) (fun _ u _ => N - (intOf u).toNat)
  case atStart => exact ⟨0, Nat.zero_le _, rfl, S.nil8⟩
  case round =>
    clear S
    obtain ⟨k, hk, rfl, S⟩ := hrel
    by_cases hlt : k < N
    · have hki : (k : Int) < (N : Int) := by omega
      have hki2 : (k : Int) < 9223372036854775807 := by
        have := S.row_len (a := a17) (c := c17) (n := N) pk
        omega
      have hkp : k < ps.length := by rw [← HN0.out]; exact hlt
      have hpk : ps[k]? = some ps[k] := List.getElem?_eq_getElem hkp
      have hpm : ps[k] ∈ ps := List.getElem_mem hkp
      have hq : (ps.map (·.1))[k]? = some (ps[k]).1 := by rw [List.getElem?_map, hpk]; rfl
      have hmore := flat_take_succ ps k _ hpk
      have hTk := HT.out (k + 1)
      rw [hmore, List.length_append] at hTk
      obtain ⟨p, hpe⟩ : ∃ p, p = ps[k] := ⟨_, rfl⟩
      rw [← hpe] at hpm hq hmore hTk
      obtain ⟨p1, p2⟩ := p
      dsimp only at hq hmore hTk
      obtain ⟨f1, f2⟩ := HWF.out _ hpm
      dsimp only at f1 f2
      have hbp := S.piece (ps := ps) pk _ hpm
      dsimp only at hbp
      obtain ⟨ap, cp, rfl, _, _⟩ := Sl.shape hbp
      obtain ⟨bp, op, rfl, _⟩ := hbp.atA (by omega)
      obtain ⟨gx, cx, hax, _⟩ := S.row_at (v := .slice a17 N c17) pk (by omega)
      simp only [Value.slice.injEq, true_and] at hax
      obtain ⟨rfl, rfl⟩ := hax
      have kc0 := fun (w : World) (hs : Bs w (.slice (some ⟨bp, op, none⟩) p2.length cp) p2) => (hs.cell rfl 0 (by omega) : w.cell? ⟨bp, op, none⟩ = some (by8 (p2.getD 0 0)))
      have kc1 := fun (w : World) (hs : Bs w (.slice (some ⟨bp, op, none⟩) p2.length cp) p2) => (hs.cell rfl 1 (by omega) : w.cell? ⟨bp, op + 1, none⟩ = some (by8 (p2.getD 1 0)))
      have hrow := fun (w : World) (S : Has w0 w [row (.slice (some ⟨gx, 0, none⟩) N c17) 25 1 N (ps.map (·.1))]) => S.row_cell pk k _ hq
      have hfr : frN p2 = if 256 * (p2.getD 0 0).toNat + (p2.getD 1 0).toNat < 2 ∨ 64 < 256 * (p2.getD 0 0).toNat + (p2.getD 1 0).toNat then 2 else 256 * (p2.getD 0 0).toNat + (p2.getD 1 0).toNat := rfl
      obtain ⟨x0, hx0⟩ : ∃ x, x = p2.getD 0 0 := ⟨_, rfl⟩
      obtain ⟨x1, hx1⟩ : ∃ x, x = p2.getD 1 0 := ⟨_, rfl⟩
      rw [← hx0] at kc0 hfr
      rw [← hx1] at kc1 hfr
      have hb0 := x0.toNat_lt
      have hb1 := x1.toNat_lt
      rw [← f2] at hfr
      have g1 : ¬ (p2.length : Int) < 2 := by omega
      have i256 : IntKind.i64.wrap (256 * (x0.toNat : Int)) = 256 * (x0.toNat : Int) := by rw [IntKind.wrap_i64]; omega
      obtain ⟨M, hM⟩ : ∃ M : Nat, M = 256 * x0.toNat + x1.toNat := ⟨_, rfl⟩
      have iM : (256 : Int) * (x0.toNat : Int) + (x1.toNat : Int) = (M : Int) := by omega
      have iL : IntKind.i64.wrap (256 * (x0.toNat : Int) + (x1.toNat : Int)) = (M : Int) := by rw [IntKind.wrap_i64]; omega
      rw [← hM] at hfr
      have hle1 : ((ps.take k).map (·.2)).flatten.length + p2.length ≤ 140737488355328 := by omega
      obtain ⟨T, hTe⟩ : ∃ T, T = ((ps.take k).map (·.2)).flatten := ⟨_, rfl⟩
      rw [← hTe] at S hmore hle1
      have iw0 : IntKind.i64.wrap (x0.toNat : Int) = (x0.toNat : Int) := by rw [IntKind.wrap_i64]; omega
      have iw1 : IntKind.i64.wrap (x1.toNat : Int) = (x1.toNat : Int) := by rw [IntKind.wrap_i64]; omega
      have n0 : 0 < p2.length := by omega
      have n1 : 1 < p2.length := by omega
      have n1I : (1 : Int) < (p2.length : Int) := by omega
      clear hpk hpe hbp hx0 hx1 hb0 hb1 f1 f2 hTk hM hTe hkp iM
      have HPM := Lib.hid hpm; have HQ := Lib.hid hq; have HMORE := Lib.hid hmore; have HLE1 := Lib.hid hle1; have KC0 := Lib.hid kc0; have KC1 := Lib.hid kc1; have HROW := Lib.hid hrow; have HFR := Lib.hid hfr; clear hpm hq hmore hle1 kc0 kc1 hrow hfr
      go_upto_region 13 with (first | ((with_reducible refine iO _ (.load 25 _) ?_); refine step_load1 25 _ _ _ rfl (cL) _ Tryd.underlying25 rfl gw ?_) | ((with_reducible refine iO _ (.load 5 _) ?_); refine step_load1 5 _ _ _ rfl (cL) _ Tryd.underlying5 rfl gw ?_) | ((with_reducible refine iO _ (.convert 25 9 _) ?_); refine step_conv 25 9 5 _ _ _ rfl Tryd.underlying25 Tryd.underlying5 Tryd.underlying9 bS gw ?_) | fail)
      refine wp_rely S [⟨[], [], [], fun _ v => v = (.slice (some ⟨gx, 0, none⟩) N c17), fun _ v => []⟩, ⟨[], [], [], fun _ v => v = (.int .i64 (k : Int)), fun _ v => []⟩, ⟨[0, 1], [], [], fun _ v => v = .pointer (some ⟨gx, k, none⟩), fun _ v => []⟩, ⟨[0, 1, 2], [], [], fun _ v => v = .slice (some ⟨bp, op, none⟩) p2.length cp, fun _ v => []⟩, ⟨[0, 1, 2, 3], [], [], fun _ v => v = .pointer (some ⟨bp, op, none⟩), fun _ v => []⟩, ⟨[0, 1, 2, 3, 4], [], [], fun _ v => v = by8 x0, fun _ v => []⟩, ⟨[0, 1, 2, 3, 4, 5], [], [], fun _ v => v = .int .i64 (x0.toNat : Int), fun _ v => []⟩, ⟨[0, 1, 2, 3, 4, 5, 6], [], [], fun _ v => v = .int .i64 (256 * (x0.toNat : Int)), fun _ v => []⟩, ⟨[], [], [], fun _ v => v = (.slice (some ⟨gx, 0, none⟩) N c17), fun _ v => []⟩, ⟨[], [], [], fun _ v => v = (.int .i64 (k : Int)), fun _ v => []⟩, ⟨[8, 9], [], [], fun _ v => v = .pointer (some ⟨gx, k, none⟩), fun _ v => []⟩, ⟨[8, 9, 10], [], [], fun _ v => v = .slice (some ⟨bp, op, none⟩) p2.length cp, fun _ v => []⟩, ⟨[8, 9, 10, 11], [], [], fun _ v => v = .pointer (some ⟨bp, op + 1, none⟩), fun _ v => []⟩, ⟨[8, 9, 10, 11, 12], [], [], fun _ v => v = by8 x1, fun _ v => []⟩, ⟨[8, 9, 10, 11, 12, 13], [], [], fun _ v => v = .int .i64 (x1.toNat : Int), fun _ v => []⟩, ⟨[0, 1, 2, 3, 4, 5, 6, 7, 8, 9, 10, 11, 12, 13, 14], [], [], fun _ v => v = .int .i64 (M : Int), fun _ v => []⟩, ⟨[0, 1, 2, 3, 4, 5, 6, 7, 8, 9, 10, 11, 12, 13, 14, 15], [], [], fun _ v => v = (.int .i64 (M : Int)), fun _ v => []⟩] ?A1 ?hA1 kR kR kR [0, 1, 2, 3, 4, 5, 6, 7, 8, 9, 10, 11, 12, 13, 14, 15, 16] kR ?hok1 ?fin1
      case hA1 => intro u; simp only [putAll, List.length_cons, List.length_nil, Nat.zero_add, Nat.reduceAdd, dstAt, List.getElem?_toArray, List.getElem?_cons_zero, List.getElem?_cons_succ, Option.bind_some, Act.put, List.setIfInBounds_toArray, List.set_cons_zero, List.set_cons_succ]; rfl
      case hok1 =>
        intro i hi
        obtain rfl | rfl | rfl | rfl | rfl | rfl | rfl | rfl | rfl | rfl | rfl | rfl | rfl | rfl | rfl | rfl | rfl : i = 0 ∨ i = 1 ∨ i = 2 ∨ i = 3 ∨ i = 4 ∨ i = 5 ∨ i = 6 ∨ i = 7 ∨ i = 8 ∨ i = 9 ∨ i = 10 ∨ i = 11 ∨ i = 12 ∨ i = 13 ∨ i = 14 ∨ i = 15 ∨ i = 16 := by simp only [List.length_cons, List.length_nil, Nat.zero_add, Nat.reduceAdd] at hi; omega
        · clear hi
          refine step_of rfl rfl rfl ?_
          intro u G w hf S
          simp only [resOf, spec, RSpec.resAt, z0, z1, z2, z3, z4, z5, z6, z7, ptrBlk] at S ⊢
          simp only [does]
          go_simp
          try first | exact S | exact ⟨vv, S⟩ | exact vv
        · clear hi
          refine step_of rfl rfl rfl ?_
          intro u G w hf S
          simp only [resOf, spec, RSpec.resAt, z0, z1, z2, z3, z4, z5, z6, z7, ptrBlk] at S ⊢
          simp only [does]
          go_simp
          try first | exact S | exact ⟨vv, S⟩ | exact vv
        · clear hi
          refine step_of rfl rfl rfl ?_
          intro u G w hf S
          have f0 : u 0 = (.slice (some ⟨gx, 0, none⟩) N c17) := hf 0 (by simp)
          have f1 : u 1 = (.int .i64 (k : Int)) := hf 1 (by simp)
          simp only [resOf, spec, RSpec.resAt, z0, z1, z2, z3, z4, z5, z6, z7, ptrBlk] at S ⊢
          simp only [f0, f1]
          simp only [does]
          go_simp
          try first | exact S | exact ⟨vv, S⟩ | exact vv
        · clear hi
          refine step_of rfl rfl rfl ?_
          intro u G w hf S
          have f2 : u 2 = .pointer (some ⟨gx, k, none⟩) := hf 2 (by simp)
          simp only [resOf, spec, RSpec.resAt, z0, z1, z2, z3, z4, z5, z6, z7, ptrBlk] at S ⊢
          simp only [f2]
          refine does_load1 25 (.tmp 49) _ _ rfl (HROW.out w (S.sub (by repeat (first | exact Sub.nil _ | refine Sub.cons pk ?_)))) _ Tryd.underlying25 rfl ?_; exact ⟨rfl, S⟩
        · clear hi
          refine step_of rfl rfl rfl ?_
          intro u G w hf S
          have f3 : u 3 = .slice (some ⟨bp, op, none⟩) p2.length cp := hf 3 (by simp)
          simp only [resOf, spec, RSpec.resAt, z0, z1, z2, z3, z4, z5, z6, z7, ptrBlk] at S ⊢
          simp only [f3]
          simp only [does]
          go_simp
          try first | exact S | exact ⟨vv, S⟩ | exact vv
        · clear hi
          refine step_of rfl rfl rfl ?_
          intro u G w hf S
          have f4 : u 4 = .pointer (some ⟨bp, op, none⟩) := hf 4 (by simp)
          simp only [resOf, spec, RSpec.resAt, z0, z1, z2, z3, z4, z5, z6, z7, ptrBlk] at S ⊢
          simp only [f4]
          refine does_load1 5 (.tmp 51) _ _ rfl (KC0.out w (S.piece (ps := ps) pk _ HPM.out)) _ Tryd.underlying5 rfl ?_; exact ⟨rfl, S⟩
        · clear hi
          refine step_of rfl rfl rfl ?_
          intro u G w hf S
          have f5 : u 5 = by8 x0 := hf 5 (by simp)
          simp only [resOf, spec, RSpec.resAt, z0, z1, z2, z3, z4, z5, z6, z7, ptrBlk] at S ⊢
          simp only [f5]
          simp only [does]
          go_simp
          try first | exact S | exact ⟨vv, S⟩ | exact vv
        · clear hi
          refine step_of rfl rfl rfl ?_
          intro u G w hf S
          have f6 : u 6 = .int .i64 (x0.toNat : Int) := hf 6 (by simp)
          simp only [resOf, spec, RSpec.resAt, z0, z1, z2, z3, z4, z5, z6, z7, ptrBlk] at S ⊢
          simp only [f6]
          simp only [does]
          go_simp
          try first | exact S | exact ⟨vv, S⟩ | exact vv
        · clear hi
          refine step_of rfl rfl rfl ?_
          intro u G w hf S
          simp only [resOf, spec, RSpec.resAt, z0, z1, z2, z3, z4, z5, z6, z7, ptrBlk] at S ⊢
          simp only [does]
          go_simp
          try first | exact S | exact ⟨vv, S⟩ | exact vv
        · clear hi
          refine step_of rfl rfl rfl ?_
          intro u G w hf S
          simp only [resOf, spec, RSpec.resAt, z0, z1, z2, z3, z4, z5, z6, z7, ptrBlk] at S ⊢
          simp only [does]
          go_simp
          try first | exact S | exact ⟨vv, S⟩ | exact vv
        · clear hi
          refine step_of rfl rfl rfl ?_
          intro u G w hf S
          have f8 : u 8 = (.slice (some ⟨gx, 0, none⟩) N c17) := hf 8 (by simp)
          have f9 : u 9 = (.int .i64 (k : Int)) := hf 9 (by simp)
          simp only [resOf, spec, RSpec.resAt, z0, z1, z2, z3, z4, z5, z6, z7, ptrBlk] at S ⊢
          simp only [f8, f9]
          simp only [does]
          go_simp
          try first | exact S | exact ⟨vv, S⟩ | exact vv
        · clear hi
          refine step_of rfl rfl rfl ?_
          intro u G w hf S
          have f10 : u 10 = .pointer (some ⟨gx, k, none⟩) := hf 10 (by simp)
          simp only [resOf, spec, RSpec.resAt, z0, z1, z2, z3, z4, z5, z6, z7, ptrBlk] at S ⊢
          simp only [f10]
          refine does_load1 25 (.tmp 57) _ _ rfl (HROW.out w (S.sub (by repeat (first | exact Sub.nil _ | refine Sub.cons pk ?_)))) _ Tryd.underlying25 rfl ?_; exact ⟨rfl, S⟩
        · clear hi
          refine step_of rfl rfl rfl ?_
          intro u G w hf S
          have f11 : u 11 = .slice (some ⟨bp, op, none⟩) p2.length cp := hf 11 (by simp)
          simp only [resOf, spec, RSpec.resAt, z0, z1, z2, z3, z4, z5, z6, z7, ptrBlk] at S ⊢
          simp only [f11]
          simp only [does]
          go_simp
          try first | exact S | exact ⟨vv, S⟩ | exact vv
        · clear hi
          refine step_of rfl rfl rfl ?_
          intro u G w hf S
          have f12 : u 12 = .pointer (some ⟨bp, op + 1, none⟩) := hf 12 (by simp)
          simp only [resOf, spec, RSpec.resAt, z0, z1, z2, z3, z4, z5, z6, z7, ptrBlk] at S ⊢
          simp only [f12]
          refine does_load1 5 (.tmp 59) _ _ rfl (KC1.out w (S.piece (ps := ps) pk _ HPM.out)) _ Tryd.underlying5 rfl ?_; exact ⟨rfl, S⟩
        · clear hi
          refine step_of rfl rfl rfl ?_
          intro u G w hf S
          have f13 : u 13 = by8 x1 := hf 13 (by simp)
          simp only [resOf, spec, RSpec.resAt, z0, z1, z2, z3, z4, z5, z6, z7, ptrBlk] at S ⊢
          simp only [f13]
          simp only [does]
          go_simp
          try first | exact S | exact ⟨vv, S⟩ | exact vv
        · clear hi
          refine step_of rfl rfl rfl ?_
          intro u G w hf S
          have f7 : u 7 = .int .i64 (256 * (x0.toNat : Int)) := hf 7 (by simp)
          have f14 : u 14 = .int .i64 (x1.toNat : Int) := hf 14 (by simp)
          simp only [resOf, spec, RSpec.resAt, z0, z1, z2, z3, z4, z5, z6, z7, ptrBlk] at S ⊢
          simp only [f7, f14]
          simp only [does]
          go_simp
          try first | exact S | exact ⟨vv, S⟩ | exact vv
        · clear hi
          refine step_of rfl rfl rfl ?_
          intro u G w hf S
          have f15 : u 15 = .int .i64 (M : Int) := hf 15 (by simp)
          simp only [resOf, spec, RSpec.resAt, z0, z1, z2, z3, z4, z5, z6, z7, ptrBlk] at S ⊢
          simp only [f15]
          simp only [does]
          go_simp
          try first | exact S | exact ⟨vv, S⟩ | exact vv
      case fin1 =>
        intro u w hf S
        have f0 : u 0 = (.slice (some ⟨gx, 0, none⟩) N c17) := hf 0 (by simp)
        have f1 : u 1 = (.int .i64 (k : Int)) := hf 1 (by simp)
        have f2 : u 2 = .pointer (some ⟨gx, k, none⟩) := hf 2 (by simp)
        have f3 : u 3 = .slice (some ⟨bp, op, none⟩) p2.length cp := hf 3 (by simp)
        have f4 : u 4 = .pointer (some ⟨bp, op, none⟩) := hf 4 (by simp)
        have f5 : u 5 = by8 x0 := hf 5 (by simp)
        have f6 : u 6 = .int .i64 (x0.toNat : Int) := hf 6 (by simp)
        have f7 : u 7 = .int .i64 (256 * (x0.toNat : Int)) := hf 7 (by simp)
        have f8 : u 8 = (.slice (some ⟨gx, 0, none⟩) N c17) := hf 8 (by simp)
        have f9 : u 9 = (.int .i64 (k : Int)) := hf 9 (by simp)
        have f10 : u 10 = .pointer (some ⟨gx, k, none⟩) := hf 10 (by simp)
        have f11 : u 11 = .slice (some ⟨bp, op, none⟩) p2.length cp := hf 11 (by simp)
        have f12 : u 12 = .pointer (some ⟨bp, op + 1, none⟩) := hf 12 (by simp)
        have f13 : u 13 = by8 x1 := hf 13 (by simp)
        have f14 : u 14 = .int .i64 (x1.toNat : Int) := hf 14 (by simp)
        have f15 : u 15 = .int .i64 (M : Int) := hf 15 (by simp)
        have f16 : u 16 = (.int .i64 (M : Int)) := hf 16 (by simp)
        simp only [resOf, spec, RSpec.resAt, z0, z1, z2, z3, z4, z5, z6, z7, ptrBlk] at S
        clear hf
        simp only [List.length_cons, List.length_nil, Nat.zero_add, Nat.reduceAdd, List.drop_succ_cons, List.drop_zero, f0, f1, f2, f3, f4, f5, f6, f7, f8, f9, f10, f11, f12, f13, f14, f15, f16]
        clear f0 f1 f2 f3 f4 f5 f6 f7 f8 f9 f10 f11 f12 f13 f14 f15 f16
        have hfr := HFR.out
        clear i256 iL iw0 iw1 n0 n1 n1I
        have j1 : (M : Int) < 2 ∨ ((¬ (M : Int) < 2) ∧ 64 < (M : Int)) ∨ ((¬ (M : Int) < 2) ∧ ¬ 64 < (M : Int)) := by omega
        rcases j1 with j1 | ⟨j1, j2⟩ | ⟨j1, j2⟩
        · have j3 : ((p2.length : Int) != 2) = false := by rw [bne_eq_false_iff_eq]; rw [if_pos (by omega)] at hfr; omega
          have HFR := Lib.hid hfr; clear hfr
          go_wp2_with (first | (at_builtin; refine step_append8 S (.tmp 76) (.tmp 80) _ T rfl pk _ p2 rfl (S.piece (ps := ps) pk _ HPM.out) HLE1.out gw ?_; clear S; intro v81 w S) | ((with_reducible refine iO _ (.load 25 _) ?_); refine step_load1 25 _ _ _ rfl (cL) _ Tryd.underlying25 rfl gw ?_) | ((with_reducible refine iO _ (.load 5 _) ?_); refine step_load1 5 _ _ _ rfl (cL) _ Tryd.underlying5 rfl gw ?_) | ((with_reducible refine iO _ (.convert 25 9 _) ?_); refine step_conv 25 9 5 _ _ _ rfl Tryd.underlying25 Tryd.underlying5 Tryd.underlying9 bS gw ?_) | fail)
          go_roundw
          case rel => exact ⟨k + 1, by omega, by go_num, by rw [HMORE.out]; exact S.sub (by repeat (first | exact Sub.nil _ | refine Sub.cons pk ?_))⟩
          case measure => simp [intOf]; omega
        · have j3 : ((p2.length : Int) != 2) = false := by rw [bne_eq_false_iff_eq]; rw [if_pos (by omega)] at hfr; omega
          have HFR := Lib.hid hfr; clear hfr
          go_wp2_with (first | (at_builtin; refine step_append8 S (.tmp 76) (.tmp 80) _ T rfl pk _ p2 rfl (S.piece (ps := ps) pk _ HPM.out) HLE1.out gw ?_; clear S; intro v81 w S) | ((with_reducible refine iO _ (.load 25 _) ?_); refine step_load1 25 _ _ _ rfl (cL) _ Tryd.underlying25 rfl gw ?_) | ((with_reducible refine iO _ (.load 5 _) ?_); refine step_load1 5 _ _ _ rfl (cL) _ Tryd.underlying5 rfl gw ?_) | ((with_reducible refine iO _ (.convert 25 9 _) ?_); refine step_conv 25 9 5 _ _ _ rfl Tryd.underlying25 Tryd.underlying5 Tryd.underlying9 bS gw ?_) | fail)
          go_roundw
          case rel => exact ⟨k + 1, by omega, by go_num, by rw [HMORE.out]; exact S.sub (by repeat (first | exact Sub.nil _ | refine Sub.cons pk ?_))⟩
          case measure => simp [intOf]; omega
        · have j3 : ((p2.length : Int) != (M : Int)) = false := by rw [bne_eq_false_iff_eq]; rw [if_neg (by omega)] at hfr; omega
          have HFR := Lib.hid hfr; clear hfr
          go_wp2_with (first | (at_builtin; refine step_append8 S (.tmp 76) (.tmp 80) _ T rfl pk _ p2 rfl (S.piece (ps := ps) pk _ HPM.out) HLE1.out gw ?_; clear S; intro v81 w S) | ((with_reducible refine iO _ (.load 25 _) ?_); refine step_load1 25 _ _ _ rfl (cL) _ Tryd.underlying25 rfl gw ?_) | ((with_reducible refine iO _ (.load 5 _) ?_); refine step_load1 5 _ _ _ rfl (cL) _ Tryd.underlying5 rfl gw ?_) | ((with_reducible refine iO _ (.convert 25 9 _) ?_); refine step_conv 25 9 5 _ _ _ rfl Tryd.underlying25 Tryd.underlying5 Tryd.underlying9 bS gw ?_) | fail)
          go_roundw
          case rel => exact ⟨k + 1, by omega, by go_num, by rw [HMORE.out]; exact S.sub (by repeat (first | exact Sub.nil _ | refine Sub.cons pk ?_))⟩
          case measure => simp [intOf]; omega
    · obtain rfl : k = N := by omega
      have hki : ¬ (k : Int) < (k : Int) := by omega
      have hall := HALL.out
      obtain ⟨T, hTe⟩ : ∃ T, T = ((ps.take k).map (·.2)).flatten := ⟨_, rfl⟩
      rw [← hTe] at S hall
      have hTl := HT.out k
      rw [← hTe] at hTl
      have hs1 : ¬ 9223372036854775807 < (strB T).size + (strB R).size := by rw [strB_size, strB_size]; have := HW3.out; omega
      have hs2 : (strB T ++ strB R).toList = (strB b).toList := by rw [strB_app, hall]
      clear hTe hTl hall
      go_upto_region 20 with (first | (go_at_call 30; (with_reducible refine (P2.out _ _ (S.bs (v := .slice a18 R.length c18) (xs := R) pk)).mono ?_); rintro e w1 ⟨v85, v86, qs, rfl, hp, T⟩; replace S := S.call T; clear T; (try simp only [z4, z5] at S)) | ((with_reducible refine iO _ (.load 25 _) ?_); refine step_load1 25 _ _ _ rfl (cL) _ Tryd.underlying25 rfl gw ?_) | ((with_reducible refine iO _ (.load 5 _) ?_); refine step_load1 5 _ _ _ rfl (cL) _ Tryd.underlying5 rfl gw ?_) | ((with_reducible refine iO _ (.convert 25 9 _) ?_); refine step_conv 25 9 5 _ _ _ rfl Tryd.underlying25 Tryd.underlying5 Tryd.underlying9 bS gw ?_) | fail)
      obtain rfl := ps_nil hp
      obtain ⟨a85, c85, rfl, _, _⟩ := Sl.shape (S.sl (v := v85) pk)
      go_wp2_with (first | ((with_reducible refine iO _ (.load 25 _) ?_); refine step_load1 25 _ _ _ rfl (cL) _ Tryd.underlying25 rfl gw ?_) | ((with_reducible refine iO _ (.load 5 _) ?_); refine step_load1 5 _ _ _ rfl (cL) _ Tryd.underlying5 rfl gw ?_) | ((with_reducible refine iO _ (.convert 25 9 _) ?_); refine step_conv 25 9 5 _ _ _ rfl Tryd.underlying25 Tryd.underlying5 Tryd.underlying9 bS gw ?_) | fail)
      go_ret
      exact ⟨rfl, S.nil⟩
end Go.Proofs.YtfhkmmagpnojmaaDoor
