/- Are two lists of pieces the same? No condition but the reach. -/
import Derived.Test.YtfhkmmagpnojmaaDoorZBd
import Derived.Test.YtfhkmmagpnojmaaDoorZBg
set_option linter.unusedSimpArgs false
set_option linter.unusedVariables false
namespace Go.Proofs.YtfhkmmagpnojmaaDoor
open Go.RowKit

theorem strB_eqb (x y : List UInt8) : ((strB x).toList == (strB y).toList) = decide (x = y) := by
  rw [ByteArray.toList_eq, ByteArray.toList_eq, strB_list, strB_list, Bool.eq_iff_iff, beq_iff_eq, decide_eq_true_eq]
set_option maxRecDepth 100000 in
set_option maxHeartbeats 2000000 in
theorem sameF_s (v1 v2 : Value) (ps qs : List (Value × List UInt8)) (w0 : World) (h1 : Fr w0 v1 ps) (h2 : Fr w0 v2 qs) :
    Calls Tryd.prog 31 #[v1, v2] w0 fun e w' => e = .returned (.bool (decide (ps.map (·.2) = qs.map (·.2)))) ∧ Has w0 w' [] := by
  have S := Has.start w0
  obtain ⟨a1, c1, rfl, k1, k2⟩ := Sl.shape h1.1
  obtain ⟨a2, c2, rfl, k3, k4⟩ := Sl.shape h2.1
  unfold maxLen at k2 k4
  by_cases hl : ps.length = qs.length
  case neg =>
    rw [decide_eq_false (fun e => hl (by have := congrArg List.length e; simpa using this))]
    have i1 : ((ps.length : Int) != (qs.length : Int)) = true := by rw [bne_iff_ne]; omega
    have H1 := Lib.hid h1; have H2 := Lib.hid h2; clear h1 h2
    clear hl
    go_enter Tryd.func31, Tryd.ntmps31
    go_wp2
    go_ret
    exact ⟨rfl, S⟩
  have i1 : ((ps.length : Int) != (qs.length : Int)) = false := by rw [bne_eq_false_iff_eq]; omega
  have H1 := Lib.hid h1; have H2 := Lib.hid h2; have HL := Lib.hid hl; clear h1 h2 hl
  go_enter Tryd.func31, Tryd.ntmps31
  go_wp2
  go_loopw [5] (fun t wr => ∃ (k : Nat), k ≤ ps.length ∧ t = .int .i64 (k : Int) ∧ (ps.take k).map (·.2) = (qs.take k).map (·.2) ∧ Has w0 wr []) (fun t _ => ps.length - (intOf t).toNat)
  case atStart => exact ⟨0, Nat.zero_le _, rfl, rfl, S⟩
  case round =>
    obtain ⟨k, hk, rfl, heq, S⟩ := hrel
    by_cases hlt : k < ps.length
    · have hlq : k < qs.length := by have := HL.out; omega
      obtain ⟨b1, off1, rfl, hcell1⟩ := H1.out.1.atA (by omega)
      obtain ⟨b2, off2, rfl, hcell2⟩ := H2.out.1.atA (by omega)
      obtain ⟨x, hx⟩ : ∃ x, x = ps[k] := ⟨_, rfl⟩
      obtain ⟨y, hy⟩ : ∃ y, y = qs[k] := ⟨_, rfl⟩
      have hc1 := hcell1 k x.1 (by simp [hx, hlt])
      have hc2 := hcell2 k y.1 (by simp [hy, hlq])
      have hb1 := H1.out.2 x (by rw [hx]; exact List.getElem_mem hlt)
      have hb2 := H2.out.2 y (by rw [hy]; exact List.getElem_mem hlq)
      have hs1 : (ps.take (k + 1)).map (·.2) = (ps.take k).map (·.2) ++ [x.2] := by rw [List.take_succ_eq_append_getElem hlt, List.map_append, hx]; rfl
      have hs2 : (qs.take (k + 1)).map (·.2) = (qs.take k).map (·.2) ++ [y.2] := by rw [List.take_succ_eq_append_getElem hlq, List.map_append, hy]; rfl
      have hd : x.2 ≠ y.2 → ps.map (·.2) ≠ qs.map (·.2) := fun hn e => hn (by
        have := congrArg (fun l => l[k]?) e
        simpa [hlt, hlq, hx, hy] using this)
      obtain ⟨x1, x2⟩ := x
      obtain ⟨y1, y2⟩ := y
      dsimp only at hc1 hc2 hb1 hb2 hs1 hs2 hd
      have hl2 : (k : Int) < (ps.length : Int) := by omega
      have hl3 : (k : Int) < (qs.length : Int) := by omega
      have hne := strB_eqb x2 y2
      obtain ⟨d, hde⟩ : ∃ d, d = decide (x2 = y2) := ⟨_, rfl⟩
      rw [← hde] at hne
      have HC1 := Lib.hid hc1; have HC2 := Lib.hid hc2; have HB1 := Lib.hid hb1; have HB2 := Lib.hid hb2; have HS1 := Lib.hid hs1; have HS2 := Lib.hid hs2; have HD := Lib.hid hd; have HNE := Lib.hid hne; have HEQ := Lib.hid heq; have HDE := Lib.hid hde; clear hc1 hc2 hb1 hb2 hs1 hs2 hd hne heq hde
      clear hx hy hcell1 hcell2
      go_wp2_with (first | ((with_reducible refine iO _ (.load 25 _) ?_); refine step_load1 25 _ _ _ rfl (cL) _ Tryd.underlying25 rfl rfl ?_) | ((with_reducible refine iO _ (.convert 25 9 _) ?_); refine step_conv 25 9 5 _ _ _ rfl Tryd.underlying25 Tryd.underlying5 Tryd.underlying9 bS rfl ?_) | fail)
      refine wp_rely S [⟨[], [], [], fun _ v => v = (.slice (some ⟨b1, off1, none⟩) ps.length c1), fun _ v => []⟩, ⟨[], [], [], fun _ v => v = (.int .i64 (k : Int)), fun _ v => []⟩, ⟨[0, 1], [], [], fun _ v => v = .pointer (some ⟨b1, off1 + k, none⟩), fun _ v => []⟩, ⟨[0, 1, 2], [], [], fun _ v => v = x1, fun _ v => []⟩, ⟨[0, 1, 2, 3], [], [], fun _ v => v = .string (strB x2), fun _ v => []⟩, ⟨[], [], [], fun _ v => v = (.slice (some ⟨b2, off2, none⟩) qs.length c2), fun _ v => []⟩, ⟨[], [], [], fun _ v => v = (.int .i64 (k : Int)), fun _ v => []⟩, ⟨[5, 6], [], [], fun _ v => v = .pointer (some ⟨b2, off2 + k, none⟩), fun _ v => []⟩, ⟨[5, 6, 7], [], [], fun _ v => v = y1, fun _ v => []⟩, ⟨[5, 6, 7, 8], [], [], fun _ v => v = .string (strB y2), fun _ v => []⟩, ⟨[0, 1, 2, 3, 4, 5, 6, 7, 8, 9], [], [], fun _ v => v = .bool (!d), fun _ v => []⟩] ?A1 ?hA1 kR kR kR [0, 1, 2, 3, 4, 5, 6, 7, 8, 9, 10] kR ?hok1 ?fin1
      case hA1 => intro u; simp only [putAll, List.length_cons, List.length_nil, Nat.zero_add, Nat.reduceAdd, dstAt, List.getElem?_toArray, List.getElem?_cons_zero, List.getElem?_cons_succ, Option.bind_some, Act.put, List.setIfInBounds_toArray, List.set_cons_zero, List.set_cons_succ]; rfl
      case hok1 =>
        intro i hi
        obtain rfl | rfl | rfl | rfl | rfl | rfl | rfl | rfl | rfl | rfl | rfl : i = 0 ∨ i = 1 ∨ i = 2 ∨ i = 3 ∨ i = 4 ∨ i = 5 ∨ i = 6 ∨ i = 7 ∨ i = 8 ∨ i = 9 ∨ i = 10 := by simp only [List.length_cons, List.length_nil, Nat.zero_add, Nat.reduceAdd] at hi; omega
        · clear hi
          refine step_of rfl rfl rfl ?_
          intro u G w hf S
          simp only [resOf, spec, RSpec.resAt, z0, z1, z2, z3, z4, z5, z6, z7, ptrBlk] at S ⊢
          simp only [does]
          go_simp
          try first | exact S | exact ⟨vv, S⟩ | exact vv
        · clear hi
          refine step_of rfl rfl rfl ?_
          intro u G w hf S
          simp only [resOf, spec, RSpec.resAt, z0, z1, z2, z3, z4, z5, z6, z7, ptrBlk] at S ⊢
          simp only [does]
          go_simp
          try first | exact S | exact ⟨vv, S⟩ | exact vv
        · clear hi
          refine step_of rfl rfl rfl ?_
          intro u G w hf S
          have f0 : u 0 = (.slice (some ⟨b1, off1, none⟩) ps.length c1) := hf 0 (by simp)
          have f1 : u 1 = (.int .i64 (k : Int)) := hf 1 (by simp)
          simp only [resOf, spec, RSpec.resAt, z0, z1, z2, z3, z4, z5, z6, z7, ptrBlk] at S ⊢
          simp only [f0, f1]
          simp only [does]
          go_simp
          try first | exact S | exact ⟨vv, S⟩ | exact vv
        · clear hi
          refine step_of rfl rfl rfl ?_
          intro u G w hf S
          have f2 : u 2 = .pointer (some ⟨b1, off1 + k, none⟩) := hf 2 (by simp)
          simp only [resOf, spec, RSpec.resAt, z0, z1, z2, z3, z4, z5, z6, z7, ptrBlk] at S ⊢
          simp only [f2]
          refine does_load1 25 (.tmp 19) _ _ rfl (S.old_cell hy) _ Tryd.underlying25 rfl ?_; exact ⟨rfl, S⟩
        · clear hi
          refine step_of rfl rfl rfl ?_
          intro u G w hf S
          have f3 : u 3 = x1 := hf 3 (by simp)
          simp only [resOf, spec, RSpec.resAt, z0, z1, z2, z3, z4, z5, z6, z7, ptrBlk] at S ⊢
          simp only [f3]
          refine does_conv 25 9 5 (.tmp 20) _ _ rfl Tryd.underlying25 Tryd.underlying5 Tryd.underlying9 (S.oldB HB1.out) ?_; exact ⟨rfl, S⟩
        · clear hi
          refine step_of rfl rfl rfl ?_
          intro u G w hf S
          simp only [resOf, spec, RSpec.resAt, z0, z1, z2, z3, z4, z5, z6, z7, ptrBlk] at S ⊢
          simp only [does]
          go_simp
          try first | exact S | exact ⟨vv, S⟩ | exact vv
        · clear hi
          refine step_of rfl rfl rfl ?_
          intro u G w hf S
          simp only [resOf, spec, RSpec.resAt, z0, z1, z2, z3, z4, z5, z6, z7, ptrBlk] at S ⊢
          simp only [does]
          go_simp
          try first | exact S | exact ⟨vv, S⟩ | exact vv
        · clear hi
          refine step_of rfl rfl rfl ?_
          intro u G w hf S
          have f5 : u 5 = (.slice (some ⟨b2, off2, none⟩) qs.length c2) := hf 5 (by simp)
          have f6 : u 6 = (.int .i64 (k : Int)) := hf 6 (by simp)
          simp only [resOf, spec, RSpec.resAt, z0, z1, z2, z3, z4, z5, z6, z7, ptrBlk] at S ⊢
          simp only [f5, f6]
          simp only [does]
          go_simp
          try first | exact S | exact ⟨vv, S⟩ | exact vv
        · clear hi
          refine step_of rfl rfl rfl ?_
          intro u G w hf S
          have f7 : u 7 = .pointer (some ⟨b2, off2 + k, none⟩) := hf 7 (by simp)
          simp only [resOf, spec, RSpec.resAt, z0, z1, z2, z3, z4, z5, z6, z7, ptrBlk] at S ⊢
          simp only [f7]
          refine does_load1 25 (.tmp 24) _ _ rfl (S.old_cell hy) _ Tryd.underlying25 rfl ?_; exact ⟨rfl, S⟩
        · clear hi
          refine step_of rfl rfl rfl ?_
          intro u G w hf S
          have f8 : u 8 = y1 := hf 8 (by simp)
          simp only [resOf, spec, RSpec.resAt, z0, z1, z2, z3, z4, z5, z6, z7, ptrBlk] at S ⊢
          simp only [f8]
          refine does_conv 25 9 5 (.tmp 25) _ _ rfl Tryd.underlying25 Tryd.underlying5 Tryd.underlying9 (S.oldB HB2.out) ?_; exact ⟨rfl, S⟩
        · clear hi
          refine step_of rfl rfl rfl ?_
          intro u G w hf S
          have f4 : u 4 = .string (strB x2) := hf 4 (by simp)
          have f9 : u 9 = .string (strB y2) := hf 9 (by simp)
          simp only [resOf, spec, RSpec.resAt, z0, z1, z2, z3, z4, z5, z6, z7, ptrBlk] at S ⊢
          simp only [f4, f9]
          simp only [does]; go_simp; first | (refine ⟨?_, S⟩; rw [HNE.out]) | (rw [HNE.out])
      case fin1 =>
        intro u w hf S
        have f0 : u 0 = (.slice (some ⟨b1, off1, none⟩) ps.length c1) := hf 0 (by simp)
        have f1 : u 1 = (.int .i64 (k : Int)) := hf 1 (by simp)
        have f2 : u 2 = .pointer (some ⟨b1, off1 + k, none⟩) := hf 2 (by simp)
        have f3 : u 3 = x1 := hf 3 (by simp)
        have f4 : u 4 = .string (strB x2) := hf 4 (by simp)
        have f5 : u 5 = (.slice (some ⟨b2, off2, none⟩) qs.length c2) := hf 5 (by simp)
        have f6 : u 6 = (.int .i64 (k : Int)) := hf 6 (by simp)
        have f7 : u 7 = .pointer (some ⟨b2, off2 + k, none⟩) := hf 7 (by simp)
        have f8 : u 8 = y1 := hf 8 (by simp)
        have f9 : u 9 = .string (strB y2) := hf 9 (by simp)
        have f10 : u 10 = .bool (!d) := hf 10 (by simp)
        simp only [resOf, spec, RSpec.resAt, z0, z1, z2, z3, z4, z5, z6, z7, ptrBlk] at S
        clear hf
        simp only [List.length_cons, List.length_nil, Nat.zero_add, Nat.reduceAdd, List.drop_succ_cons, List.drop_zero, f0, f1, f2, f3, f4, f5, f6, f7, f8, f9, f10]
        clear f0 f1 f2 f3 f4 f5 f6 f7 f8 f9 f10
        cases d
        · go_wp2_with (first | ((with_reducible refine iO _ (.load 25 _) ?_); refine step_load1 25 _ _ _ rfl (cL) _ Tryd.underlying25 rfl rfl ?_) | ((with_reducible refine iO _ (.convert 25 9 _) ?_); refine step_conv 25 9 5 _ _ _ rfl Tryd.underlying25 Tryd.underlying5 Tryd.underlying9 bS rfl ?_) | fail)
          go_ret
          exact ⟨by rw [decide_eq_false (HD.out (of_decide_eq_false HDE.out.symm))]; rfl, S⟩
        · go_wp2_with (first | ((with_reducible refine iO _ (.load 25 _) ?_); refine step_load1 25 _ _ _ rfl (cL) _ Tryd.underlying25 rfl rfl ?_) | ((with_reducible refine iO _ (.convert 25 9 _) ?_); refine step_conv 25 9 5 _ _ _ rfl Tryd.underlying25 Tryd.underlying5 Tryd.underlying9 bS rfl ?_) | fail)
          go_roundw
          case rel => exact ⟨k + 1, by omega, by go_num, by rw [HS1.out, HS2.out, HEQ.out, of_decide_eq_true HDE.out.symm], S⟩
          case measure => simp [intOf]; omega
    · obtain rfl : k = ps.length := by omega
      rw [List.take_length, HL.out, List.take_length] at heq
      have hl2 : ¬ (ps.length : Int) < (ps.length : Int) := by omega
      have HEQ := Lib.hid heq; clear heq
      go_wp2_with (first | ((with_reducible refine iO _ (.load 25 _) ?_); refine step_load1 25 _ _ _ rfl (cL) _ Tryd.underlying25 rfl rfl ?_) | ((with_reducible refine iO _ (.convert 25 9 _) ?_); refine step_conv 25 9 5 _ _ _ rfl Tryd.underlying25 Tryd.underlying5 Tryd.underlying9 bS rfl ?_) | fail)
      go_ret
      exact ⟨by rw [decide_eq_true HEQ.out]; rfl, S⟩
end Go.Proofs.YtfhkmmagpnojmaaDoor
