/- Pieces: SplitAll, SameFrames, spoil, and WireSplits' walk. No condition but the reach. -/
import Derived.Test.YtfhkmmagpnojmaaBd
import Derived.Test.YtfhkmmagpnojmaaBg
import Derived.Test.YtfhkmmagpnojmaaBe
set_option linter.unusedSimpArgs false
set_option linter.unusedVariables false
namespace Go.Proofs.Ytfhkmmagpnojmaa
open Go.RowKit

set_option maxRecDepth 100000 in
set_option maxHeartbeats 2000000 in
theorem splitAll_s (v : Value) (b : List UInt8) (w0 : World) (h : Bs w0 v b) :
    Calls Try.prog 7 #[v] w0 (MadeF3 w0 (spX b) (spE b.length)) := by
  have S := Has.start w0
  obtain ⟨a0, c0, rfl, k1, k2⟩ := Sl.shape h
  unfold maxLen at k2
  by_cases hbig : 4160 < b.length
  · rw [show spX b = ([], []) from if_neg (by omega), show spE b.length = 4 from if_neg (by omega)]
    have i1 : 4160 < (b.length : Int) := by omega
    have H := Lib.hid h; clear h
    go_enter Try.func7, Try.ntmps7
    go_wp2
    go_ret3
    exact ⟨_, _, [], rfl, rfl, (S.nil_row 5 1).nilF⟩
  · rw [show spX b = splitB b from if_pos (by omega), show spE b.length = 0 from if_pos (by omega)]
    have i1 : ¬ 4160 < (b.length : Int) := by omega
    have p1 := fun v w h => refSplit_s v b w h (by omega)
    obtain ⟨X, hX⟩ : ∃ X, X = splitB b := ⟨_, rfl⟩
    rw [← hX] at p1 ⊢
    have H := Lib.hid h; have P1 := Lib.hid p1; clear h p1
    clear hX
    go_enter Try.func7, Try.ntmps7
    go_wp2_with (first | (go_at_call 25; (with_reducible refine (P1.out _ _ (by first | assumption | exact S.oldB (Hid.out (by assumption)) | exact Bs.mk0 _ _ | exact S.bs pk | exact S.bsr pk)).mono ?_); rintro e w1 ⟨v1, v2, ps, rfl, hps, T⟩; replace S := S.call T; clear T; (try simp only [List.nil_append, List.cons_append] at S); have HPS := Lib.hid hps; clear hps) | fail)
    go_ret3
    simp only [List.append_nil] at S
    exact ⟨_, _, ps, rfl, HPS.out, S⟩

theorem strB_eqb (x y : List UInt8) : ((strB x).toList == (strB y).toList) = decide (x = y) := by
  rw [ByteArray.toList_eq, ByteArray.toList_eq, strB_list, strB_list, Bool.eq_iff_iff, beq_iff_eq, decide_eq_true_eq]

set_option maxRecDepth 100000 in
set_option maxHeartbeats 2000000 in
theorem sameF_s (v1 v2 : Value) (ps qs : List (Value × List UInt8)) (w0 : World) (h1 : Fr w0 v1 ps) (h2 : Fr w0 v2 qs) :
    Calls Try.prog 8 #[v1, v2] w0 fun e w' => e = .returned (.bool (decide (ps.map (·.2) = qs.map (·.2)))) ∧ Has w0 w' [] := by
  have S := Has.start w0
  obtain ⟨a1, c1, rfl, k1, k2⟩ := Sl.shape h1.1
  obtain ⟨a2, c2, rfl, k3, k4⟩ := Sl.shape h2.1
  unfold maxLen at k2 k4
  by_cases hl : ps.length = qs.length
  case neg =>
    rw [decide_eq_false (fun e => hl (by have := congrArg List.length e; simpa using this))]
    have i1 : ((ps.length : Int) != (qs.length : Int)) = true := by rw [bne_iff_ne]; omega
    have H1 := Lib.hid h1; have H2 := Lib.hid h2; clear h1 h2
    clear hl
    go_enter Try.func8, Try.ntmps8
    go_wp2
    go_ret
    exact ⟨rfl, S⟩
  have i1 : ((ps.length : Int) != (qs.length : Int)) = false := by rw [bne_eq_false_iff_eq]; omega
  have H1 := Lib.hid h1; have H2 := Lib.hid h2; have HL := Lib.hid hl; clear h1 h2 hl
  go_enter Try.func8, Try.ntmps8
  go_wp2
  go_loopw [5] (fun t wr => ∃ (k : Nat), k ≤ ps.length ∧ t = .int .i64 (k : Int) ∧ (ps.take k).map (·.2) = (qs.take k).map (·.2) ∧ Has w0 wr []) (fun t _ => ps.length - (intOf t).toNat)
  case atStart => exact ⟨0, Nat.zero_le _, rfl, rfl, S⟩
  case round =>
    obtain ⟨k, hk, rfl, heq, S⟩ := hrel
    by_cases hlt : k < ps.length
    · have hlq : k < qs.length := by have := HL.out; omega
      obtain ⟨b1, off1, rfl, hcell1⟩ := H1.out.1.atA (by omega)
      obtain ⟨b2, off2, rfl, hcell2⟩ := H2.out.1.atA (by omega)
      obtain ⟨x, hx⟩ : ∃ x, x = ps[k] := ⟨_, rfl⟩
      obtain ⟨y, hy⟩ : ∃ y, y = qs[k] := ⟨_, rfl⟩
      have hc1 := hcell1 k x.1 (by simp [hx, hlt])
      have hc2 := hcell2 k y.1 (by simp [hy, hlq])
      have hb1 := H1.out.2 x (by rw [hx]; exact List.getElem_mem hlt)
      have hb2 := H2.out.2 y (by rw [hy]; exact List.getElem_mem hlq)
      have hs1 : (ps.take (k + 1)).map (·.2) = (ps.take k).map (·.2) ++ [x.2] := by rw [List.take_succ_eq_append_getElem hlt, List.map_append, hx]; rfl
      have hs2 : (qs.take (k + 1)).map (·.2) = (qs.take k).map (·.2) ++ [y.2] := by rw [List.take_succ_eq_append_getElem hlq, List.map_append, hy]; rfl
      have hd : x.2 ≠ y.2 → ps.map (·.2) ≠ qs.map (·.2) := fun hn e => hn (by
        have := congrArg (fun l => l[k]?) e
        simpa [hlt, hlq, hx, hy] using this)
      obtain ⟨x1, x2⟩ := x
      obtain ⟨y1, y2⟩ := y
      dsimp only at hc1 hc2 hb1 hb2 hs1 hs2 hd
      have hl2 : (k : Int) < (ps.length : Int) := by omega
      have hl3 : (k : Int) < (qs.length : Int) := by omega
      have hne := strB_eqb x2 y2
      obtain ⟨d, hde⟩ : ∃ d, d = decide (x2 = y2) := ⟨_, rfl⟩
      rw [← hde] at hne
      have HC1 := Lib.hid hc1; have HC2 := Lib.hid hc2; have HB1 := Lib.hid hb1; have HB2 := Lib.hid hb2; have HS1 := Lib.hid hs1; have HS2 := Lib.hid hs2; have HD := Lib.hid hd; have HNE := Lib.hid hne; have HEQ := Lib.hid heq; have HDE := Lib.hid hde; clear hc1 hc2 hb1 hb2 hs1 hs2 hd hne heq hde
      clear hx hy hcell1 hcell2
      go_wp2_with (first | ((with_reducible show wpList _ _ _ (⟨_, .load 22 _, _, _, _, _⟩ :: _) _ _); first | (refine step_load1 22 _ _ _ rfl (S.cell pk co) _ Try.underlying22 rfl rfl ?_) | (refine step_load1 22 _ _ _ rfl (S.row_cell pk _ _ hyr) _ Try.underlying22 rfl rfl ?_) | (refine step_load1 22 _ _ _ rfl (S.row_cellS pk _ _ hy) _ Try.underlying22 rfl rfl ?_) | (refine step_load1 22 _ _ _ rfl (S.old_cell hy) _ Try.underlying22 rfl rfl ?_)) | ((with_reducible show wpList _ _ _ (⟨_, .convert 22 9 _, _, _, _, _⟩ :: _) _ _); refine step_conv 22 9 5 _ _ _ rfl Try.underlying22 Try.underlying5 Try.underlying9 (by first | assumption | exact S.oldB (Hid.out (by assumption)) | exact Bs.mk0 _ _ | exact S.bs pk | exact S.bsr pk) rfl ?_) | fail)
      refine wp_rely S [⟨[], [], [], fun _ v => v = (.slice (some ⟨b1, off1, none⟩) ps.length c1), fun _ v => []⟩, ⟨[], [], [], fun _ v => v = (.int .i64 (k : Int)), fun _ v => []⟩, ⟨[0, 1], [], [], fun _ v => v = .pointer (some ⟨b1, off1 + k, none⟩), fun _ v => []⟩, ⟨[0, 1, 2], [], [], fun _ v => v = x1, fun _ v => []⟩, ⟨[0, 1, 2, 3], [], [], fun _ v => v = .string (strB x2), fun _ v => []⟩, ⟨[], [], [], fun _ v => v = (.slice (some ⟨b2, off2, none⟩) qs.length c2), fun _ v => []⟩, ⟨[], [], [], fun _ v => v = (.int .i64 (k : Int)), fun _ v => []⟩, ⟨[5, 6], [], [], fun _ v => v = .pointer (some ⟨b2, off2 + k, none⟩), fun _ v => []⟩, ⟨[5, 6, 7], [], [], fun _ v => v = y1, fun _ v => []⟩, ⟨[5, 6, 7, 8], [], [], fun _ v => v = .string (strB y2), fun _ v => []⟩, ⟨[0, 1, 2, 3, 4, 5, 6, 7, 8, 9], [], [], fun _ v => v = .bool (!d), fun _ v => []⟩] ?A1 ?hA1 (by kernel_rfl) (by kernel_rfl) (by kernel_rfl) [0, 1, 2, 3, 4, 5, 6, 7, 8, 9, 10] (by kernel_rfl) ?hok1 ?fin1
      case hA1 => intro u; simp only [putAll, List.length_cons, List.length_nil, Nat.zero_add, Nat.reduceAdd, dstAt, List.getElem?_toArray, List.getElem?_cons_zero, List.getElem?_cons_succ, Option.bind_some, Act.put, List.setIfInBounds_toArray, List.set_cons_zero, List.set_cons_succ]; rfl
      case hok1 =>
        intro i hi
        obtain rfl | rfl | rfl | rfl | rfl | rfl | rfl | rfl | rfl | rfl | rfl : i = 0 ∨ i = 1 ∨ i = 2 ∨ i = 3 ∨ i = 4 ∨ i = 5 ∨ i = 6 ∨ i = 7 ∨ i = 8 ∨ i = 9 ∨ i = 10 := by simp only [List.length_cons, List.length_nil, Nat.zero_add, Nat.reduceAdd] at hi; omega
        · clear hi
          refine step_of rfl rfl rfl ?_
          intro u G w hf S
          simp only [resOf, spec, RSpec.resAt, z0, z1, z2, z3, z4, z5, z6, z7, ptrBlk] at S ⊢
          simp only [does]
          go_simp
          try first | exact S | exact ⟨vv, S⟩ | exact vv
        · clear hi
          refine step_of rfl rfl rfl ?_
          intro u G w hf S
          simp only [resOf, spec, RSpec.resAt, z0, z1, z2, z3, z4, z5, z6, z7, ptrBlk] at S ⊢
          simp only [does]
          go_simp
          try first | exact S | exact ⟨vv, S⟩ | exact vv
        · clear hi
          refine step_of rfl rfl rfl ?_
          intro u G w hf S
          have f0 : u 0 = (.slice (some ⟨b1, off1, none⟩) ps.length c1) := hf 0 (by simp)
          have f1 : u 1 = (.int .i64 (k : Int)) := hf 1 (by simp)
          simp only [resOf, spec, RSpec.resAt, z0, z1, z2, z3, z4, z5, z6, z7, ptrBlk] at S ⊢
          simp only [f0, f1]
          simp only [does]
          go_simp
          try first | exact S | exact ⟨vv, S⟩ | exact vv
        · clear hi
          refine step_of rfl rfl rfl ?_
          intro u G w hf S
          have f0 : u 0 = (.slice (some ⟨b1, off1, none⟩) ps.length c1) := hf 0 (by simp)
          have f1 : u 1 = (.int .i64 (k : Int)) := hf 1 (by simp)
          have f2 : u 2 = .pointer (some ⟨b1, off1 + k, none⟩) := hf 2 (by simp)
          simp only [resOf, spec, RSpec.resAt, z0, z1, z2, z3, z4, z5, z6, z7, ptrBlk] at S ⊢
          simp only [f0, f1, f2]
          refine does_load1 22 (.tmp 19) _ _ rfl (S.old_cell hy) _ Try.underlying22 rfl ?_; exact ⟨rfl, S⟩
        · clear hi
          refine step_of rfl rfl rfl ?_
          intro u G w hf S
          have f0 : u 0 = (.slice (some ⟨b1, off1, none⟩) ps.length c1) := hf 0 (by simp)
          have f1 : u 1 = (.int .i64 (k : Int)) := hf 1 (by simp)
          have f2 : u 2 = .pointer (some ⟨b1, off1 + k, none⟩) := hf 2 (by simp)
          have f3 : u 3 = x1 := hf 3 (by simp)
          simp only [resOf, spec, RSpec.resAt, z0, z1, z2, z3, z4, z5, z6, z7, ptrBlk] at S ⊢
          simp only [f0, f1, f2, f3]
          refine does_conv 22 9 5 (.tmp 20) _ _ rfl Try.underlying22 Try.underlying5 Try.underlying9 (S.oldB HB1.out) ?_; exact ⟨rfl, S⟩
        · clear hi
          refine step_of rfl rfl rfl ?_
          intro u G w hf S
          simp only [resOf, spec, RSpec.resAt, z0, z1, z2, z3, z4, z5, z6, z7, ptrBlk] at S ⊢
          simp only [does]
          go_simp
          try first | exact S | exact ⟨vv, S⟩ | exact vv
        · clear hi
          refine step_of rfl rfl rfl ?_
          intro u G w hf S
          simp only [resOf, spec, RSpec.resAt, z0, z1, z2, z3, z4, z5, z6, z7, ptrBlk] at S ⊢
          simp only [does]
          go_simp
          try first | exact S | exact ⟨vv, S⟩ | exact vv
        · clear hi
          refine step_of rfl rfl rfl ?_
          intro u G w hf S
          have f5 : u 5 = (.slice (some ⟨b2, off2, none⟩) qs.length c2) := hf 5 (by simp)
          have f6 : u 6 = (.int .i64 (k : Int)) := hf 6 (by simp)
          simp only [resOf, spec, RSpec.resAt, z0, z1, z2, z3, z4, z5, z6, z7, ptrBlk] at S ⊢
          simp only [f5, f6]
          simp only [does]
          go_simp
          try first | exact S | exact ⟨vv, S⟩ | exact vv
        · clear hi
          refine step_of rfl rfl rfl ?_
          intro u G w hf S
          have f5 : u 5 = (.slice (some ⟨b2, off2, none⟩) qs.length c2) := hf 5 (by simp)
          have f6 : u 6 = (.int .i64 (k : Int)) := hf 6 (by simp)
          have f7 : u 7 = .pointer (some ⟨b2, off2 + k, none⟩) := hf 7 (by simp)
          simp only [resOf, spec, RSpec.resAt, z0, z1, z2, z3, z4, z5, z6, z7, ptrBlk] at S ⊢
          simp only [f5, f6, f7]
          refine does_load1 22 (.tmp 24) _ _ rfl (S.old_cell hy) _ Try.underlying22 rfl ?_; exact ⟨rfl, S⟩
        · clear hi
          refine step_of rfl rfl rfl ?_
          intro u G w hf S
          have f5 : u 5 = (.slice (some ⟨b2, off2, none⟩) qs.length c2) := hf 5 (by simp)
          have f6 : u 6 = (.int .i64 (k : Int)) := hf 6 (by simp)
          have f7 : u 7 = .pointer (some ⟨b2, off2 + k, none⟩) := hf 7 (by simp)
          have f8 : u 8 = y1 := hf 8 (by simp)
          simp only [resOf, spec, RSpec.resAt, z0, z1, z2, z3, z4, z5, z6, z7, ptrBlk] at S ⊢
          simp only [f5, f6, f7, f8]
          refine does_conv 22 9 5 (.tmp 25) _ _ rfl Try.underlying22 Try.underlying5 Try.underlying9 (S.oldB HB2.out) ?_; exact ⟨rfl, S⟩
        · clear hi
          refine step_of rfl rfl rfl ?_
          intro u G w hf S
          have f0 : u 0 = (.slice (some ⟨b1, off1, none⟩) ps.length c1) := hf 0 (by simp)
          have f1 : u 1 = (.int .i64 (k : Int)) := hf 1 (by simp)
          have f2 : u 2 = .pointer (some ⟨b1, off1 + k, none⟩) := hf 2 (by simp)
          have f3 : u 3 = x1 := hf 3 (by simp)
          have f4 : u 4 = .string (strB x2) := hf 4 (by simp)
          have f5 : u 5 = (.slice (some ⟨b2, off2, none⟩) qs.length c2) := hf 5 (by simp)
          have f6 : u 6 = (.int .i64 (k : Int)) := hf 6 (by simp)
          have f7 : u 7 = .pointer (some ⟨b2, off2 + k, none⟩) := hf 7 (by simp)
          have f8 : u 8 = y1 := hf 8 (by simp)
          have f9 : u 9 = .string (strB y2) := hf 9 (by simp)
          simp only [resOf, spec, RSpec.resAt, z0, z1, z2, z3, z4, z5, z6, z7, ptrBlk] at S ⊢
          simp only [f0, f1, f2, f3, f4, f5, f6, f7, f8, f9]
          simp only [does]; go_simp; first | (refine ⟨?_, S⟩; rw [HNE.out]) | (rw [HNE.out])
      case fin1 =>
        intro u w hf S
        have f0 : u 0 = (.slice (some ⟨b1, off1, none⟩) ps.length c1) := hf 0 (by simp)
        have f1 : u 1 = (.int .i64 (k : Int)) := hf 1 (by simp)
        have f2 : u 2 = .pointer (some ⟨b1, off1 + k, none⟩) := hf 2 (by simp)
        have f3 : u 3 = x1 := hf 3 (by simp)
        have f4 : u 4 = .string (strB x2) := hf 4 (by simp)
        have f5 : u 5 = (.slice (some ⟨b2, off2, none⟩) qs.length c2) := hf 5 (by simp)
        have f6 : u 6 = (.int .i64 (k : Int)) := hf 6 (by simp)
        have f7 : u 7 = .pointer (some ⟨b2, off2 + k, none⟩) := hf 7 (by simp)
        have f8 : u 8 = y1 := hf 8 (by simp)
        have f9 : u 9 = .string (strB y2) := hf 9 (by simp)
        have f10 : u 10 = .bool (!d) := hf 10 (by simp)
        simp only [resOf, spec, RSpec.resAt, z0, z1, z2, z3, z4, z5, z6, z7, ptrBlk] at S
        clear hf
        simp only [List.length_cons, List.length_nil, Nat.zero_add, Nat.reduceAdd, List.drop_succ_cons, List.drop_zero, f0, f1, f2, f3, f4, f5, f6, f7, f8, f9, f10]
        clear f0 f1 f2 f3 f4 f5 f6 f7 f8 f9 f10
        cases d
        · go_wp2_with (first | ((with_reducible show wpList _ _ _ (⟨_, .load 22 _, _, _, _, _⟩ :: _) _ _); first | (refine step_load1 22 _ _ _ rfl (S.cell pk co) _ Try.underlying22 rfl rfl ?_) | (refine step_load1 22 _ _ _ rfl (S.row_cell pk _ _ hyr) _ Try.underlying22 rfl rfl ?_) | (refine step_load1 22 _ _ _ rfl (S.row_cellS pk _ _ hy) _ Try.underlying22 rfl rfl ?_) | (refine step_load1 22 _ _ _ rfl (S.old_cell hy) _ Try.underlying22 rfl rfl ?_)) | ((with_reducible show wpList _ _ _ (⟨_, .convert 22 9 _, _, _, _, _⟩ :: _) _ _); refine step_conv 22 9 5 _ _ _ rfl Try.underlying22 Try.underlying5 Try.underlying9 (by first | assumption | exact S.oldB (Hid.out (by assumption)) | exact Bs.mk0 _ _ | exact S.bs pk | exact S.bsr pk) rfl ?_) | fail)
          go_ret
          exact ⟨by rw [decide_eq_false (HD.out (of_decide_eq_false HDE.out.symm))]; rfl, S⟩
        · go_wp2_with (first | ((with_reducible show wpList _ _ _ (⟨_, .load 22 _, _, _, _, _⟩ :: _) _ _); first | (refine step_load1 22 _ _ _ rfl (S.cell pk co) _ Try.underlying22 rfl rfl ?_) | (refine step_load1 22 _ _ _ rfl (S.row_cell pk _ _ hyr) _ Try.underlying22 rfl rfl ?_) | (refine step_load1 22 _ _ _ rfl (S.row_cellS pk _ _ hy) _ Try.underlying22 rfl rfl ?_) | (refine step_load1 22 _ _ _ rfl (S.old_cell hy) _ Try.underlying22 rfl rfl ?_)) | ((with_reducible show wpList _ _ _ (⟨_, .convert 22 9 _, _, _, _, _⟩ :: _) _ _); refine step_conv 22 9 5 _ _ _ rfl Try.underlying22 Try.underlying5 Try.underlying9 (by first | assumption | exact S.oldB (Hid.out (by assumption)) | exact Bs.mk0 _ _ | exact S.bs pk | exact S.bsr pk) rfl ?_) | fail)
          go_roundw
          case rel => exact ⟨k + 1, by omega, by go_num, by rw [HS1.out, HS2.out, HEQ.out, of_decide_eq_true HDE.out.symm], S⟩
          case measure => simp [intOf]; omega
    · obtain rfl : k = ps.length := by omega
      rw [List.take_length, HL.out, List.take_length] at heq
      have hl2 : ¬ (ps.length : Int) < (ps.length : Int) := by omega
      have HEQ := Lib.hid heq; clear heq
      go_wp2_with (first | ((with_reducible show wpList _ _ _ (⟨_, .load 22 _, _, _, _, _⟩ :: _) _ _); first | (refine step_load1 22 _ _ _ rfl (S.cell pk co) _ Try.underlying22 rfl rfl ?_) | (refine step_load1 22 _ _ _ rfl (S.row_cell pk _ _ hyr) _ Try.underlying22 rfl rfl ?_) | (refine step_load1 22 _ _ _ rfl (S.row_cellS pk _ _ hy) _ Try.underlying22 rfl rfl ?_) | (refine step_load1 22 _ _ _ rfl (S.old_cell hy) _ Try.underlying22 rfl rfl ?_)) | ((with_reducible show wpList _ _ _ (⟨_, .convert 22 9 _, _, _, _, _⟩ :: _) _ _); refine step_conv 22 9 5 _ _ _ rfl Try.underlying22 Try.underlying5 Try.underlying9 (by first | assumption | exact S.oldB (Hid.out (by assumption)) | exact Bs.mk0 _ _ | exact S.bs pk | exact S.bsr pk) rfl ?_) | fail)
      go_ret
      exact ⟨by rw [decide_eq_true HEQ.out]; rfl, S⟩

theorem xor1 (y : UInt8) : bits .xor .u8 (y.toNat : Int) 1 = ((y ^^^ 1).toNat : Int) := by
  have := u8_xor_nat y.toNat 1 y.toNat_lt (by decide)
  rw [UInt8.toNat_xor]
  exact this

set_option maxRecDepth 100000 in
set_option maxHeartbeats 2000000 in
theorem spoil_s (v : Value) (xs : List UInt8) (w0 w1 : World) (F : List Res) (S : Has w0 w1 (row8 v xs :: F)) :
    Calls Try.prog 9 #[v] w1 fun e w' => e = .returned (.tuple #[]) ∧ ∃ ys, ys.length = xs.length ∧ Has w0 w' (row8 v ys :: F) := by
  obtain ⟨a0, c0, rfl, k1, k2⟩ := Sl.shape (S.bs (Pick.head _ _))
  unfold maxLen at k2
  obtain ⟨n, hn⟩ : ∃ n, n = xs.length := ⟨_, rfl⟩
  rw [← hn] at k1 S ⊢
  have HN := Lib.hid hn
  clear hn
  go_enter Try.func9, Try.ntmps9
  go_wp2
  go_loopw [2] (fun t wr => ∃ (k : Nat) (ys : List UInt8), k ≤ n ∧ t = .int .i64 (k : Int) ∧ ys.length = n ∧ Has w0 wr (row8 (.slice a0 n c0) ys :: F)) (fun t _ => n - (intOf t).toNat)
  case atStart => exact ⟨0, xs, Nat.zero_le _, rfl, HN.out.symm, S⟩
  case round =>
    clear S
    obtain ⟨k, ys, hk, rfl, hy, S⟩ := hrel
    by_cases hlt : k < n
    · obtain ⟨g, c, e, _⟩ := S.row_at (Pick.head _ _) (by omega)
      simp only [Value.slice.injEq] at e
      obtain ⟨rfl, _, rfl⟩ := e
      have hky : k < ys.length := by omega
      obtain ⟨y, hye⟩ : ∃ y, y = ys[k] := ⟨_, rfl⟩
      have hc : (ys.map by8)[k]? = some (by8 y) := by simp [hye, hky]
      have hx := xor1 y
      have hks : k < (ys.map by8).length := by simp; omega
      have hki : (k : Int) < (n : Int) := by omega
      subst hy
      have HC := Lib.hid hc; have HX := Lib.hid hx; have HKS := Lib.hid hks; clear hc hx hks
      clear hye
      go_wp2_with (first | ((with_reducible show wpList _ _ _ (⟨_, .load 5 _, _, _, _, _⟩ :: _) _ _); first | (refine step_load1 5 _ _ _ rfl (S.cell pk co) _ Try.underlying5 rfl rfl ?_) | (refine step_load1 5 _ _ _ rfl (S.row_cell pk _ _ hyr) _ Try.underlying5 rfl rfl ?_) | (refine step_load1 5 _ _ _ rfl (S.row_cellS pk _ _ hy) _ Try.underlying5 rfl rfl ?_) | (refine step_load1 5 _ _ _ rfl (S.old_cell hy) _ Try.underlying5 rfl rfl ?_)) | ((with_reducible show wpList _ _ _ (⟨none, .store 5 (.tmp 14) (.tmp 13), _, _, _, _⟩ :: _) _ _); first | (refine step_store1 S 5 (.tmp 14) (.tmp 13) _ _ (.int _ _) rfl rfl _ _ pk (by kernel_rfl) rfl rfl (by first | rfl | (first | rfl | assumption | (exact Hid.out (by assumption)) | (rw [arr8_size]; first | rfl | assumption | (exact Hid.out (by assumption)) | exact List.length_replicate ..) | (simp [arr8_size]; done))) rfl ?_; clear S; intro w S; try simp only [List.setIfInBounds_toArray, List.set_cons_zero, List.set_cons_succ] at S) | (refine step_storeR S 5 (.tmp 14) (.tmp 13) _ _ (.int _ _) rfl rfl _ _ _ _ pk (by (first | omega | assumption | (exact Hid.out (by assumption)) | (simp only [List.length_append, List.length_cons, List.length_nil]; omega))) (by kernel_rfl) rfl rfl rfl ?_; clear S; intro w S) | (refine step_storeS S 5 (.tmp 14) (.tmp 13) _ _ (.int _ _) rfl rfl _ _ _ _ _ pk (by (first | omega | assumption | (exact Hid.out (by assumption)) | (simp only [List.length_append, List.length_cons, List.length_nil]; omega))) (by kernel_rfl) rfl rfl rfl ?_; clear S; intro w S)) | fail)
      go_roundw
      case rel =>
        refine ⟨k + 1, ys.set k (y ^^^ 1), by omega, by go_num, by simp, ?_⟩
        show Has w0 _ (row _ _ _ (ys.set k (y ^^^ 1)).length _ :: F)
        rw [List.length_set, List.map_set]
        rw [HX.out] at S
        exact S
      case measure => simp [intOf]; omega
    · obtain rfl : k = n := by omega
      have hl2 : ¬ (k : Int) < (k : Int) := by omega
      go_wp2_with (first | ((with_reducible show wpList _ _ _ (⟨_, .load 5 _, _, _, _, _⟩ :: _) _ _); first | (refine step_load1 5 _ _ _ rfl (S.cell pk co) _ Try.underlying5 rfl rfl ?_) | (refine step_load1 5 _ _ _ rfl (S.row_cell pk _ _ hyr) _ Try.underlying5 rfl rfl ?_) | (refine step_load1 5 _ _ _ rfl (S.row_cellS pk _ _ hy) _ Try.underlying5 rfl rfl ?_) | (refine step_load1 5 _ _ _ rfl (S.old_cell hy) _ Try.underlying5 rfl rfl ?_)) | ((with_reducible show wpList _ _ _ (⟨none, .store 5 (.tmp 14) (.tmp 13), _, _, _, _⟩ :: _) _ _); first | (refine step_store1 S 5 (.tmp 14) (.tmp 13) _ _ (.int _ _) rfl rfl _ _ pk (by kernel_rfl) rfl rfl (by first | rfl | (first | rfl | assumption | (exact Hid.out (by assumption)) | (rw [arr8_size]; first | rfl | assumption | (exact Hid.out (by assumption)) | exact List.length_replicate ..) | (simp [arr8_size]; done))) rfl ?_; clear S; intro w S; try simp only [List.setIfInBounds_toArray, List.set_cons_zero, List.set_cons_succ] at S) | (refine step_storeR S 5 (.tmp 14) (.tmp 13) _ _ (.int _ _) rfl rfl _ _ _ _ pk (by (first | omega | assumption | (exact Hid.out (by assumption)) | (simp only [List.length_append, List.length_cons, List.length_nil]; omega))) (by kernel_rfl) rfl rfl rfl ?_; clear S; intro w S) | (refine step_storeS S 5 (.tmp 14) (.tmp 13) _ _ (.int _ _) rfl rfl _ _ _ _ _ pk (by (first | omega | assumption | (exact Hid.out (by assumption)) | (simp only [List.length_append, List.length_cons, List.length_nil]; omega))) (by kernel_rfl) rfl rfl rfl ?_; clear S; intro w S)) | fail)
      go_end0
      exact ⟨rfl, ys, hy, S⟩

theorem set_same {α : Type} {l : List α} {k : Nat} {x : α} (h : l[k]? = some x) : l.set k x = l := by
  obtain ⟨hk, rfl⟩ := List.getElem?_eq_some_iff.1 h
  exact List.set_getElem_self hk

theorem Has.endF {w0 w : World} {A B : Res} {ps : List (Value × List UInt8)} {l : List Res} (S : Has w0 w (A :: B :: (frs ps ++ l))) : Has w0 w (A :: B :: (l ++ frs ps)) := S.perm (List.Perm.cons _ (List.Perm.cons _ List.perm_append_comm))
theorem Has.frM {w0 w : World} {l F : List Res} {v : Value} {ps : List (Value × List UInt8)} (S : Has w0 w l) (h : Pick l (rowF v ps) F) (hm : ∀ r ∈ frs ps, r ∈ l) : Fr w v ps := S.fr h fun _ hp => hm _ (frs_mem hp)

set_option maxRecDepth 100000 in
set_option maxHeartbeats 4000000 in
theorem wireSplits_walk (v : Value) (b : List UInt8) (w0 : World) (h1 : Bs w0 v b) (hb : b.length ≤ 140737488351232) :
    Calls Try.prog 3 #[v] w0 fun e w' => e = .returned (.bool true) ∧ Has w0 w' [] := by
  have S := Has.start w0
  obtain ⟨a0, c0, rfl, k1, k2⟩ := Sl.shape h1
  unfold maxLen at k2
  have p1 := fun v w h => split_s v b w h
  have p2 := fun v w h => splitAll_s v b w h
  have hle : ([] : List UInt8).length + b.length ≤ 140737488355328 := by simp; omega
  obtain ⟨X, hX⟩ : ∃ X, X = spX b := ⟨_, rfl⟩
  obtain ⟨E, hE⟩ : ∃ E, E = spE b.length := ⟨_, rfl⟩
  rw [← hX, ← hE] at p1 p2
  obtain ⟨X1, R⟩ := X
  have H1 := Lib.hid h1; have P1 := Lib.hid p1; have P2 := Lib.hid p2; have HLE := Lib.hid hle; clear h1 p1 p2 hle
  clear hX hE
  go_enter Try.func3, Try.ntmps3
  go_wp2_with (first | (at_builtin; refine step_append8 S (.tmp 11) (.tmp 12) v11 [] rfl pk _ b rfl (S.oldB H1.out) HLE.out gw ?_; clear S; intro v13 w S; simp only [List.nil_append] at S) | ((with_reducible show wpList _ _ _ (⟨some 11, .buildSlice 22 0 _, _, _, _, _⟩ :: _) _ _); refine step_build8 S 0 _ [] (by first | rfl | kernel_rfl) rfl (by decide) gw ?_; clear S; intro v11 w S) | (go_at_call 6; (with_reducible refine (P1.out _ _ (by first | assumption | exact S.oldB (Hid.out (by assumption)) | exact Bs.mk0 _ _ | exact S.bs pk | exact S.bsr pk)).mono ?_); rintro e w1 ⟨v4, v5, ps, rfl, hps, T⟩; replace S := S.call T; clear T; (try simp only [List.nil_append, List.cons_append] at S); have HPS := Lib.hid hps; clear hps; replace S := S.endF; simp only [List.nil_append, List.cons_append] at S) | (go_at_call 7; (with_reducible refine (P2.out _ _ (by first | assumption | exact S.oldB (Hid.out (by assumption)) | exact Bs.mk0 _ _ | exact S.bs pk | exact S.bsr pk)).mono ?_); rintro e w1 ⟨v7, v8, qs, rfl, hqs, T⟩; replace S := S.call T; clear T; (try simp only [List.nil_append, List.cons_append] at S); have HQS := Lib.hid hqs; clear hqs; replace S := S.endF; simp only [List.nil_append, List.cons_append] at S) | (go_at_call 8; (with_reducible refine (sameF_s _ _ ps qs _ (S.frM (v := v4) pk (by intro r hr; simp [hr])) (S.frM (v := v7) pk (by intro r hr; simp [hr]))).mono ?_); rintro e w1 ⟨rfl, T⟩; replace S := S.call T; clear T; (try simp only [List.nil_append, List.cons_append] at S); rw [decide_eq_true (HPS.out.trans HQS.out.symm)]) | ((with_reducible show wpList _ _ _ (⟨_, .convert 22 9 _, _, _, _, _⟩ :: _) _ _); refine step_conv 22 9 5 _ _ _ rfl Try.underlying22 Try.underlying5 Try.underlying9 (by first | assumption | exact S.oldB (Hid.out (by assumption)) | exact Bs.mk0 _ _ | exact S.bs pk | exact S.bsr pk) gw ?_) | ((with_reducible show wpList _ _ _ (⟨_, .load 22 _, _, _, _, _⟩ :: _) _ _); first | (refine step_load1 22 _ _ _ rfl (S.cell pk co) _ Try.underlying22 rfl gw ?_) | (refine step_load1 22 _ _ _ rfl (S.row_cell pk _ _ hyr) _ Try.underlying22 rfl gw ?_) | (refine step_load1 22 _ _ _ rfl (S.row_cellS pk _ _ hy) _ Try.underlying22 rfl gw ?_) | (refine step_load1 22 _ _ _ rfl (S.old_cell hy) _ Try.underlying22 rfl gw ?_)) | fail)
  replace S := S.tail.tail
  obtain ⟨a4, c4, hv4, _, hc42⟩ := Sl.shape (S.sl (v := v4) pk)
  subst hv4
  unfold maxLen at hc42
  go_loopw [10] (fun t wr => ∃ (k : Nat) (ps' : List (Value × List UInt8)), k ≤ ps.length ∧ t = .int .i64 (k : Int) ∧ ps'.map (·.1) = ps.map (·.1) ∧ Has w0 wr (rowF (.slice a4 ps.length c4) ps :: row8 v5 R :: row8 v13 b :: (frs ps' ++ frs qs))) (fun t _ => ps.length - (intOf t).toNat)
  case atStart => exact ⟨0, ps, Nat.zero_le _, rfl, rfl, S⟩
  case round =>
    clear S
    obtain ⟨k, ps', hk, rfl, hf, S⟩ := hrel
    by_cases hlt : k < ps.length
    · obtain ⟨g, c, e, _⟩ := S.row_at (Pick.head _ _) (by omega)
      simp only [Value.slice.injEq] at e
      obtain ⟨rfl, _, rfl⟩ := e
      have hl' : ps'.length = ps.length := by have := congrArg List.length hf; simpa using this
      have hlt' : k < ps'.length := by omega
      obtain ⟨x, hxe⟩ : ∃ x, x = ps'[k] := ⟨_, rfl⟩
      have hkx : ps'[k]? = some x := by simp [hxe, hlt']
      have hx : (ps.map (·.1))[k]? = some x.1 := by rw [← hf]; simp [hxe, hlt']
      obtain ⟨G, hpk, hpm⟩ := frs_pick ps' (frs qs) k x hkx
      have hset : ∀ ys, (ps'.set k (x.1, ys)).map (·.1) = ps.map (·.1) := fun ys => by
        rw [List.map_set, hf]
        exact set_same hx
      obtain ⟨x1, x2⟩ := x
      dsimp only at hx hpk hpm hset
      have hki : (k : Int) < (ps.length : Int) := by omega
      have HX := Lib.hid hx; have HPK := Lib.hid hpk; have HPM := Lib.hid hpm; have HSET := Lib.hid hset; clear hx hpk hpm hset
      clear hxe hkx hf
      go_wp2_with (first | (go_at_call 9; (with_reducible refine (spoil_s _ x2 w0 _ _ (S.pick (Pick.tail (Pick.tail (Pick.tail HPK.out))))).mono ?_); rintro e w1 ⟨rfl, ys, _, S1⟩; clear S) | ((with_reducible show wpList _ _ _ (⟨some 11, .buildSlice 22 0 _, _, _, _, _⟩ :: _) _ _); refine step_build8 S 0 _ [] (by first | rfl | kernel_rfl) rfl (by decide) gw ?_; clear S; intro v11 w S) | ((with_reducible show wpList _ _ _ (⟨_, .convert 22 9 _, _, _, _, _⟩ :: _) _ _); refine step_conv 22 9 5 _ _ _ rfl Try.underlying22 Try.underlying5 Try.underlying9 (by first | assumption | exact S.oldB (Hid.out (by assumption)) | exact Bs.mk0 _ _ | exact S.bs pk | exact S.bsr pk) gw ?_) | ((with_reducible show wpList _ _ _ (⟨_, .load 22 _, _, _, _, _⟩ :: _) _ _); first | (refine step_load1 22 _ _ _ rfl (S.cell pk co) _ Try.underlying22 rfl gw ?_) | (refine step_load1 22 _ _ _ rfl (S.row_cell pk _ _ hyr) _ Try.underlying22 rfl gw ?_) | (refine step_load1 22 _ _ _ rfl (S.row_cellS pk _ _ hy) _ Try.underlying22 rfl gw ?_) | (refine step_load1 22 _ _ _ rfl (S.old_cell hy) _ Try.underlying22 rfl gw ?_)) | fail)
      go_roundw
      case rel => exact ⟨k + 1, ps'.set k (x1, ys), by omega, by go_num, HSET.out ys, by
        refine S1.perm ?_
        exact (List.Perm.swap _ _ _).trans (List.Perm.cons _ ((List.Perm.swap _ _ _).trans (List.Perm.cons _ ((List.Perm.swap _ _ _).trans (List.Perm.cons _ (HPM.out ys))))))⟩
      case measure => simp [intOf]; omega
    · obtain rfl : k = ps.length := by omega
      have hl2 : ¬ (ps.length : Int) < (ps.length : Int) := by omega
      clear hf
      go_wp2_with (first | (go_at_call 9; (with_reducible refine (spoil_s _ R w0 _ _ (S.pick (r := row8 v5 R) pk)).mono ?_); rintro e w1 ⟨rfl, ys, _, S1⟩; clear S; have S := S1) | ((with_reducible show wpList _ _ _ (⟨some 11, .buildSlice 22 0 _, _, _, _, _⟩ :: _) _ _); refine step_build8 S 0 _ [] (by first | rfl | kernel_rfl) rfl (by decide) gw ?_; clear S; intro v11 w S) | ((with_reducible show wpList _ _ _ (⟨_, .convert 22 9 _, _, _, _, _⟩ :: _) _ _); refine step_conv 22 9 5 _ _ _ rfl Try.underlying22 Try.underlying5 Try.underlying9 (by first | assumption | exact S.oldB (Hid.out (by assumption)) | exact Bs.mk0 _ _ | exact S.bs pk | exact S.bsr pk) gw ?_) | ((with_reducible show wpList _ _ _ (⟨_, .load 22 _, _, _, _, _⟩ :: _) _ _); first | (refine step_load1 22 _ _ _ rfl (S.cell pk co) _ Try.underlying22 rfl gw ?_) | (refine step_load1 22 _ _ _ rfl (S.row_cell pk _ _ hyr) _ Try.underlying22 rfl gw ?_) | (refine step_load1 22 _ _ _ rfl (S.row_cellS pk _ _ hy) _ Try.underlying22 rfl gw ?_) | (refine step_load1 22 _ _ _ rfl (S.old_cell hy) _ Try.underlying22 rfl gw ?_)) | fail)
      go_ret
      exact ⟨rfl, S.nil⟩
end Go.Proofs.Ytfhkmmagpnojmaa
