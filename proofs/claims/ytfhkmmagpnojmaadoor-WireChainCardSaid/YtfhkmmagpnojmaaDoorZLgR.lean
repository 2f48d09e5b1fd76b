/- The reference's logs: equality, copies, validity. No condition. -/
import Derived.Test.YtfhkmmagpnojmaaDoorZBd
import Derived.Test.YtfhkmmagpnojmaaDoorZRcM
set_option linter.unusedSimpArgs false
set_option linter.unusedVariables false
namespace Go.Proofs.YtfhkmmagpnojmaaDoor
open Go.RowKit

set_option maxRecDepth 100000 in
set_option maxHeartbeats 4000000 in
theorem sameRecords_s (v1 v2 : Value) (l : List Rcd) (w0 : World) (h1 : Sl w0 35 v1 l.length (l.flatMap rcdL)) (h2 : Sl w0 35 v2 l.length (l.flatMap rcdL)) :
    Calls Tryd.prog 28 #[v1, v2] w0 fun e w' => e = .returned (.bool true) ∧ Has w0 w' [] := by
  have S := Has.start w0
  obtain ⟨a0, c0, rfl, k1, k2⟩ := Sl.shape h1
  obtain ⟨a1, c1, rfl, k3, k4⟩ := Sl.shape h2
  unfold maxLen at k2 k4
  have i0 : ((l.length : Int) == (l.length : Int)) = true := by simp
  have eg := eqGuardRc
  have H1 := Lib.hid h1; have H2 := Lib.hid h2; clear h1 h2
  go_enter Tryd.func28, Tryd.ntmps28
  go_wp2_with (first | ((with_reducible refine iO _ (.load 50 _) ?_); first | (refine step_loadR 50 _ _ _ rfl _ (S.old_range hy) _ Tryd.underlying50 rfl 35 kR lN _ rfl rfl ?_) | (refine step_loadP S 50 _ _ _ rfl _ _ _ pk 35 _ pT lN _ Tryd.underlying50 rfl kR rfl ?_)) | fail)
  go_loopw [5] (fun u wr => ∃ (k : Nat), k ≤ l.length ∧ u = .int .i64 (k : Int) ∧ Has w0 wr []) (fun u _ => l.length - (intOf u).toNat)
  case atStart => exact ⟨0, Nat.zero_le _, rfl, S⟩
  case round =>
    clear S
    obtain ⟨k, hk, rfl, S⟩ := hrel
    by_cases hlt : k < l.length
    · have hx : l[k]? = some l[k] := List.getElem?_eq_getElem hlt
      obtain ⟨b, off, rfl, hcell⟩ := H1.out.atA (by omega)
      obtain ⟨b2, off2, rfl, hcell2⟩ := H2.out.atA (by omega)
      have hrg := H1.out.elem rcdL_length (by decide) k _ hx
      have hrg2 := H2.out.elem rcdL_length (by decide) k _ hx
      obtain ⟨x, hxe⟩ : ∃ x, x = l[k] := ⟨_, rfl⟩
      rw [← hxe] at hrg hrg2
      have hne := fun w => neqRc x x w
      simp only [decide_true, Bool.not_true] at hne
      have hki : (k : Int) < (l.length : Int) := by omega
      have hki2 : (k : Int) < 9223372036854775807 := by omega
      clear hx hcell hcell2 hxe
      have HRG := Lib.hid hrg; have HRG2 := Lib.hid hrg2; clear hrg hrg2
      go_upto_region 6 with (first | ((with_reducible refine iO _ (.load 50 _) ?_); first | (refine step_loadR 50 _ _ _ rfl _ (S.old_range hy) _ Tryd.underlying50 rfl 35 kR lN _ rfl rfl ?_) | (refine step_loadP S 50 _ _ _ rfl _ _ _ pk 35 _ pT lN _ Tryd.underlying50 rfl kR rfl ?_)) | fail)
      refine wp_rely S [⟨[], [], [], fun _ v => v = (.slice (some ⟨b, off, none⟩) l.length c0), fun _ v => []⟩, ⟨[], [], [], fun _ v => v = (.int .i64 (k : Int)), fun _ v => []⟩, ⟨[0, 1], [], [], fun _ v => v = .pointer (some ⟨b, off + k * 35, none⟩), fun _ v => []⟩, ⟨[0, 1, 2], [], [], fun _ v => v = .agg (rcdL x).toArray, fun _ v => []⟩, ⟨[], [], [], fun _ v => v = (.slice (some ⟨b2, off2, none⟩) l.length c1), fun _ v => []⟩, ⟨[], [], [], fun _ v => v = (.int .i64 (k : Int)), fun _ v => []⟩, ⟨[4, 5], [], [], fun _ v => v = .pointer (some ⟨b2, off2 + k * 35, none⟩), fun _ v => []⟩, ⟨[4, 5, 6], [], [], fun _ v => v = .agg (rcdL x).toArray, fun _ v => []⟩, ⟨[0, 1, 2, 3, 4, 5, 6, 7], [], [], fun _ v => v = .bool false, fun _ v => []⟩] ?A1 ?hA1 kR kR kR [0, 1, 2, 3, 4, 5, 6, 7, 8] kR ?hok1 ?fin1
      case hA1 => intro u; simp only [putAll, List.length_cons, List.length_nil, Nat.zero_add, Nat.reduceAdd, dstAt, List.getElem?_toArray, List.getElem?_cons_zero, List.getElem?_cons_succ, Option.bind_some, Act.put, List.setIfInBounds_toArray, List.set_cons_zero, List.set_cons_succ]; rfl
      case hok1 =>
        intro i hi
        obtain rfl | rfl | rfl | rfl | rfl | rfl | rfl | rfl | rfl : i = 0 ∨ i = 1 ∨ i = 2 ∨ i = 3 ∨ i = 4 ∨ i = 5 ∨ i = 6 ∨ i = 7 ∨ i = 8 := by simp only [List.length_cons, List.length_nil, Nat.zero_add, Nat.reduceAdd] at hi; omega
        · clear hi
          refine step_of rfl rfl rfl ?_
          intro u G w hf S
          simp only [resOf, spec, RSpec.resAt, z0, z1, z2, z3, z4, z5, z6, z7, ptrBlk] at S ⊢
          simp only [does]
          go_simp
          try first | exact S | exact ⟨vv, S⟩ | exact vv
        · clear hi
          refine step_of rfl rfl rfl ?_
          intro u G w hf S
          simp only [resOf, spec, RSpec.resAt, z0, z1, z2, z3, z4, z5, z6, z7, ptrBlk] at S ⊢
          simp only [does]
          go_simp
          try first | exact S | exact ⟨vv, S⟩ | exact vv
        · clear hi
          refine step_of rfl rfl rfl ?_
          intro u G w hf S
          have f0 : u 0 = (.slice (some ⟨b, off, none⟩) l.length c0) := hf 0 (by simp)
          have f1 : u 1 = (.int .i64 (k : Int)) := hf 1 (by simp)
          simp only [resOf, spec, RSpec.resAt, z0, z1, z2, z3, z4, z5, z6, z7, ptrBlk] at S ⊢
          simp only [f0, f1]
          simp only [does]
          go_simp
          try first | exact S | exact ⟨vv, S⟩ | exact vv
        · clear hi
          refine step_of rfl rfl rfl ?_
          intro u G w hf S
          have f2 : u 2 = .pointer (some ⟨b, off + k * 35, none⟩) := hf 2 (by simp)
          simp only [resOf, spec, RSpec.resAt, z0, z1, z2, z3, z4, z5, z6, z7, ptrBlk] at S ⊢
          simp only [f2]
          refine does_loadR 50 (.tmp 19) _ _ rfl _ (S.old_range HRG.out) _ Tryd.underlying50 rfl 35 kR (rcdL_length _) _ rfl ?_; exact ⟨rfl, S⟩
        · clear hi
          refine step_of rfl rfl rfl ?_
          intro u G w hf S
          simp only [resOf, spec, RSpec.resAt, z0, z1, z2, z3, z4, z5, z6, z7, ptrBlk] at S ⊢
          simp only [does]
          go_simp
          try first | exact S | exact ⟨vv, S⟩ | exact vv
        · clear hi
          refine step_of rfl rfl rfl ?_
          intro u G w hf S
          simp only [resOf, spec, RSpec.resAt, z0, z1, z2, z3, z4, z5, z6, z7, ptrBlk] at S ⊢
          simp only [does]
          go_simp
          try first | exact S | exact ⟨vv, S⟩ | exact vv
        · clear hi
          refine step_of rfl rfl rfl ?_
          intro u G w hf S
          have f4 : u 4 = (.slice (some ⟨b2, off2, none⟩) l.length c1) := hf 4 (by simp)
          have f5 : u 5 = (.int .i64 (k : Int)) := hf 5 (by simp)
          simp only [resOf, spec, RSpec.resAt, z0, z1, z2, z3, z4, z5, z6, z7, ptrBlk] at S ⊢
          simp only [f4, f5]
          simp only [does]
          go_simp
          try first | exact S | exact ⟨vv, S⟩ | exact vv
        · clear hi
          refine step_of rfl rfl rfl ?_
          intro u G w hf S
          have f6 : u 6 = .pointer (some ⟨b2, off2 + k * 35, none⟩) := hf 6 (by simp)
          simp only [resOf, spec, RSpec.resAt, z0, z1, z2, z3, z4, z5, z6, z7, ptrBlk] at S ⊢
          simp only [f6]
          refine does_loadR 50 (.tmp 23) _ _ rfl _ (S.old_range HRG2.out) _ Tryd.underlying50 rfl 35 kR (rcdL_length _) _ rfl ?_; exact ⟨rfl, S⟩
        · clear hi
          refine step_of rfl rfl rfl ?_
          intro u G w hf S
          have f3 : u 3 = .agg (rcdL x).toArray := hf 3 (by simp)
          have f7 : u 7 = .agg (rcdL x).toArray := hf 7 (by simp)
          simp only [resOf, spec, RSpec.resAt, z0, z1, z2, z3, z4, z5, z6, z7, ptrBlk] at S ⊢
          simp only [f3, f7]
          simp only [does]
          go_simp
          try first | exact S | exact ⟨vv, S⟩ | exact vv
      case fin1 =>
        intro u w hf S
        have f0 : u 0 = (.slice (some ⟨b, off, none⟩) l.length c0) := hf 0 (by simp)
        have f1 : u 1 = (.int .i64 (k : Int)) := hf 1 (by simp)
        have f2 : u 2 = .pointer (some ⟨b, off + k * 35, none⟩) := hf 2 (by simp)
        have f3 : u 3 = .agg (rcdL x).toArray := hf 3 (by simp)
        have f4 : u 4 = (.slice (some ⟨b2, off2, none⟩) l.length c1) := hf 4 (by simp)
        have f5 : u 5 = (.int .i64 (k : Int)) := hf 5 (by simp)
        have f6 : u 6 = .pointer (some ⟨b2, off2 + k * 35, none⟩) := hf 6 (by simp)
        have f7 : u 7 = .agg (rcdL x).toArray := hf 7 (by simp)
        have f8 : u 8 = .bool false := hf 8 (by simp)
        simp only [resOf, spec, RSpec.resAt, z0, z1, z2, z3, z4, z5, z6, z7, ptrBlk] at S
        clear hf
        simp only [List.length_cons, List.length_nil, Nat.zero_add, Nat.reduceAdd, List.drop_succ_cons, List.drop_zero, f0, f1, f2, f3, f4, f5, f6, f7, f8]
        clear f0 f1 f2 f3 f4 f5 f6 f7 f8
        go_wp2_with (first | ((with_reducible refine iO _ (.load 50 _) ?_); first | (refine step_loadR 50 _ _ _ rfl _ (S.old_range hy) _ Tryd.underlying50 rfl 35 kR lN _ rfl rfl ?_) | (refine step_loadP S 50 _ _ _ rfl _ _ _ pk 35 _ pT lN _ Tryd.underlying50 rfl kR rfl ?_)) | fail)
        go_roundw
        case rel => exact ⟨k + 1, by omega, by go_num, S⟩
        case measure => simp [intOf]; omega
    · obtain rfl : k = l.length := by omega
      have hki : ¬ (l.length : Int) < (l.length : Int) := by omega
      go_wp2_with (first | ((with_reducible refine iO _ (.load 50 _) ?_); first | (refine step_loadR 50 _ _ _ rfl _ (S.old_range hy) _ Tryd.underlying50 rfl 35 kR lN _ rfl rfl ?_) | (refine step_loadP S 50 _ _ _ rfl _ _ _ pk 35 _ pT lN _ Tryd.underlying50 rfl kR rfl ?_)) | fail)
      go_ret
      exact ⟨rfl, S.nil⟩
end Go.Proofs.YtfhkmmagpnojmaaDoor
