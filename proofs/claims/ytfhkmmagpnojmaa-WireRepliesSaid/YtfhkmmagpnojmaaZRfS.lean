/- The reference's SameRecords and SameReply, for any records and replies. No condition but the reach. -/
import Derived.Test.YtfhkmmagpnojmaaZBd
import Derived.Deep.Cut
import Derived.Test.YtfhkmmagpnojmaaZRcM
import Derived.Test.YtfhkmmagpnojmaaZRelyC
import Derived.Test.YtfhkmmagpnojmaaZRpE1
import Derived.Test.YtfhkmmagpnojmaaZBg
import Derived.Test.YtfhkmmagpnojmaaZBe
set_option linter.unusedSimpArgs false
set_option linter.unusedVariables false
namespace Go.Proofs.Ytfhkmmagpnojmaa
open Go.RowKit

set_option maxRecDepth 100000 in
set_option maxHeartbeats 4000000 in
theorem refSameRc_s (v1 v2 : Value) (l m : List Rcd) (w0 : World) (h1 : Sl w0 35 v1 l.length (l.flatMap rcdL)) (h2 : Sl w0 35 v2 m.length (m.flatMap rcdL)) :
    Calls Try.prog 47 #[v1, v2] w0 fun e w' => e = .returned (.bool (decide (l = m))) ∧ Has w0 w' [] := by
  have S := Has.start w0
  obtain ⟨a0, c0, rfl, k1, k2⟩ := Sl.shape h1
  obtain ⟨a1, c1, rfl, k3, k4⟩ := Sl.shape h2
  unfold maxLen at k2 k4
  by_cases hl : l.length = m.length
  case neg =>
    rw [decide_eq_false (fun e => hl (by rw [e]))]
    have i0 : ((l.length : Int) == (m.length : Int)) = false := by rw [beq_eq_false_iff_ne]; omega
    have H1 := Lib.hid h1; have H2 := Lib.hid h2; clear h1 h2
    clear hl
    go_enter Try.func47, Try.ntmps47
    go_wp2_with (first | ((with_reducible refine iO _ (.load 106 _) ?_); first | (refine step_loadR 106 _ _ _ rfl _ (S.old_range hy) _ Try.underlying106 rfl 35 kR lN _ rfl rfl ?_) | (refine step_loadP S 106 _ _ _ rfl _ _ _ pk 35 _ pT lN _ Try.underlying106 rfl kR rfl ?_)) | fail)
    go_ret
    exact ⟨rfl, S.nil⟩
  have i0 : ((m.length : Int) == (m.length : Int)) = true := by simp
  rw [hl] at h1 k1
  rw [hl]
  obtain ⟨D, hD⟩ : ∃ D, D = decide (l = m) := ⟨_, rfl⟩
  rw [← hD]
  have eg := eqGuardRc
  have H1 := Lib.hid h1; have H2 := Lib.hid h2; have HL := Lib.hid hl; have HD := Lib.hid hD; clear h1 h2 hl hD
  go_enter Try.func47, Try.ntmps47
  go_wp2_with (first | ((with_reducible refine iO _ (.load 106 _) ?_); first | (refine step_loadR 106 _ _ _ rfl _ (S.old_range hy) _ Try.underlying106 rfl 35 kR lN _ rfl rfl ?_) | (refine step_loadP S 106 _ _ _ rfl _ _ _ pk 35 _ pT lN _ Try.underlying106 rfl kR rfl ?_)) | fail)
  go_loopw [5] (fun u wr => ∃ (k : Nat), k ≤ m.length ∧ u = .int .i64 (k : Int) ∧ l.take k = m.take k ∧ Has w0 wr []) (fun u _ => m.length - (intOf u).toNat)
  case atStart => exact ⟨0, Nat.zero_le _, rfl, rfl, S⟩
  case round =>
    clear S
    obtain ⟨k, hk, rfl, heq, S⟩ := hrel
    by_cases hlt : k < m.length
    · have hll := HL.out
      have hy : m[k]? = some m[k] := List.getElem?_eq_getElem hlt
      have hx : l[k]? = some (l[k]'(by omega)) := List.getElem?_eq_getElem _
      obtain ⟨b, off, rfl, hcell⟩ := H1.out.atA (by omega)
      obtain ⟨b2, off2, rfl, hcell2⟩ := H2.out.atA (by omega)
      have hrg := H1.out.elem rcdL_length (by decide) k _ hx
      have hrg2 := H2.out.elem rcdL_length (by decide) k _ hy
      obtain ⟨x, hxe⟩ : ∃ x, x = (l[k]'(by omega)) := ⟨_, rfl⟩
      obtain ⟨y, hye⟩ : ∃ y, y = m[k] := ⟨_, rfl⟩
      rw [← hxe] at hrg hx
      rw [← hye] at hrg2 hy
      have hne := fun w => neqRc x y w
      have hki : (k : Int) < (m.length : Int) := by omega
      have hki2 : (k : Int) < 9223372036854775807 := by omega
      have hyes : x = y → l.take (k + 1) = m.take (k + 1) := fun e => by rw [List.take_add_one, List.take_add_one, heq, hx, hy, e]
      have hno : x ≠ y → D = false := fun e => HD.out.trans <| decide_eq_false (fun h => e (by rw [h, hy] at hx; exact (Option.some.inj hx).symm))
      clear hx hy hcell hcell2 hxe hye hll
      have HRG := Lib.hid hrg; have HRG2 := Lib.hid hrg2; have HYES := Lib.hid hyes; have HNO := Lib.hid hno; have HEQ := Lib.hid heq; clear hrg hrg2 hyes hno heq
      go_upto_region 6 with (first | ((with_reducible refine iO _ (.load 106 _) ?_); first | (refine step_loadR 106 _ _ _ rfl _ (S.old_range hy) _ Try.underlying106 rfl 35 kR lN _ rfl rfl ?_) | (refine step_loadP S 106 _ _ _ rfl _ _ _ pk 35 _ pT lN _ Try.underlying106 rfl kR rfl ?_)) | fail)
      by_cases hxy : x = y
      · subst hxy
        rw [decide_eq_true rfl, Bool.not_true] at hne
        refine wp_rely S [⟨[], [], [], fun _ v => v = (.slice (some ⟨b, off, none⟩) m.length c0), fun _ v => []⟩, ⟨[], [], [], fun _ v => v = (.int .i64 (k : Int)), fun _ v => []⟩, ⟨[0, 1], [], [], fun _ v => v = .pointer (some ⟨b, off + k * 35, none⟩), fun _ v => []⟩, ⟨[0, 1, 2], [], [], fun _ v => v = .agg (rcdL x).toArray, fun _ v => []⟩, ⟨[], [], [], fun _ v => v = (.slice (some ⟨b2, off2, none⟩) m.length c1), fun _ v => []⟩, ⟨[], [], [], fun _ v => v = (.int .i64 (k : Int)), fun _ v => []⟩, ⟨[4, 5], [], [], fun _ v => v = .pointer (some ⟨b2, off2 + k * 35, none⟩), fun _ v => []⟩, ⟨[4, 5, 6], [], [], fun _ v => v = .agg (rcdL x).toArray, fun _ v => []⟩, ⟨[0, 1, 2, 3, 4, 5, 6, 7], [], [], fun _ v => v = .bool false, fun _ v => []⟩] ?A1 ?hA1 kR kR kR [0, 1, 2, 3, 4, 5, 6, 7, 8] kR ?hok1 ?fin1
        case hA1 => intro u; simp only [putAll, List.length_cons, List.length_nil, Nat.zero_add, Nat.reduceAdd, dstAt, List.getElem?_toArray, List.getElem?_cons_zero, List.getElem?_cons_succ, Option.bind_some, Act.put, List.setIfInBounds_toArray, List.set_cons_zero, List.set_cons_succ]; rfl
        case hok1 =>
          intro i hi
          obtain rfl | rfl | rfl | rfl | rfl | rfl | rfl | rfl | rfl : i = 0 ∨ i = 1 ∨ i = 2 ∨ i = 3 ∨ i = 4 ∨ i = 5 ∨ i = 6 ∨ i = 7 ∨ i = 8 := by simp only [List.length_cons, List.length_nil, Nat.zero_add, Nat.reduceAdd] at hi; omega
          · clear hi
            refine step_of rfl rfl rfl ?_
            intro u G w hf S
            simp only [resOf, spec, RSpec.resAt, z0, z1, z2, z3, z4, z5, z6, z7, ptrBlk] at S ⊢
            simp only [does]
            go_simp
            try first | exact S | exact ⟨vv, S⟩ | exact vv
          · clear hi
            refine step_of rfl rfl rfl ?_
            intro u G w hf S
            simp only [resOf, spec, RSpec.resAt, z0, z1, z2, z3, z4, z5, z6, z7, ptrBlk] at S ⊢
            simp only [does]
            go_simp
            try first | exact S | exact ⟨vv, S⟩ | exact vv
          · clear hi
            refine step_of rfl rfl rfl ?_
            intro u G w hf S
            have f0 : u 0 = (.slice (some ⟨b, off, none⟩) m.length c0) := hf 0 (by simp)
            have f1 : u 1 = (.int .i64 (k : Int)) := hf 1 (by simp)
            simp only [resOf, spec, RSpec.resAt, z0, z1, z2, z3, z4, z5, z6, z7, ptrBlk] at S ⊢
            simp only [f0, f1]
            simp only [does]
            go_simp
            try first | exact S | exact ⟨vv, S⟩ | exact vv
          · clear hi
            refine step_of rfl rfl rfl ?_
            intro u G w hf S
            have f2 : u 2 = .pointer (some ⟨b, off + k * 35, none⟩) := hf 2 (by simp)
            simp only [resOf, spec, RSpec.resAt, z0, z1, z2, z3, z4, z5, z6, z7, ptrBlk] at S ⊢
            simp only [f2]
            refine does_loadR 106 (.tmp 19) _ _ rfl _ (S.old_range HRG.out) _ Try.underlying106 rfl 35 kR (rcdL_length _) _ rfl ?_; exact ⟨rfl, S⟩
          · clear hi
            refine step_of rfl rfl rfl ?_
            intro u G w hf S
            simp only [resOf, spec, RSpec.resAt, z0, z1, z2, z3, z4, z5, z6, z7, ptrBlk] at S ⊢
            simp only [does]
            go_simp
            try first | exact S | exact ⟨vv, S⟩ | exact vv
          · clear hi
            refine step_of rfl rfl rfl ?_
            intro u G w hf S
            simp only [resOf, spec, RSpec.resAt, z0, z1, z2, z3, z4, z5, z6, z7, ptrBlk] at S ⊢
            simp only [does]
            go_simp
            try first | exact S | exact ⟨vv, S⟩ | exact vv
          · clear hi
            refine step_of rfl rfl rfl ?_
            intro u G w hf S
            have f4 : u 4 = (.slice (some ⟨b2, off2, none⟩) m.length c1) := hf 4 (by simp)
            have f5 : u 5 = (.int .i64 (k : Int)) := hf 5 (by simp)
            simp only [resOf, spec, RSpec.resAt, z0, z1, z2, z3, z4, z5, z6, z7, ptrBlk] at S ⊢
            simp only [f4, f5]
            simp only [does]
            go_simp
            try first | exact S | exact ⟨vv, S⟩ | exact vv
          · clear hi
            refine step_of rfl rfl rfl ?_
            intro u G w hf S
            have f6 : u 6 = .pointer (some ⟨b2, off2 + k * 35, none⟩) := hf 6 (by simp)
            simp only [resOf, spec, RSpec.resAt, z0, z1, z2, z3, z4, z5, z6, z7, ptrBlk] at S ⊢
            simp only [f6]
            refine does_loadR 106 (.tmp 23) _ _ rfl _ (S.old_range HRG2.out) _ Try.underlying106 rfl 35 kR (rcdL_length _) _ rfl ?_; exact ⟨rfl, S⟩
          · clear hi
            refine step_of rfl rfl rfl ?_
            intro u G w hf S
            have f3 : u 3 = .agg (rcdL x).toArray := hf 3 (by simp)
            have f7 : u 7 = .agg (rcdL x).toArray := hf 7 (by simp)
            simp only [resOf, spec, RSpec.resAt, z0, z1, z2, z3, z4, z5, z6, z7, ptrBlk] at S ⊢
            simp only [f3, f7]
            simp only [does]
            go_simp
            try first | exact S | exact ⟨vv, S⟩ | exact vv
        case fin1 =>
          intro u w hf S
          have f0 : u 0 = (.slice (some ⟨b, off, none⟩) m.length c0) := hf 0 (by simp)
          have f1 : u 1 = (.int .i64 (k : Int)) := hf 1 (by simp)
          have f2 : u 2 = .pointer (some ⟨b, off + k * 35, none⟩) := hf 2 (by simp)
          have f3 : u 3 = .agg (rcdL x).toArray := hf 3 (by simp)
          have f4 : u 4 = (.slice (some ⟨b2, off2, none⟩) m.length c1) := hf 4 (by simp)
          have f5 : u 5 = (.int .i64 (k : Int)) := hf 5 (by simp)
          have f6 : u 6 = .pointer (some ⟨b2, off2 + k * 35, none⟩) := hf 6 (by simp)
          have f7 : u 7 = .agg (rcdL x).toArray := hf 7 (by simp)
          have f8 : u 8 = .bool false := hf 8 (by simp)
          simp only [resOf, spec, RSpec.resAt, z0, z1, z2, z3, z4, z5, z6, z7, ptrBlk] at S
          clear hf
          simp only [List.length_cons, List.length_nil, Nat.zero_add, Nat.reduceAdd, List.drop_succ_cons, List.drop_zero, f0, f1, f2, f3, f4, f5, f6, f7, f8]
          clear f0 f1 f2 f3 f4 f5 f6 f7 f8
          clear hne
          go_wp2_with (first | ((with_reducible refine iO _ (.load 106 _) ?_); first | (refine step_loadR 106 _ _ _ rfl _ (S.old_range hy) _ Try.underlying106 rfl 35 kR lN _ rfl rfl ?_) | (refine step_loadP S 106 _ _ _ rfl _ _ _ pk 35 _ pT lN _ Try.underlying106 rfl kR rfl ?_)) | fail)
          go_roundw
          case rel => exact ⟨k + 1, by omega, by go_num, HYES.out rfl, S⟩
          case measure => simp [intOf]; omega
      · rw [decide_eq_false hxy, Bool.not_false] at hne
        refine wp_rely S [⟨[], [], [], fun _ v => v = (.slice (some ⟨b, off, none⟩) m.length c0), fun _ v => []⟩, ⟨[], [], [], fun _ v => v = (.int .i64 (k : Int)), fun _ v => []⟩, ⟨[0, 1], [], [], fun _ v => v = .pointer (some ⟨b, off + k * 35, none⟩), fun _ v => []⟩, ⟨[0, 1, 2], [], [], fun _ v => v = .agg (rcdL x).toArray, fun _ v => []⟩, ⟨[], [], [], fun _ v => v = (.slice (some ⟨b2, off2, none⟩) m.length c1), fun _ v => []⟩, ⟨[], [], [], fun _ v => v = (.int .i64 (k : Int)), fun _ v => []⟩, ⟨[4, 5], [], [], fun _ v => v = .pointer (some ⟨b2, off2 + k * 35, none⟩), fun _ v => []⟩, ⟨[4, 5, 6], [], [], fun _ v => v = .agg (rcdL y).toArray, fun _ v => []⟩, ⟨[0, 1, 2, 3, 4, 5, 6, 7], [], [], fun _ v => v = .bool true, fun _ v => []⟩] ?A2 ?hA2 kR kR kR [0, 1, 2, 3, 4, 5, 6, 7, 8] kR ?hok2 ?fin2
        case hA2 => intro u; simp only [putAll, List.length_cons, List.length_nil, Nat.zero_add, Nat.reduceAdd, dstAt, List.getElem?_toArray, List.getElem?_cons_zero, List.getElem?_cons_succ, Option.bind_some, Act.put, List.setIfInBounds_toArray, List.set_cons_zero, List.set_cons_succ]; rfl
        case hok2 =>
          intro i hi
          obtain rfl | rfl | rfl | rfl | rfl | rfl | rfl | rfl | rfl : i = 0 ∨ i = 1 ∨ i = 2 ∨ i = 3 ∨ i = 4 ∨ i = 5 ∨ i = 6 ∨ i = 7 ∨ i = 8 := by simp only [List.length_cons, List.length_nil, Nat.zero_add, Nat.reduceAdd] at hi; omega
          · clear hi
            refine step_of rfl rfl rfl ?_
            intro u G w hf S
            simp only [resOf, spec, RSpec.resAt, z0, z1, z2, z3, z4, z5, z6, z7, ptrBlk] at S ⊢
            simp only [does]
            go_simp
            try first | exact S | exact ⟨vv, S⟩ | exact vv
          · clear hi
            refine step_of rfl rfl rfl ?_
            intro u G w hf S
            simp only [resOf, spec, RSpec.resAt, z0, z1, z2, z3, z4, z5, z6, z7, ptrBlk] at S ⊢
            simp only [does]
            go_simp
            try first | exact S | exact ⟨vv, S⟩ | exact vv
          · clear hi
            refine step_of rfl rfl rfl ?_
            intro u G w hf S
            have f0 : u 0 = (.slice (some ⟨b, off, none⟩) m.length c0) := hf 0 (by simp)
            have f1 : u 1 = (.int .i64 (k : Int)) := hf 1 (by simp)
            simp only [resOf, spec, RSpec.resAt, z0, z1, z2, z3, z4, z5, z6, z7, ptrBlk] at S ⊢
            simp only [f0, f1]
            simp only [does]
            go_simp
            try first | exact S | exact ⟨vv, S⟩ | exact vv
          · clear hi
            refine step_of rfl rfl rfl ?_
            intro u G w hf S
            have f2 : u 2 = .pointer (some ⟨b, off + k * 35, none⟩) := hf 2 (by simp)
            simp only [resOf, spec, RSpec.resAt, z0, z1, z2, z3, z4, z5, z6, z7, ptrBlk] at S ⊢
            simp only [f2]
            refine does_loadR 106 (.tmp 19) _ _ rfl _ (S.old_range HRG.out) _ Try.underlying106 rfl 35 kR (rcdL_length _) _ rfl ?_; exact ⟨rfl, S⟩
          · clear hi
            refine step_of rfl rfl rfl ?_
            intro u G w hf S
            simp only [resOf, spec, RSpec.resAt, z0, z1, z2, z3, z4, z5, z6, z7, ptrBlk] at S ⊢
            simp only [does]
            go_simp
            try first | exact S | exact ⟨vv, S⟩ | exact vv
          · clear hi
            refine step_of rfl rfl rfl ?_
            intro u G w hf S
            simp only [resOf, spec, RSpec.resAt, z0, z1, z2, z3, z4, z5, z6, z7, ptrBlk] at S ⊢
            simp only [does]
            go_simp
            try first | exact S | exact ⟨vv, S⟩ | exact vv
          · clear hi
            refine step_of rfl rfl rfl ?_
            intro u G w hf S
            have f4 : u 4 = (.slice (some ⟨b2, off2, none⟩) m.length c1) := hf 4 (by simp)
            have f5 : u 5 = (.int .i64 (k : Int)) := hf 5 (by simp)
            simp only [resOf, spec, RSpec.resAt, z0, z1, z2, z3, z4, z5, z6, z7, ptrBlk] at S ⊢
            simp only [f4, f5]
            simp only [does]
            go_simp
            try first | exact S | exact ⟨vv, S⟩ | exact vv
          · clear hi
            refine step_of rfl rfl rfl ?_
            intro u G w hf S
            have f6 : u 6 = .pointer (some ⟨b2, off2 + k * 35, none⟩) := hf 6 (by simp)
            simp only [resOf, spec, RSpec.resAt, z0, z1, z2, z3, z4, z5, z6, z7, ptrBlk] at S ⊢
            simp only [f6]
            refine does_loadR 106 (.tmp 23) _ _ rfl _ (S.old_range HRG2.out) _ Try.underlying106 rfl 35 kR (rcdL_length _) _ rfl ?_; exact ⟨rfl, S⟩
          · clear hi
            refine step_of rfl rfl rfl ?_
            intro u G w hf S
            have f3 : u 3 = .agg (rcdL x).toArray := hf 3 (by simp)
            have f7 : u 7 = .agg (rcdL y).toArray := hf 7 (by simp)
            simp only [resOf, spec, RSpec.resAt, z0, z1, z2, z3, z4, z5, z6, z7, ptrBlk] at S ⊢
            simp only [f3, f7]
            simp only [does]
            go_simp
            try first | exact S | exact ⟨vv, S⟩ | exact vv
        case fin2 =>
          intro u w hf S
          have f0 : u 0 = (.slice (some ⟨b, off, none⟩) m.length c0) := hf 0 (by simp)
          have f1 : u 1 = (.int .i64 (k : Int)) := hf 1 (by simp)
          have f2 : u 2 = .pointer (some ⟨b, off + k * 35, none⟩) := hf 2 (by simp)
          have f3 : u 3 = .agg (rcdL x).toArray := hf 3 (by simp)
          have f4 : u 4 = (.slice (some ⟨b2, off2, none⟩) m.length c1) := hf 4 (by simp)
          have f5 : u 5 = (.int .i64 (k : Int)) := hf 5 (by simp)
          have f6 : u 6 = .pointer (some ⟨b2, off2 + k * 35, none⟩) := hf 6 (by simp)
          have f7 : u 7 = .agg (rcdL y).toArray := hf 7 (by simp)
          have f8 : u 8 = .bool true := hf 8 (by simp)
          simp only [resOf, spec, RSpec.resAt, z0, z1, z2, z3, z4, z5, z6, z7, ptrBlk] at S
          clear hf
          simp only [List.length_cons, List.length_nil, Nat.zero_add, Nat.reduceAdd, List.drop_succ_cons, List.drop_zero, f0, f1, f2, f3, f4, f5, f6, f7, f8]
          clear f0 f1 f2 f3 f4 f5 f6 f7 f8
          clear hne
          go_wp2_with (first | ((with_reducible refine iO _ (.load 106 _) ?_); first | (refine step_loadR 106 _ _ _ rfl _ (S.old_range hy) _ Try.underlying106 rfl 35 kR lN _ rfl rfl ?_) | (refine step_loadP S 106 _ _ _ rfl _ _ _ pk 35 _ pT lN _ Try.underlying106 rfl kR rfl ?_)) | fail)
          go_ret
          exact ⟨by rw [HNO.out hxy]; rfl, S.nil⟩
    · obtain rfl : k = m.length := by omega
      have hki : ¬ (m.length : Int) < (m.length : Int) := by omega
      have hlm : D = true := HD.out.trans <| decide_eq_true (by
        have h3 := heq
        rw [List.take_of_length_le (by rw [HL.out]; exact Nat.le_refl _), List.take_length] at h3
        exact h3)
      have HLM := Lib.hid hlm; clear hlm
      clear heq
      go_wp2_with (first | ((with_reducible refine iO _ (.load 106 _) ?_); first | (refine step_loadR 106 _ _ _ rfl _ (S.old_range hy) _ Try.underlying106 rfl 35 kR lN _ rfl rfl ?_) | (refine step_loadP S 106 _ _ _ rfl _ _ _ pk 35 _ pT lN _ Try.underlying106 rfl kR rfl ?_)) | fail)
      go_ret
      exact ⟨by rw [HLM.out]; rfl, S.nil⟩
theorem rp_eqG (a b : Rp) : decide (a = b) = (!(!decide (a.kind = b.kind)) && (!(!decide (a.code = b.code)) && (!(!decide (a.tick = b.tick)) && (!(!decide (a.order = b.order)) && (!(!decide (a.state = b.state)) && (!(!decide (a.done = b.done)) && (!(!decide (a.queued = b.queued)) && (!(!decide (a.count = b.count)) && (!(!decide (a.tok = b.tok)) && (!(!decide (a.robots.length = b.robots.length)) && (decide (a.robots = b.robots) && decide (a.records = b.records)))))))))))) := by
  rw [Bool.eq_iff_iff]
  simp only [Bool.and_eq_true, decide_eq_true_eq, Bool.not_not]
  constructor
  · rintro rfl; exact ⟨rfl, rfl, rfl, rfl, rfl, rfl, rfl, rfl, rfl, rfl, rfl, rfl⟩
  · rintro ⟨h0, h1, h2, h3, h4, h5, h7, h8, h10, _, h6, h9⟩
    exact Rp.ext' h0 h1 h2 h3 h4 h5 h6 h7 h8 h9 h10
set_option maxRecDepth 100000 in
set_option maxHeartbeats 32000000 in
theorem refSameReply_s (a b : Rp) (va vb vc vd : Value) (w0 : World)
    (hva : Sl w0 3 va a.robots.length (a.robots.flatMap sgtL)) (hvb : Sl w0 35 vb a.records.length (a.records.flatMap rcdL)) (hvc : Sl w0 3 vc b.robots.length (b.robots.flatMap sgtL)) (hvd : Sl w0 35 vd b.records.length (b.records.flatMap rcdL)) :
    Calls Try.prog 21 #[.agg (rpL a va vb).toArray, .agg (rpL b vc vd).toArray] w0 fun e w' => e = .returned (.bool (decide (a = b))) ∧ Has w0 w' [] := by
  have S := Has.start w0
  obtain ⟨a0, c0, rfl, k1, k2⟩ := Sl.shape hva
  obtain ⟨a1, c1, rfl, k3, k4⟩ := Sl.shape hvc
  obtain ⟨a2, c2, rfl, k5, k6⟩ := Sl.shape hvb
  obtain ⟨a3, c3, rfl, k7, k8⟩ := Sl.shape hvd
  unfold maxLen at k2 k4
  clear k5 k6 k7 k8
  obtain ⟨D, hD⟩ : ∃ D, D = decide (a = b) := ⟨_, rfl⟩
  have hDe := rp_eqG a b
  rw [← hD] at hDe
  rw [← hD]
  have p2 := fun w h1 h2 => refSameRc_s (.slice a2 a.records.length c2) (.slice a3 b.records.length c3) a.records b.records w h1 h2
  have he := fun w => neqT a.tok b.tok w
  have hg := fun x y w => neqSg x y w
  have eg := eqGuardT
  have es := eqGuardSg
  have f0 : ((a.kind.toNat : Int) != (b.kind.toNat : Int)) = !decide (a.kind = b.kind) := congrArg (!·) (beqU8 a.kind b.kind)
  have f1 : (a.code.v != b.code.v) = !decide (a.code = b.code) := congrArg (!·) (beqI a.code b.code)
  have f2 : ((a.tick.toNat : Int) != (b.tick.toNat : Int)) = !decide (a.tick = b.tick) := congrArg (!·) (beqU64 a.tick b.tick)
  have f3 : (a.order.v != b.order.v) = !decide (a.order = b.order) := congrArg (!·) (beqI a.order b.order)
  have f4 : ((a.state.toNat : Int) != (b.state.toNat : Int)) = !decide (a.state = b.state) := congrArg (!·) (beqU8 a.state b.state)
  have f5 : ((a.done.toNat : Int) != (b.done.toNat : Int)) = !decide (a.done = b.done) := congrArg (!·) (beqU64 a.done b.done)
  have f6 : (a.queued.v != b.queued.v) = !decide (a.queued = b.queued) := congrArg (!·) (beqI a.queued b.queued)
  have f7 : ((a.count.toNat : Int) != (b.count.toNat : Int)) = !decide (a.count = b.count) := congrArg (!·) (beqU32 a.count b.count)
  have f9 : ((a.robots.length : Int) != (b.robots.length : Int)) = !decide (a.robots.length = b.robots.length) := by
    rw [Bool.eq_iff_iff, bne_iff_ne, Bool.not_eq_true', decide_eq_false_iff_not]
    omega
  have hll : (!decide (a.robots.length = b.robots.length)) = false → a.robots.length = b.robots.length := fun h => by simpa using h
  obtain ⟨y0, hy0⟩ : ∃ y, y = !decide (a.kind = b.kind) := ⟨_, rfl⟩
  obtain ⟨y1, hy1⟩ : ∃ y, y = !decide (a.code = b.code) := ⟨_, rfl⟩
  obtain ⟨y2, hy2⟩ : ∃ y, y = !decide (a.tick = b.tick) := ⟨_, rfl⟩
  obtain ⟨y3, hy3⟩ : ∃ y, y = !decide (a.order = b.order) := ⟨_, rfl⟩
  obtain ⟨y4, hy4⟩ : ∃ y, y = !decide (a.state = b.state) := ⟨_, rfl⟩
  obtain ⟨y5, hy5⟩ : ∃ y, y = !decide (a.done = b.done) := ⟨_, rfl⟩
  obtain ⟨y6, hy6⟩ : ∃ y, y = !decide (a.queued = b.queued) := ⟨_, rfl⟩
  obtain ⟨y7, hy7⟩ : ∃ y, y = !decide (a.count = b.count) := ⟨_, rfl⟩
  obtain ⟨y8, hy8⟩ : ∃ y, y = !decide (a.tok = b.tok) := ⟨_, rfl⟩
  obtain ⟨y9, hy9⟩ : ∃ y, y = !decide (a.robots.length = b.robots.length) := ⟨_, rfl⟩
  obtain ⟨x6, hx6⟩ : ∃ x, x = decide (a.robots = b.robots) := ⟨_, rfl⟩
  obtain ⟨x9, hx9⟩ : ∃ x, x = decide (a.records = b.records) := ⟨_, rfl⟩
  rw [← hy0] at f0 hDe
  rw [← hy1] at f1 hDe
  rw [← hy2] at f2 hDe
  rw [← hy3] at f3 hDe
  rw [← hy4] at f4 hDe
  rw [← hy5] at f5 hDe
  rw [← hy6] at f6 hDe
  rw [← hy7] at f7 hDe
  rw [← hy8] at hDe
  simp only [← hy8] at he
  rw [← hy9] at f9 hDe hll
  rw [← hx6] at hDe
  rw [← hx9] at p2 hDe
  have a0' := rpL_0 a (.slice a0 a.robots.length c0) (.slice a2 a.records.length c2)
  have a1' := rpL_1 a (.slice a0 a.robots.length c0) (.slice a2 a.records.length c2)
  have a2' := rpL_2 a (.slice a0 a.robots.length c0) (.slice a2 a.records.length c2)
  have a3' := rpL_3 a (.slice a0 a.robots.length c0) (.slice a2 a.records.length c2)
  have a4' := rpL_4 a (.slice a0 a.robots.length c0) (.slice a2 a.records.length c2)
  have a5' := rpL_5 a (.slice a0 a.robots.length c0) (.slice a2 a.records.length c2)
  have a6' := rpL_6 a (.slice a0 a.robots.length c0) (.slice a2 a.records.length c2)
  have a7' := rpL_7 a (.slice a0 a.robots.length c0) (.slice a2 a.records.length c2)
  have a8' := rpL_8 a (.slice a0 a.robots.length c0) (.slice a2 a.records.length c2)
  have a9' := rpL_9 a (.slice a0 a.robots.length c0) (.slice a2 a.records.length c2)
  have at' := rpL_tok a (.slice a0 a.robots.length c0) (.slice a2 a.records.length c2)
  have b0' := rpL_0 b (.slice a1 b.robots.length c1) (.slice a3 b.records.length c3)
  have b1' := rpL_1 b (.slice a1 b.robots.length c1) (.slice a3 b.records.length c3)
  have b2' := rpL_2 b (.slice a1 b.robots.length c1) (.slice a3 b.records.length c3)
  have b3' := rpL_3 b (.slice a1 b.robots.length c1) (.slice a3 b.records.length c3)
  have b4' := rpL_4 b (.slice a1 b.robots.length c1) (.slice a3 b.records.length c3)
  have b5' := rpL_5 b (.slice a1 b.robots.length c1) (.slice a3 b.records.length c3)
  have b6' := rpL_6 b (.slice a1 b.robots.length c1) (.slice a3 b.records.length c3)
  have b7' := rpL_7 b (.slice a1 b.robots.length c1) (.slice a3 b.records.length c3)
  have b8' := rpL_8 b (.slice a1 b.robots.length c1) (.slice a3 b.records.length c3)
  have b9' := rpL_9 b (.slice a1 b.robots.length c1) (.slice a3 b.records.length c3)
  have bt' := rpL_tok b (.slice a1 b.robots.length c1) (.slice a3 b.records.length c3)
  have key : y0 = true ∨ (y0 = false ∧ (y1 = true ∨ (y1 = false ∧ (y2 = true ∨ (y2 = false ∧ (y3 = true ∨ (y3 = false ∧ (y4 = true ∨ (y4 = false ∧ (y5 = true ∨ (y5 = false ∧ (y6 = true ∨ (y6 = false ∧ (y7 = true ∨ (y7 = false ∧ (y8 = true ∨ (y8 = false ∧ (y9 = true ∨ y9 = false)))))))))))))))))) := by
    cases y0 <;> cases y1 <;> cases y2 <;> cases y3 <;> cases y4 <;> cases y5 <;> cases y6 <;> cases y7 <;> cases y8 <;> cases y9 <;> simp
  clear hy0 hy1 hy2 hy3 hy4 hy5 hy6 hy7 hy8 hy9 hD hx9
  rcases key with rfl | ⟨rfl, rfl | ⟨rfl, rfl | ⟨rfl, rfl | ⟨rfl, rfl | ⟨rfl, rfl | ⟨rfl, rfl | ⟨rfl, rfl | ⟨rfl, rfl | ⟨rfl, rfl | rfl⟩⟩⟩⟩⟩⟩⟩⟩⟩
  case inr.inr.inr.inr.inr.inr.inr.inr.inr.inr =>
    have hl := hll rfl
    simp only [Bool.not_false, Bool.true_and] at hDe
    have hD6 : x6 = false → D = false := fun h => by rw [hDe, h]; rfl
    have hD9 : x6 = true → D = x9 := fun h => by rw [hDe, h]; rfl
    clear hDe hll
    have hx6' := hx6
    clear hx6
    have A0' := Lib.hid a0'; have A1' := Lib.hid a1'; have A2' := Lib.hid a2'; have A3' := Lib.hid a3'; have A4' := Lib.hid a4'; have A5' := Lib.hid a5'; have A6' := Lib.hid a6'; have A7' := Lib.hid a7'; have A8' := Lib.hid a8'; have A9' := Lib.hid a9'; have AT' := Lib.hid at'; have B0' := Lib.hid b0'; have B1' := Lib.hid b1'; have B2' := Lib.hid b2'; have B3' := Lib.hid b3'; have B4' := Lib.hid b4'; have B5' := Lib.hid b5'; have B6' := Lib.hid b6'; have B7' := Lib.hid b7'; have B8' := Lib.hid b8'; have B9' := Lib.hid b9'; have BT' := Lib.hid bt'; have P2 := Lib.hid p2; have HVA := Lib.hid hva; have HVB := Lib.hid hvb; have HVC := Lib.hid hvc; have HVD := Lib.hid hvd; have HX6' := Lib.hid hx6'; have HD6 := Lib.hid hD6; have HD9 := Lib.hid hD9; have HL := Lib.hid hl; have HG := Lib.hid hg; clear a0' a1' a2' a3' a4' a5' a6' a7' a8' a9' at' b0' b1' b2' b3' b4' b5' b6' b7' b8' b9' bt' p2 hva hvb hvc hvd hx6' hD6 hD9 hl hg
    go_enter Try.func21, Try.ntmps21
    simp only [List.append_eq, List.cons_append, List.nil_append]
    go_wp2_with (first | ((with_reducible refine iD 2 (.box 53 (.tmp 0)) ?_); refine step_boxA (dst := some 2) S 53 (.tmp 0) _ rfl gw ?_; clear S; intro g2 w S) | ((with_reducible refine iD 3 (.box 53 (.tmp 1)) ?_); refine step_boxA (dst := some 3) S 53 (.tmp 1) _ rfl gw ?_; clear S; intro g3 w S) | ((with_reducible refine iO _ (.load 5 _) ?_); refine step_load1 5 _ _ _ rfl (cL) _ Try.underlying5 rfl gw ?_) | ((with_reducible refine iO _ (.load 24 _) ?_); refine step_load1 24 _ _ _ rfl (cL) _ Try.underlying24 rfl gw ?_) | ((with_reducible refine iO _ (.load 32 _) ?_); refine step_load1 32 _ _ _ rfl (cL) _ Try.underlying32 rfl gw ?_) | ((with_reducible refine iO _ (.load 3 _) ?_); refine step_load1 3 _ _ _ rfl (cL) _ Try.underlying3 rfl gw ?_) | ((with_reducible refine iO _ (.load 33 _) ?_); refine step_load1 33 _ _ _ rfl (cL) _ Try.underlying33 rfl gw ?_) | ((with_reducible refine iO _ (.load 36 _) ?_); first | (refine step_loadR 36 _ _ _ rfl _ (S.old_range hy) _ Try.underlying36 rfl 36 kR lN _ rfl gw ?_) | (refine step_loadP S 36 _ _ _ rfl _ _ _ pk 36 _ pT lN _ Try.underlying36 rfl kR gw ?_)) | ((with_reducible refine iO _ (.load 50 _) ?_); refine step_load1 50 _ _ _ rfl (cL) _ Try.underlying50 rfl gw ?_) | ((with_reducible refine iO _ (.load 101 _) ?_); first | (refine step_loadR 101 _ _ _ rfl _ (S.old_range hy) _ Try.underlying101 rfl 3 kR lN _ rfl gw ?_) | (refine step_loadP S 101 _ _ _ rfl _ _ _ pk 3 _ pT lN _ Try.underlying101 rfl kR gw ?_)) | ((with_reducible refine iO _ (.load 51 _) ?_); refine step_load1 51 _ _ _ rfl (cL) _ Try.underlying51 rfl gw ?_) | fail)
    clear he f0 f1 f2 f3 f4 f5 f6 f7 f9
    obtain ⟨l, hle⟩ : ∃ l, l = a.robots := ⟨_, rfl⟩
    obtain ⟨m, hme⟩ : ∃ m, m = b.robots := ⟨_, rfl⟩
    have hl := HL.out
    have hva := HVA.out
    have hvc := HVC.out
    have a6 := A6'.out
    have b6 := B6'.out
    have hx6 := HX6'.out
    rw [← hle] at hl k1 hva a6 S hx6
    rw [← hme] at hl k3 hvc b6 S hx6
    rw [hl] at hva a6 k1 S
    obtain ⟨X, hX⟩ : ∃ X, X = (rpL a (.slice a0 m.length c0) (.slice a2 a.records.length c2)).toArray := ⟨_, rfl⟩
    obtain ⟨Y, hY⟩ : ∃ Y, Y = (rpL b (.slice a1 m.length c1) (.slice a3 b.records.length c3)).toArray := ⟨_, rfl⟩
    have a9 := A9'.out
    have b9 := B9'.out
    rw [← hle, hl, ← hX] at a9
    rw [← hme, ← hY] at b9
    rw [← hX] at S a6
    rw [← hY] at S b6
    have hrec : 0 = 0 := rfl
    clear hle hme hX hY hrec A0' A1' A2' A3' A4' A5' A6' A7' A8' A9' AT' B0' B1' B2' B3' B4' B5' B6' B7' B8' B9' BT' HVA HVC HL HX6'
    have HVA := Lib.hid hva; have HVC := Lib.hid hvc; have HL := Lib.hid hl; have A6 := Lib.hid a6; have B6 := Lib.hid b6; have A9 := Lib.hid a9; have B9 := Lib.hid b9; have HX6 := Lib.hid hx6; clear hva hvc hl a6 b6 a9 b9 hx6
    go_loopw [5] (fun u wr => ∃ (k : Nat), k ≤ m.length ∧ u = .int .i64 (k : Int) ∧ l.take k = m.take k ∧ Has w0 wr [blk g3 (.cells Y 53 (0, 0)), blk g2 (.cells X 53 (0, 0))]) (fun u _ => m.length - (intOf u).toNat)
    case atStart => exact ⟨0, Nat.zero_le _, rfl, rfl, S⟩
    case round =>
      clear S
      obtain ⟨k, hk, rfl, heq, S⟩ := hrel
      by_cases hlt : k < m.length
      · have hll := HL.out
        have hy : m[k]? = some m[k] := List.getElem?_eq_getElem hlt
        have hx : l[k]? = some (l[k]'(by omega)) := List.getElem?_eq_getElem _
        have hva := HVA.out
        obtain ⟨b1, off, rfl, hcell⟩ := hva.atA (by omega)
        have hvc := HVC.out
        obtain ⟨b2, off2, rfl, hcell2⟩ := hvc.atA (by omega)
        have hrg := hva.elem sgtL_length (by decide) k _ hx
        have hrg2 := hvc.elem sgtL_length (by decide) k _ hy
        obtain ⟨x, hxe⟩ : ∃ x, x = (l[k]'(by omega)) := ⟨_, rfl⟩
        obtain ⟨y, hye⟩ : ∃ y, y = m[k] := ⟨_, rfl⟩
        rw [← hxe] at hrg hx
        rw [← hye] at hrg2 hy
        have hne := fun w => HG.out x y w
        have hki : (k : Int) < (m.length : Int) := by omega
        have hki2 : (k : Int) < 9223372036854775807 := by omega
        have hyes : x = y → l.take (k + 1) = m.take (k + 1) := fun e => by rw [List.take_add_one, List.take_add_one, heq, hx, hy, e]
        have hno : x ≠ y → D = false := fun e => HD6.out (HX6.out.trans <| decide_eq_false (fun h => e (by rw [h, hy] at hx; exact (Option.some.inj hx).symm)))
        clear hx hy hcell hcell2 hxe hye hll hva hvc
        have HRG := Lib.hid hrg; have HRG2 := Lib.hid hrg2; have HYES := Lib.hid hyes; have HNO := Lib.hid hno; have HEQ := Lib.hid heq; clear hrg hrg2 hyes hno heq
        go_upto_region 6 with (first | ((with_reducible refine iD 2 (.box 53 (.tmp 0)) ?_); refine step_boxA (dst := some 2) S 53 (.tmp 0) _ rfl gw ?_; clear S; intro g2 w S) | ((with_reducible refine iD 3 (.box 53 (.tmp 1)) ?_); refine step_boxA (dst := some 3) S 53 (.tmp 1) _ rfl gw ?_; clear S; intro g3 w S) | ((with_reducible refine iO _ (.load 5 _) ?_); refine step_load1 5 _ _ _ rfl (cL) _ Try.underlying5 rfl gw ?_) | ((with_reducible refine iO _ (.load 24 _) ?_); refine step_load1 24 _ _ _ rfl (cL) _ Try.underlying24 rfl gw ?_) | ((with_reducible refine iO _ (.load 32 _) ?_); refine step_load1 32 _ _ _ rfl (cL) _ Try.underlying32 rfl gw ?_) | ((with_reducible refine iO _ (.load 3 _) ?_); refine step_load1 3 _ _ _ rfl (cL) _ Try.underlying3 rfl gw ?_) | ((with_reducible refine iO _ (.load 33 _) ?_); refine step_load1 33 _ _ _ rfl (cL) _ Try.underlying33 rfl gw ?_) | ((with_reducible refine iO _ (.load 36 _) ?_); first | (refine step_loadR 36 _ _ _ rfl _ (S.old_range hy) _ Try.underlying36 rfl 36 kR lN _ rfl gw ?_) | (refine step_loadP S 36 _ _ _ rfl _ _ _ pk 36 _ pT lN _ Try.underlying36 rfl kR gw ?_)) | ((with_reducible refine iO _ (.load 50 _) ?_); refine step_load1 50 _ _ _ rfl (cL) _ Try.underlying50 rfl gw ?_) | ((with_reducible refine iO _ (.load 101 _) ?_); first | (refine step_loadR 101 _ _ _ rfl _ (S.old_range hy) _ Try.underlying101 rfl 3 kR lN _ rfl gw ?_) | (refine step_loadP S 101 _ _ _ rfl _ _ _ pk 3 _ pT lN _ Try.underlying101 rfl kR gw ?_)) | ((with_reducible refine iO _ (.load 51 _) ?_); refine step_load1 51 _ _ _ rfl (cL) _ Try.underlying51 rfl gw ?_) | fail)
        by_cases hxy : x = y
        · subst hxy
          rw [decide_eq_true rfl, Bool.not_true] at hne
          refine wp_rely S [⟨[], [], [], fun _ v => v = .pointer (some ⟨g2, 6, none⟩), fun _ v => []⟩, ⟨[0], [], [], fun _ v => v = .slice (some ⟨b1, off, none⟩) m.length c0, fun _ v => []⟩, ⟨[], [], [], fun _ v => v = (.int .i64 (k : Int)), fun _ v => []⟩, ⟨[0, 1, 2], [], [], fun _ v => v = .pointer (some ⟨b1, off + k * 3, none⟩), fun _ v => []⟩, ⟨[0, 1, 2, 3], [], [], fun _ v => v = .agg (sgtL x).toArray, fun _ v => []⟩, ⟨[], [], [], fun _ v => v = .pointer (some ⟨g3, 6, none⟩), fun _ v => []⟩, ⟨[5], [], [], fun _ v => v = .slice (some ⟨b2, off2, none⟩) m.length c1, fun _ v => []⟩, ⟨[], [], [], fun _ v => v = (.int .i64 (k : Int)), fun _ v => []⟩, ⟨[5, 6, 7], [], [], fun _ v => v = .pointer (some ⟨b2, off2 + k * 3, none⟩), fun _ v => []⟩, ⟨[5, 6, 7, 8], [], [], fun _ v => v = .agg (sgtL x).toArray, fun _ v => []⟩, ⟨[0, 1, 2, 3, 4, 5, 6, 7, 8, 9], [], [], fun _ v => v = .bool false, fun _ v => []⟩] ?A3 ?hA3 kR kR kR [0, 1, 2, 3, 4, 5, 6, 7, 8, 9, 10] kR ?hok3 ?fin3
          case hA3 => intro u; simp only [putAll, List.length_cons, List.length_nil, Nat.zero_add, Nat.reduceAdd, dstAt, List.getElem?_toArray, List.getElem?_cons_zero, List.getElem?_cons_succ, Option.bind_some, Act.put, List.setIfInBounds_toArray, List.set_cons_zero, List.set_cons_succ]; rfl
          case hok3 =>
            intro i hi
            obtain rfl | rfl | rfl | rfl | rfl | rfl | rfl | rfl | rfl | rfl | rfl : i = 0 ∨ i = 1 ∨ i = 2 ∨ i = 3 ∨ i = 4 ∨ i = 5 ∨ i = 6 ∨ i = 7 ∨ i = 8 ∨ i = 9 ∨ i = 10 := by simp only [List.length_cons, List.length_nil, Nat.zero_add, Nat.reduceAdd] at hi; omega
            · clear hi
              refine step_of rfl rfl rfl ?_
              intro u G w hf S
              simp only [resOf, spec, RSpec.resAt, z0, z1, z2, z3, z4, z5, z6, z7, ptrBlk] at S ⊢
              simp only [does]
              go_simp
              try first | exact S | exact ⟨vv, S⟩ | exact vv
            · clear hi
              refine step_of rfl rfl rfl ?_
              intro u G w hf S
              have f0 : u 0 = .pointer (some ⟨g2, 6, none⟩) := hf 0 (by simp)
              simp only [resOf, spec, RSpec.resAt, z0, z1, z2, z3, z4, z5, z6, z7, ptrBlk] at S ⊢
              simp only [f0]
              refine does_load1 50 (.tmp 83) _ _ rfl (S.cell (g := g2) pk co) _ Try.underlying50 rfl ?_; exact ⟨rfl, S⟩
            · clear hi
              refine step_of rfl rfl rfl ?_
              intro u G w hf S
              simp only [resOf, spec, RSpec.resAt, z0, z1, z2, z3, z4, z5, z6, z7, ptrBlk] at S ⊢
              simp only [does]
              go_simp
              try first | exact S | exact ⟨vv, S⟩ | exact vv
            · clear hi
              refine step_of rfl rfl rfl ?_
              intro u G w hf S
              have f1 : u 1 = .slice (some ⟨b1, off, none⟩) m.length c0 := hf 1 (by simp)
              have f2 : u 2 = (.int .i64 (k : Int)) := hf 2 (by simp)
              simp only [resOf, spec, RSpec.resAt, z0, z1, z2, z3, z4, z5, z6, z7, ptrBlk] at S ⊢
              simp only [f1, f2]
              simp only [does]
              go_simp
              try first | exact S | exact ⟨vv, S⟩ | exact vv
            · clear hi
              refine step_of rfl rfl rfl ?_
              intro u G w hf S
              have f3 : u 3 = .pointer (some ⟨b1, off + k * 3, none⟩) := hf 3 (by simp)
              simp only [resOf, spec, RSpec.resAt, z0, z1, z2, z3, z4, z5, z6, z7, ptrBlk] at S ⊢
              simp only [f3]
              refine does_loadR 101 (.tmp 86) _ _ rfl _ (S.old_range HRG.out) _ Try.underlying101 rfl 3 kR (sgtL_length _) _ rfl ?_; exact ⟨rfl, S⟩
            · clear hi
              refine step_of rfl rfl rfl ?_
              intro u G w hf S
              simp only [resOf, spec, RSpec.resAt, z0, z1, z2, z3, z4, z5, z6, z7, ptrBlk] at S ⊢
              simp only [does]
              go_simp
              try first | exact S | exact ⟨vv, S⟩ | exact vv
            · clear hi
              refine step_of rfl rfl rfl ?_
              intro u G w hf S
              have f5 : u 5 = .pointer (some ⟨g3, 6, none⟩) := hf 5 (by simp)
              simp only [resOf, spec, RSpec.resAt, z0, z1, z2, z3, z4, z5, z6, z7, ptrBlk] at S ⊢
              simp only [f5]
              refine does_load1 50 (.tmp 88) _ _ rfl (S.cell (g := g3) pk co) _ Try.underlying50 rfl ?_; exact ⟨rfl, S⟩
            · clear hi
              refine step_of rfl rfl rfl ?_
              intro u G w hf S
              simp only [resOf, spec, RSpec.resAt, z0, z1, z2, z3, z4, z5, z6, z7, ptrBlk] at S ⊢
              simp only [does]
              go_simp
              try first | exact S | exact ⟨vv, S⟩ | exact vv
            · clear hi
              refine step_of rfl rfl rfl ?_
              intro u G w hf S
              have f6 : u 6 = .slice (some ⟨b2, off2, none⟩) m.length c1 := hf 6 (by simp)
              have f7 : u 7 = (.int .i64 (k : Int)) := hf 7 (by simp)
              simp only [resOf, spec, RSpec.resAt, z0, z1, z2, z3, z4, z5, z6, z7, ptrBlk] at S ⊢
              simp only [f6, f7]
              simp only [does]
              go_simp
              try first | exact S | exact ⟨vv, S⟩ | exact vv
            · clear hi
              refine step_of rfl rfl rfl ?_
              intro u G w hf S
              have f8 : u 8 = .pointer (some ⟨b2, off2 + k * 3, none⟩) := hf 8 (by simp)
              simp only [resOf, spec, RSpec.resAt, z0, z1, z2, z3, z4, z5, z6, z7, ptrBlk] at S ⊢
              simp only [f8]
              refine does_loadR 101 (.tmp 91) _ _ rfl _ (S.old_range HRG2.out) _ Try.underlying101 rfl 3 kR (sgtL_length _) _ rfl ?_; exact ⟨rfl, S⟩
            · clear hi
              refine step_of rfl rfl rfl ?_
              intro u G w hf S
              have f4 : u 4 = .agg (sgtL x).toArray := hf 4 (by simp)
              have f9 : u 9 = .agg (sgtL x).toArray := hf 9 (by simp)
              simp only [resOf, spec, RSpec.resAt, z0, z1, z2, z3, z4, z5, z6, z7, ptrBlk] at S ⊢
              simp only [f4, f9]
              simp only [does]
              go_simp
              try first | exact S | exact ⟨vv, S⟩ | exact vv
          case fin3 =>
            intro u w hf S
            have f0 : u 0 = .pointer (some ⟨g2, 6, none⟩) := hf 0 (by simp)
            have f1 : u 1 = .slice (some ⟨b1, off, none⟩) m.length c0 := hf 1 (by simp)
            have f2 : u 2 = (.int .i64 (k : Int)) := hf 2 (by simp)
            have f3 : u 3 = .pointer (some ⟨b1, off + k * 3, none⟩) := hf 3 (by simp)
            have f4 : u 4 = .agg (sgtL x).toArray := hf 4 (by simp)
            have f5 : u 5 = .pointer (some ⟨g3, 6, none⟩) := hf 5 (by simp)
            have f6 : u 6 = .slice (some ⟨b2, off2, none⟩) m.length c1 := hf 6 (by simp)
            have f7 : u 7 = (.int .i64 (k : Int)) := hf 7 (by simp)
            have f8 : u 8 = .pointer (some ⟨b2, off2 + k * 3, none⟩) := hf 8 (by simp)
            have f9 : u 9 = .agg (sgtL x).toArray := hf 9 (by simp)
            have f10 : u 10 = .bool false := hf 10 (by simp)
            simp only [resOf, spec, RSpec.resAt, z0, z1, z2, z3, z4, z5, z6, z7, ptrBlk] at S
            clear hf
            simp only [List.length_cons, List.length_nil, Nat.zero_add, Nat.reduceAdd, List.drop_succ_cons, List.drop_zero, f0, f1, f2, f3, f4, f5, f6, f7, f8, f9, f10]
            clear f0 f1 f2 f3 f4 f5 f6 f7 f8 f9 f10
            clear hne
            go_wp2_with (first | ((with_reducible refine iD 2 (.box 53 (.tmp 0)) ?_); refine step_boxA (dst := some 2) S 53 (.tmp 0) _ rfl gw ?_; clear S; intro g2 w S) | ((with_reducible refine iD 3 (.box 53 (.tmp 1)) ?_); refine step_boxA (dst := some 3) S 53 (.tmp 1) _ rfl gw ?_; clear S; intro g3 w S) | ((with_reducible refine iO _ (.load 5 _) ?_); refine step_load1 5 _ _ _ rfl (cL) _ Try.underlying5 rfl gw ?_) | ((with_reducible refine iO _ (.load 24 _) ?_); refine step_load1 24 _ _ _ rfl (cL) _ Try.underlying24 rfl gw ?_) | ((with_reducible refine iO _ (.load 32 _) ?_); refine step_load1 32 _ _ _ rfl (cL) _ Try.underlying32 rfl gw ?_) | ((with_reducible refine iO _ (.load 3 _) ?_); refine step_load1 3 _ _ _ rfl (cL) _ Try.underlying3 rfl gw ?_) | ((with_reducible refine iO _ (.load 33 _) ?_); refine step_load1 33 _ _ _ rfl (cL) _ Try.underlying33 rfl gw ?_) | ((with_reducible refine iO _ (.load 36 _) ?_); first | (refine step_loadR 36 _ _ _ rfl _ (S.old_range hy) _ Try.underlying36 rfl 36 kR lN _ rfl gw ?_) | (refine step_loadP S 36 _ _ _ rfl _ _ _ pk 36 _ pT lN _ Try.underlying36 rfl kR gw ?_)) | ((with_reducible refine iO _ (.load 50 _) ?_); refine step_load1 50 _ _ _ rfl (cL) _ Try.underlying50 rfl gw ?_) | ((with_reducible refine iO _ (.load 101 _) ?_); first | (refine step_loadR 101 _ _ _ rfl _ (S.old_range hy) _ Try.underlying101 rfl 3 kR lN _ rfl gw ?_) | (refine step_loadP S 101 _ _ _ rfl _ _ _ pk 3 _ pT lN _ Try.underlying101 rfl kR gw ?_)) | ((with_reducible refine iO _ (.load 51 _) ?_); refine step_load1 51 _ _ _ rfl (cL) _ Try.underlying51 rfl gw ?_) | fail)
            go_roundw
            case rel => exact ⟨k + 1, by omega, by go_num, HYES.out rfl, S⟩
            case measure => simp [intOf]; omega
        · rw [decide_eq_false hxy, Bool.not_false] at hne
          refine wp_rely S [⟨[], [], [], fun _ v => v = .pointer (some ⟨g2, 6, none⟩), fun _ v => []⟩, ⟨[0], [], [], fun _ v => v = .slice (some ⟨b1, off, none⟩) m.length c0, fun _ v => []⟩, ⟨[], [], [], fun _ v => v = (.int .i64 (k : Int)), fun _ v => []⟩, ⟨[0, 1, 2], [], [], fun _ v => v = .pointer (some ⟨b1, off + k * 3, none⟩), fun _ v => []⟩, ⟨[0, 1, 2, 3], [], [], fun _ v => v = .agg (sgtL x).toArray, fun _ v => []⟩, ⟨[], [], [], fun _ v => v = .pointer (some ⟨g3, 6, none⟩), fun _ v => []⟩, ⟨[5], [], [], fun _ v => v = .slice (some ⟨b2, off2, none⟩) m.length c1, fun _ v => []⟩, ⟨[], [], [], fun _ v => v = (.int .i64 (k : Int)), fun _ v => []⟩, ⟨[5, 6, 7], [], [], fun _ v => v = .pointer (some ⟨b2, off2 + k * 3, none⟩), fun _ v => []⟩, ⟨[5, 6, 7, 8], [], [], fun _ v => v = .agg (sgtL y).toArray, fun _ v => []⟩, ⟨[0, 1, 2, 3, 4, 5, 6, 7, 8, 9], [], [], fun _ v => v = .bool true, fun _ v => []⟩] ?A4 ?hA4 kR kR kR [0, 1, 2, 3, 4, 5, 6, 7, 8, 9, 10] kR ?hok4 ?fin4
          case hA4 => intro u; simp only [putAll, List.length_cons, List.length_nil, Nat.zero_add, Nat.reduceAdd, dstAt, List.getElem?_toArray, List.getElem?_cons_zero, List.getElem?_cons_succ, Option.bind_some, Act.put, List.setIfInBounds_toArray, List.set_cons_zero, List.set_cons_succ]; rfl
          case hok4 =>
            intro i hi
            obtain rfl | rfl | rfl | rfl | rfl | rfl | rfl | rfl | rfl | rfl | rfl : i = 0 ∨ i = 1 ∨ i = 2 ∨ i = 3 ∨ i = 4 ∨ i = 5 ∨ i = 6 ∨ i = 7 ∨ i = 8 ∨ i = 9 ∨ i = 10 := by simp only [List.length_cons, List.length_nil, Nat.zero_add, Nat.reduceAdd] at hi; omega
            · clear hi
              refine step_of rfl rfl rfl ?_
              intro u G w hf S
              simp only [resOf, spec, RSpec.resAt, z0, z1, z2, z3, z4, z5, z6, z7, ptrBlk] at S ⊢
              simp only [does]
              go_simp
              try first | exact S | exact ⟨vv, S⟩ | exact vv
            · clear hi
              refine step_of rfl rfl rfl ?_
              intro u G w hf S
              have f0 : u 0 = .pointer (some ⟨g2, 6, none⟩) := hf 0 (by simp)
              simp only [resOf, spec, RSpec.resAt, z0, z1, z2, z3, z4, z5, z6, z7, ptrBlk] at S ⊢
              simp only [f0]
              refine does_load1 50 (.tmp 83) _ _ rfl (S.cell (g := g2) pk co) _ Try.underlying50 rfl ?_; exact ⟨rfl, S⟩
            · clear hi
              refine step_of rfl rfl rfl ?_
              intro u G w hf S
              simp only [resOf, spec, RSpec.resAt, z0, z1, z2, z3, z4, z5, z6, z7, ptrBlk] at S ⊢
              simp only [does]
              go_simp
              try first | exact S | exact ⟨vv, S⟩ | exact vv
            · clear hi
              refine step_of rfl rfl rfl ?_
              intro u G w hf S
              have f1 : u 1 = .slice (some ⟨b1, off, none⟩) m.length c0 := hf 1 (by simp)
              have f2 : u 2 = (.int .i64 (k : Int)) := hf 2 (by simp)
              simp only [resOf, spec, RSpec.resAt, z0, z1, z2, z3, z4, z5, z6, z7, ptrBlk] at S ⊢
              simp only [f1, f2]
              simp only [does]
              go_simp
              try first | exact S | exact ⟨vv, S⟩ | exact vv
            · clear hi
              refine step_of rfl rfl rfl ?_
              intro u G w hf S
              have f3 : u 3 = .pointer (some ⟨b1, off + k * 3, none⟩) := hf 3 (by simp)
              simp only [resOf, spec, RSpec.resAt, z0, z1, z2, z3, z4, z5, z6, z7, ptrBlk] at S ⊢
              simp only [f3]
              refine does_loadR 101 (.tmp 86) _ _ rfl _ (S.old_range HRG.out) _ Try.underlying101 rfl 3 kR (sgtL_length _) _ rfl ?_; exact ⟨rfl, S⟩
            · clear hi
              refine step_of rfl rfl rfl ?_
              intro u G w hf S
              simp only [resOf, spec, RSpec.resAt, z0, z1, z2, z3, z4, z5, z6, z7, ptrBlk] at S ⊢
              simp only [does]
              go_simp
              try first | exact S | exact ⟨vv, S⟩ | exact vv
            · clear hi
              refine step_of rfl rfl rfl ?_
              intro u G w hf S
              have f5 : u 5 = .pointer (some ⟨g3, 6, none⟩) := hf 5 (by simp)
              simp only [resOf, spec, RSpec.resAt, z0, z1, z2, z3, z4, z5, z6, z7, ptrBlk] at S ⊢
              simp only [f5]
              refine does_load1 50 (.tmp 88) _ _ rfl (S.cell (g := g3) pk co) _ Try.underlying50 rfl ?_; exact ⟨rfl, S⟩
            · clear hi
              refine step_of rfl rfl rfl ?_
              intro u G w hf S
              simp only [resOf, spec, RSpec.resAt, z0, z1, z2, z3, z4, z5, z6, z7, ptrBlk] at S ⊢
              simp only [does]
              go_simp
              try first | exact S | exact ⟨vv, S⟩ | exact vv
            · clear hi
              refine step_of rfl rfl rfl ?_
              intro u G w hf S
              have f6 : u 6 = .slice (some ⟨b2, off2, none⟩) m.length c1 := hf 6 (by simp)
              have f7 : u 7 = (.int .i64 (k : Int)) := hf 7 (by simp)
              simp only [resOf, spec, RSpec.resAt, z0, z1, z2, z3, z4, z5, z6, z7, ptrBlk] at S ⊢
              simp only [f6, f7]
              simp only [does]
              go_simp
              try first | exact S | exact ⟨vv, S⟩ | exact vv
            · clear hi
              refine step_of rfl rfl rfl ?_
              intro u G w hf S
              have f8 : u 8 = .pointer (some ⟨b2, off2 + k * 3, none⟩) := hf 8 (by simp)
              simp only [resOf, spec, RSpec.resAt, z0, z1, z2, z3, z4, z5, z6, z7, ptrBlk] at S ⊢
              simp only [f8]
              refine does_loadR 101 (.tmp 91) _ _ rfl _ (S.old_range HRG2.out) _ Try.underlying101 rfl 3 kR (sgtL_length _) _ rfl ?_; exact ⟨rfl, S⟩
            · clear hi
              refine step_of rfl rfl rfl ?_
              intro u G w hf S
              have f4 : u 4 = .agg (sgtL x).toArray := hf 4 (by simp)
              have f9 : u 9 = .agg (sgtL y).toArray := hf 9 (by simp)
              simp only [resOf, spec, RSpec.resAt, z0, z1, z2, z3, z4, z5, z6, z7, ptrBlk] at S ⊢
              simp only [f4, f9]
              simp only [does]
              go_simp
              try first | exact S | exact ⟨vv, S⟩ | exact vv
          case fin4 =>
            intro u w hf S
            have f0 : u 0 = .pointer (some ⟨g2, 6, none⟩) := hf 0 (by simp)
            have f1 : u 1 = .slice (some ⟨b1, off, none⟩) m.length c0 := hf 1 (by simp)
            have f2 : u 2 = (.int .i64 (k : Int)) := hf 2 (by simp)
            have f3 : u 3 = .pointer (some ⟨b1, off + k * 3, none⟩) := hf 3 (by simp)
            have f4 : u 4 = .agg (sgtL x).toArray := hf 4 (by simp)
            have f5 : u 5 = .pointer (some ⟨g3, 6, none⟩) := hf 5 (by simp)
            have f6 : u 6 = .slice (some ⟨b2, off2, none⟩) m.length c1 := hf 6 (by simp)
            have f7 : u 7 = (.int .i64 (k : Int)) := hf 7 (by simp)
            have f8 : u 8 = .pointer (some ⟨b2, off2 + k * 3, none⟩) := hf 8 (by simp)
            have f9 : u 9 = .agg (sgtL y).toArray := hf 9 (by simp)
            have f10 : u 10 = .bool true := hf 10 (by simp)
            simp only [resOf, spec, RSpec.resAt, z0, z1, z2, z3, z4, z5, z6, z7, ptrBlk] at S
            clear hf
            simp only [List.length_cons, List.length_nil, Nat.zero_add, Nat.reduceAdd, List.drop_succ_cons, List.drop_zero, f0, f1, f2, f3, f4, f5, f6, f7, f8, f9, f10]
            clear f0 f1 f2 f3 f4 f5 f6 f7 f8 f9 f10
            clear hne
            go_wp2_with (first | ((with_reducible refine iD 2 (.box 53 (.tmp 0)) ?_); refine step_boxA (dst := some 2) S 53 (.tmp 0) _ rfl gw ?_; clear S; intro g2 w S) | ((with_reducible refine iD 3 (.box 53 (.tmp 1)) ?_); refine step_boxA (dst := some 3) S 53 (.tmp 1) _ rfl gw ?_; clear S; intro g3 w S) | ((with_reducible refine iO _ (.load 5 _) ?_); refine step_load1 5 _ _ _ rfl (cL) _ Try.underlying5 rfl gw ?_) | ((with_reducible refine iO _ (.load 24 _) ?_); refine step_load1 24 _ _ _ rfl (cL) _ Try.underlying24 rfl gw ?_) | ((with_reducible refine iO _ (.load 32 _) ?_); refine step_load1 32 _ _ _ rfl (cL) _ Try.underlying32 rfl gw ?_) | ((with_reducible refine iO _ (.load 3 _) ?_); refine step_load1 3 _ _ _ rfl (cL) _ Try.underlying3 rfl gw ?_) | ((with_reducible refine iO _ (.load 33 _) ?_); refine step_load1 33 _ _ _ rfl (cL) _ Try.underlying33 rfl gw ?_) | ((with_reducible refine iO _ (.load 36 _) ?_); first | (refine step_loadR 36 _ _ _ rfl _ (S.old_range hy) _ Try.underlying36 rfl 36 kR lN _ rfl gw ?_) | (refine step_loadP S 36 _ _ _ rfl _ _ _ pk 36 _ pT lN _ Try.underlying36 rfl kR gw ?_)) | ((with_reducible refine iO _ (.load 50 _) ?_); refine step_load1 50 _ _ _ rfl (cL) _ Try.underlying50 rfl gw ?_) | ((with_reducible refine iO _ (.load 101 _) ?_); first | (refine step_loadR 101 _ _ _ rfl _ (S.old_range hy) _ Try.underlying101 rfl 3 kR lN _ rfl gw ?_) | (refine step_loadP S 101 _ _ _ rfl _ _ _ pk 3 _ pT lN _ Try.underlying101 rfl kR gw ?_)) | ((with_reducible refine iO _ (.load 51 _) ?_); refine step_load1 51 _ _ _ rfl (cL) _ Try.underlying51 rfl gw ?_) | fail)
            go_ret
            exact ⟨by rw [HNO.out hxy]; rfl, S.nil⟩
      · obtain rfl : k = m.length := by omega
        have hki : ¬ (m.length : Int) < (m.length : Int) := by omega
        have hlm : x6 = true := HX6.out.trans <| decide_eq_true (by
          have h3 := heq
          rw [List.take_of_length_le (by rw [HL.out]; exact Nat.le_refl _), List.take_length] at h3
          exact h3)
        have hlm := HD9.out hlm
        have HLM := Lib.hid hlm; clear hlm
        clear heq
        go_wp2_with (first | ((with_reducible refine iD 2 (.box 53 (.tmp 0)) ?_); refine step_boxA (dst := some 2) S 53 (.tmp 0) _ rfl gw ?_; clear S; intro g2 w S) | ((with_reducible refine iD 3 (.box 53 (.tmp 1)) ?_); refine step_boxA (dst := some 3) S 53 (.tmp 1) _ rfl gw ?_; clear S; intro g3 w S) | ((with_reducible refine iO _ (.load 5 _) ?_); refine step_load1 5 _ _ _ rfl (cL) _ Try.underlying5 rfl gw ?_) | ((with_reducible refine iO _ (.load 24 _) ?_); refine step_load1 24 _ _ _ rfl (cL) _ Try.underlying24 rfl gw ?_) | ((with_reducible refine iO _ (.load 32 _) ?_); refine step_load1 32 _ _ _ rfl (cL) _ Try.underlying32 rfl gw ?_) | ((with_reducible refine iO _ (.load 3 _) ?_); refine step_load1 3 _ _ _ rfl (cL) _ Try.underlying3 rfl gw ?_) | ((with_reducible refine iO _ (.load 33 _) ?_); refine step_load1 33 _ _ _ rfl (cL) _ Try.underlying33 rfl gw ?_) | ((with_reducible refine iO _ (.load 36 _) ?_); first | (refine step_loadR 36 _ _ _ rfl _ (S.old_range hy) _ Try.underlying36 rfl 36 kR lN _ rfl gw ?_) | (refine step_loadP S 36 _ _ _ rfl _ _ _ pk 36 _ pT lN _ Try.underlying36 rfl kR gw ?_)) | ((with_reducible refine iO _ (.load 50 _) ?_); refine step_load1 50 _ _ _ rfl (cL) _ Try.underlying50 rfl gw ?_) | ((with_reducible refine iO _ (.load 101 _) ?_); first | (refine step_loadR 101 _ _ _ rfl _ (S.old_range hy) _ Try.underlying101 rfl 3 kR lN _ rfl gw ?_) | (refine step_loadP S 101 _ _ _ rfl _ _ _ pk 3 _ pT lN _ Try.underlying101 rfl kR gw ?_)) | ((with_reducible refine iO _ (.load 51 _) ?_); refine step_load1 51 _ _ _ rfl (cL) _ Try.underlying51 rfl gw ?_) | (go_at_call 47; (with_reducible refine (P2.out _ (S.old HVB.out) (S.old HVD.out)).mono ?_); rintro e w1 ⟨rfl, T⟩; replace S := S.call T; clear T; (try simp only [z4, z5] at S)) | fail)
        go_ret
        exact ⟨by rw [HLM.out]; rfl, S.nil⟩
  all_goals
    simp only [Bool.not_false, Bool.not_true, Bool.false_and, Bool.true_and] at hDe
    clear hll hg hx6
    have A0' := Lib.hid a0'; have A1' := Lib.hid a1'; have A2' := Lib.hid a2'; have A3' := Lib.hid a3'; have A4' := Lib.hid a4'; have A5' := Lib.hid a5'; have A6' := Lib.hid a6'; have A7' := Lib.hid a7'; have A8' := Lib.hid a8'; have A9' := Lib.hid a9'; have AT' := Lib.hid at'; have B0' := Lib.hid b0'; have B1' := Lib.hid b1'; have B2' := Lib.hid b2'; have B3' := Lib.hid b3'; have B4' := Lib.hid b4'; have B5' := Lib.hid b5'; have B6' := Lib.hid b6'; have B7' := Lib.hid b7'; have B8' := Lib.hid b8'; have B9' := Lib.hid b9'; have BT' := Lib.hid bt'; have P2 := Lib.hid p2; have HVA := Lib.hid hva; have HVB := Lib.hid hvb; have HVC := Lib.hid hvc; have HVD := Lib.hid hvd; have HDE := Lib.hid hDe; clear a0' a1' a2' a3' a4' a5' a6' a7' a8' a9' at' b0' b1' b2' b3' b4' b5' b6' b7' b8' b9' bt' p2 hva hvb hvc hvd hDe
    go_enter Try.func21, Try.ntmps21
    simp only [List.append_eq, List.cons_append, List.nil_append]
    go_wp2_with (first | ((with_reducible refine iD 2 (.box 53 (.tmp 0)) ?_); refine step_boxA (dst := some 2) S 53 (.tmp 0) _ rfl gw ?_; clear S; intro g2 w S) | ((with_reducible refine iD 3 (.box 53 (.tmp 1)) ?_); refine step_boxA (dst := some 3) S 53 (.tmp 1) _ rfl gw ?_; clear S; intro g3 w S) | ((with_reducible refine iO _ (.load 5 _) ?_); refine step_load1 5 _ _ _ rfl (cL) _ Try.underlying5 rfl gw ?_) | ((with_reducible refine iO _ (.load 24 _) ?_); refine step_load1 24 _ _ _ rfl (cL) _ Try.underlying24 rfl gw ?_) | ((with_reducible refine iO _ (.load 32 _) ?_); refine step_load1 32 _ _ _ rfl (cL) _ Try.underlying32 rfl gw ?_) | ((with_reducible refine iO _ (.load 3 _) ?_); refine step_load1 3 _ _ _ rfl (cL) _ Try.underlying3 rfl gw ?_) | ((with_reducible refine iO _ (.load 33 _) ?_); refine step_load1 33 _ _ _ rfl (cL) _ Try.underlying33 rfl gw ?_) | ((with_reducible refine iO _ (.load 36 _) ?_); first | (refine step_loadR 36 _ _ _ rfl _ (S.old_range hy) _ Try.underlying36 rfl 36 kR lN _ rfl gw ?_) | (refine step_loadP S 36 _ _ _ rfl _ _ _ pk 36 _ pT lN _ Try.underlying36 rfl kR gw ?_)) | ((with_reducible refine iO _ (.load 50 _) ?_); refine step_load1 50 _ _ _ rfl (cL) _ Try.underlying50 rfl gw ?_) | ((with_reducible refine iO _ (.load 101 _) ?_); first | (refine step_loadR 101 _ _ _ rfl _ (S.old_range hy) _ Try.underlying101 rfl 3 kR lN _ rfl gw ?_) | (refine step_loadP S 101 _ _ _ rfl _ _ _ pk 3 _ pT lN _ Try.underlying101 rfl kR gw ?_)) | ((with_reducible refine iO _ (.load 51 _) ?_); refine step_load1 51 _ _ _ rfl (cL) _ Try.underlying51 rfl gw ?_) | fail)
    go_ret
    exact ⟨by rw [HDE.out]; rfl, S.nil⟩
end Go.Proofs.Ytfhkmmagpnojmaa
