/- Equality of sights and of records, slice by slice. No condition but the reach. -/
import Derived.Test.YtfhkmmagpnojmaaZBd
import Derived.Deep.Cut
import Derived.Test.YtfhkmmagpnojmaaZRcM
import Derived.Test.YtfhkmmagpnojmaaZRelyC
set_option linter.unusedSimpArgs false
set_option linter.unusedVariables false
namespace Go.Proofs.Ytfhkmmagpnojmaa
open Go.RowKit

set_option maxRecDepth 100000 in
theorem eqSg (a b : Sgt) (w : World) : (Op.equalIn 10000 101 (.agg (sgtL a).toArray) (.agg (sgtL b).toArray)).run Try.prog w = .ok (decide (a = b)) w := by
  have hp : Try.prog.stoodInHeld 101 = false := by kernel_rfl
  have hf : Try.prog.underlying 101 = some (.struct (Try.prog.fieldsOf 101)) := by kernel_rfl
  have e : decide (a = b) = ((a.place.v == b.place.v) && (((a.state.toNat : Int) == (b.state.toNat : Int)) && ((a.order.v == b.order.v) && true))) := by
    rw [beqU8, beqI, beqI, Bool.eq_iff_iff]
    simp only [decide_eq_true_eq, Bool.and_eq_true, and_true]
    constructor
    · rintro rfl; exact ⟨rfl, rfl, rfl⟩
    · rintro ⟨h1, h2, h3⟩
      exact Sgt.ext' h1 h2 h3
  rw [e, run_equalIn_agg (P := Try.prog) w 9999 101 _ _ hf hp]
  unfold Program.fieldsOf
  rw [Try.underlying101]
  exact eqFields_step w 9999 _ _ _ _ rfl _ _ (run_part1 w _ _ _ _ _ Try.underlying3 rfl rfl) (run_part1 w _ _ _ _ _ Try.underlying3 rfl rfl) _ _ (run_equalIn_int w 9998 _ _ _ _ _ Try.underlying3)
    (eqFields_step w 9999 _ _ _ _ rfl _ _ (run_part1 w _ _ _ _ _ Try.underlying5 rfl rfl) (run_part1 w _ _ _ _ _ Try.underlying5 rfl rfl) _ _ (run_equalIn_int w 9998 _ _ _ _ _ Try.underlying5)
    (eqFields_step w 9999 _ _ _ _ rfl _ _ (run_part1 w _ _ _ _ _ Try.underlying3 rfl rfl) (run_part1 w _ _ _ _ _ Try.underlying3 rfl rfl) _ _ (run_equalIn_int w 9998 _ _ _ _ _ Try.underlying3)
    (eqFields_nil w 9999 _ _)))
theorem neqSg (a b : Sgt) (w : World) : (binOp .neq 101 (.agg (sgtL a).toArray) (.agg (sgtL b).toArray)).run Try.prog w = .ok (.bool (!decide (a = b))) w := by
  rw [run_neq_struct, eqSg, Result.andThen_ok]
theorem eqGuardSg : Try.prog.eqGuardType Try.prog.depth 101 = false := by kernel_rfl
set_option maxRecDepth 100000 in
set_option maxHeartbeats 4000000 in
theorem equalSg_s (v1 v2 : Value) (l m : List Sgt) (w0 : World) (h1 : Sl w0 3 v1 l.length (l.flatMap sgtL)) (h2 : Sl w0 3 v2 m.length (m.flatMap sgtL)) :
    Calls Try.prog 61 #[v1, v2] w0 fun e w' => e = .returned (.bool (decide (l = m))) ∧ Has w0 w' [] := by
  have S := Has.start w0
  obtain ⟨a0, c0, rfl, k1, k2⟩ := Sl.shape h1
  obtain ⟨a1, c1, rfl, k3, k4⟩ := Sl.shape h2
  unfold maxLen at k2 k4
  by_cases hl : l.length = m.length
  case neg =>
    rw [decide_eq_false (fun e => hl (by rw [e]))]
    have i0 : ((l.length : Int) != (m.length : Int)) = true := by rw [bne_iff_ne]; omega
    have H1 := Lib.hid h1; have H2 := Lib.hid h2; clear h1 h2
    clear hl
    go_enter Try.func61, Try.ntmps61
    go_wp2_with (first | ((with_reducible refine iO _ (.load 101 _) ?_); first | (refine step_loadR 101 _ _ _ rfl _ (S.old_range hy) _ Try.underlying101 rfl 3 kR lN _ rfl rfl ?_) | (refine step_loadP S 101 _ _ _ rfl _ _ _ pk 3 _ pT lN _ Try.underlying101 rfl kR rfl ?_)) | fail)
    go_ret
    exact ⟨rfl, S.nil⟩
  have i0 : ((m.length : Int) != (m.length : Int)) = false := by simp
  rw [hl] at h1 k1
  rw [hl]
  obtain ⟨D, hD⟩ : ∃ D, D = decide (l = m) := ⟨_, rfl⟩
  rw [← hD]
  have eg := eqGuardSg
  have H1 := Lib.hid h1; have H2 := Lib.hid h2; have HL := Lib.hid hl; have HD := Lib.hid hD; clear h1 h2 hl hD
  go_enter Try.func61, Try.ntmps61
  go_wp2_with (first | ((with_reducible refine iO _ (.load 101 _) ?_); first | (refine step_loadR 101 _ _ _ rfl _ (S.old_range hy) _ Try.underlying101 rfl 3 kR lN _ rfl rfl ?_) | (refine step_loadP S 101 _ _ _ rfl _ _ _ pk 3 _ pT lN _ Try.underlying101 rfl kR rfl ?_)) | fail)
  go_loopw [13] (fun u wr => ∃ (k : Nat), k ≤ m.length ∧ u = .int .i64 (k : Int) ∧ l.take k = m.take k ∧ Has w0 wr []) (fun u _ => m.length - (intOf u).toNat)
  case atStart => exact ⟨0, Nat.zero_le _, rfl, rfl, S⟩
  case round =>
    clear S
    obtain ⟨k, hk, rfl, heq, S⟩ := hrel
    by_cases hlt : k < m.length
    · have hll := HL.out
      have hy : m[k]? = some m[k] := List.getElem?_eq_getElem hlt
      have hx : l[k]? = some (l[k]'(by omega)) := List.getElem?_eq_getElem _
      obtain ⟨b, off, rfl, hcell⟩ := H1.out.atA (by omega)
      obtain ⟨b2, off2, rfl, hcell2⟩ := H2.out.atA (by omega)
      have hrg := H1.out.elem sgtL_length (by decide) k _ hx
      have hrg2 := H2.out.elem sgtL_length (by decide) k _ hy
      obtain ⟨x, hxe⟩ : ∃ x, x = (l[k]'(by omega)) := ⟨_, rfl⟩
      obtain ⟨y, hye⟩ : ∃ y, y = m[k] := ⟨_, rfl⟩
      rw [← hxe] at hrg hx
      rw [← hye] at hrg2 hy
      have hne := fun w => neqSg x y w
      have hki : (k : Int) < (m.length : Int) := by omega
      have hki2 : (k : Int) < 9223372036854775807 := by omega
      have hyes : x = y → l.take (k + 1) = m.take (k + 1) := fun e => by rw [List.take_add_one, List.take_add_one, heq, hx, hy, e]
      have hno : x ≠ y → D = false := fun e => HD.out.trans <| decide_eq_false (fun h => e (by rw [h, hy] at hx; exact (Option.some.inj hx).symm))
      clear hx hy hcell hcell2 hxe hye hll
      have HRG := Lib.hid hrg; have HRG2 := Lib.hid hrg2; have HYES := Lib.hid hyes; have HNO := Lib.hid hno; have HEQ := Lib.hid heq; clear hrg hrg2 hyes hno heq
      go_upto_region 6 with (first | ((with_reducible refine iO _ (.load 101 _) ?_); first | (refine step_loadR 101 _ _ _ rfl _ (S.old_range hy) _ Try.underlying101 rfl 3 kR lN _ rfl rfl ?_) | (refine step_loadP S 101 _ _ _ rfl _ _ _ pk 3 _ pT lN _ Try.underlying101 rfl kR rfl ?_)) | fail)
      by_cases hxy : x = y
      · subst hxy
        rw [decide_eq_true rfl, Bool.not_true] at hne
        refine wp_rely S [⟨[], [], [], fun _ v => v = (.slice (some ⟨b, off, none⟩) m.length c0), fun _ v => []⟩, ⟨[], [], [], fun _ v => v = (.int .i64 (k : Int)), fun _ v => []⟩, ⟨[0, 1], [], [], fun _ v => v = .pointer (some ⟨b, off + k * 3, none⟩), fun _ v => []⟩, ⟨[0, 1, 2], [], [], fun _ v => v = .agg (sgtL x).toArray, fun _ v => []⟩, ⟨[], [], [], fun _ v => v = (.slice (some ⟨b2, off2, none⟩) m.length c1), fun _ v => []⟩, ⟨[], [], [], fun _ v => v = (.int .i64 (k : Int)), fun _ v => []⟩, ⟨[4, 5], [], [], fun _ v => v = .pointer (some ⟨b2, off2 + k * 3, none⟩), fun _ v => []⟩, ⟨[4, 5, 6], [], [], fun _ v => v = .agg (sgtL x).toArray, fun _ v => []⟩, ⟨[0, 1, 2, 3, 4, 5, 6, 7], [], [], fun _ v => v = .bool false, fun _ v => []⟩] ?A1 ?hA1 kR kR kR [0, 1, 2, 3, 4, 5, 6, 7, 8] kR ?hok1 ?fin1
        case hA1 => intro u; simp only [putAll, List.length_cons, List.length_nil, Nat.zero_add, Nat.reduceAdd, dstAt, List.getElem?_toArray, List.getElem?_cons_zero, List.getElem?_cons_succ, Option.bind_some, Act.put, List.setIfInBounds_toArray, List.set_cons_zero, List.set_cons_succ]; rfl
        case hok1 =>
          intro i hi
          obtain rfl | rfl | rfl | rfl | rfl | rfl | rfl | rfl | rfl : i = 0 ∨ i = 1 ∨ i = 2 ∨ i = 3 ∨ i = 4 ∨ i = 5 ∨ i = 6 ∨ i = 7 ∨ i = 8 := by simp only [List.length_cons, List.length_nil, Nat.zero_add, Nat.reduceAdd] at hi; omega
          · clear hi
            refine step_of rfl rfl rfl ?_
            intro u G w hf S
            simp only [resOf, spec, RSpec.resAt, z0, z1, z2, z3, z4, z5, z6, z7, ptrBlk] at S ⊢
            simp only [does]
            go_simp
            try first | exact S | exact ⟨vv, S⟩ | exact vv
          · clear hi
            refine step_of rfl rfl rfl ?_
            intro u G w hf S
            simp only [resOf, spec, RSpec.resAt, z0, z1, z2, z3, z4, z5, z6, z7, ptrBlk] at S ⊢
            simp only [does]
            go_simp
            try first | exact S | exact ⟨vv, S⟩ | exact vv
          · clear hi
            refine step_of rfl rfl rfl ?_
            intro u G w hf S
            have f0 : u 0 = (.slice (some ⟨b, off, none⟩) m.length c0) := hf 0 (by simp)
            have f1 : u 1 = (.int .i64 (k : Int)) := hf 1 (by simp)
            simp only [resOf, spec, RSpec.resAt, z0, z1, z2, z3, z4, z5, z6, z7, ptrBlk] at S ⊢
            simp only [f0, f1]
            simp only [does]
            go_simp
            try first | exact S | exact ⟨vv, S⟩ | exact vv
          · clear hi
            refine step_of rfl rfl rfl ?_
            intro u G w hf S
            have f2 : u 2 = .pointer (some ⟨b, off + k * 3, none⟩) := hf 2 (by simp)
            simp only [resOf, spec, RSpec.resAt, z0, z1, z2, z3, z4, z5, z6, z7, ptrBlk] at S ⊢
            simp only [f2]
            refine does_loadR 101 (.tmp 18) _ _ rfl _ (S.old_range HRG.out) _ Try.underlying101 rfl 3 kR (sgtL_length _) _ rfl ?_; exact ⟨rfl, S⟩
          · clear hi
            refine step_of rfl rfl rfl ?_
            intro u G w hf S
            simp only [resOf, spec, RSpec.resAt, z0, z1, z2, z3, z4, z5, z6, z7, ptrBlk] at S ⊢
            simp only [does]
            go_simp
            try first | exact S | exact ⟨vv, S⟩ | exact vv
          · clear hi
            refine step_of rfl rfl rfl ?_
            intro u G w hf S
            simp only [resOf, spec, RSpec.resAt, z0, z1, z2, z3, z4, z5, z6, z7, ptrBlk] at S ⊢
            simp only [does]
            go_simp
            try first | exact S | exact ⟨vv, S⟩ | exact vv
          · clear hi
            refine step_of rfl rfl rfl ?_
            intro u G w hf S
            have f4 : u 4 = (.slice (some ⟨b2, off2, none⟩) m.length c1) := hf 4 (by simp)
            have f5 : u 5 = (.int .i64 (k : Int)) := hf 5 (by simp)
            simp only [resOf, spec, RSpec.resAt, z0, z1, z2, z3, z4, z5, z6, z7, ptrBlk] at S ⊢
            simp only [f4, f5]
            simp only [does]
            go_simp
            try first | exact S | exact ⟨vv, S⟩ | exact vv
          · clear hi
            refine step_of rfl rfl rfl ?_
            intro u G w hf S
            have f6 : u 6 = .pointer (some ⟨b2, off2 + k * 3, none⟩) := hf 6 (by simp)
            simp only [resOf, spec, RSpec.resAt, z0, z1, z2, z3, z4, z5, z6, z7, ptrBlk] at S ⊢
            simp only [f6]
            refine does_loadR 101 (.tmp 22) _ _ rfl _ (S.old_range HRG2.out) _ Try.underlying101 rfl 3 kR (sgtL_length _) _ rfl ?_; exact ⟨rfl, S⟩
          · clear hi
            refine step_of rfl rfl rfl ?_
            intro u G w hf S
            have f3 : u 3 = .agg (sgtL x).toArray := hf 3 (by simp)
            have f7 : u 7 = .agg (sgtL x).toArray := hf 7 (by simp)
            simp only [resOf, spec, RSpec.resAt, z0, z1, z2, z3, z4, z5, z6, z7, ptrBlk] at S ⊢
            simp only [f3, f7]
            simp only [does]
            go_simp
            try first | exact S | exact ⟨vv, S⟩ | exact vv
        case fin1 =>
          intro u w hf S
          have f0 : u 0 = (.slice (some ⟨b, off, none⟩) m.length c0) := hf 0 (by simp)
          have f1 : u 1 = (.int .i64 (k : Int)) := hf 1 (by simp)
          have f2 : u 2 = .pointer (some ⟨b, off + k * 3, none⟩) := hf 2 (by simp)
          have f3 : u 3 = .agg (sgtL x).toArray := hf 3 (by simp)
          have f4 : u 4 = (.slice (some ⟨b2, off2, none⟩) m.length c1) := hf 4 (by simp)
          have f5 : u 5 = (.int .i64 (k : Int)) := hf 5 (by simp)
          have f6 : u 6 = .pointer (some ⟨b2, off2 + k * 3, none⟩) := hf 6 (by simp)
          have f7 : u 7 = .agg (sgtL x).toArray := hf 7 (by simp)
          have f8 : u 8 = .bool false := hf 8 (by simp)
          simp only [resOf, spec, RSpec.resAt, z0, z1, z2, z3, z4, z5, z6, z7, ptrBlk] at S
          clear hf
          simp only [List.length_cons, List.length_nil, Nat.zero_add, Nat.reduceAdd, List.drop_succ_cons, List.drop_zero, f0, f1, f2, f3, f4, f5, f6, f7, f8]
          clear f0 f1 f2 f3 f4 f5 f6 f7 f8
          clear hne
          go_wp2_with (first | ((with_reducible refine iO _ (.load 101 _) ?_); first | (refine step_loadR 101 _ _ _ rfl _ (S.old_range hy) _ Try.underlying101 rfl 3 kR lN _ rfl rfl ?_) | (refine step_loadP S 101 _ _ _ rfl _ _ _ pk 3 _ pT lN _ Try.underlying101 rfl kR rfl ?_)) | fail)
          go_roundw
          case rel => exact ⟨k + 1, by omega, by go_num, HYES.out rfl, S⟩
          case measure => simp [intOf]; omega
      · rw [decide_eq_false hxy, Bool.not_false] at hne
        refine wp_rely S [⟨[], [], [], fun _ v => v = (.slice (some ⟨b, off, none⟩) m.length c0), fun _ v => []⟩, ⟨[], [], [], fun _ v => v = (.int .i64 (k : Int)), fun _ v => []⟩, ⟨[0, 1], [], [], fun _ v => v = .pointer (some ⟨b, off + k * 3, none⟩), fun _ v => []⟩, ⟨[0, 1, 2], [], [], fun _ v => v = .agg (sgtL x).toArray, fun _ v => []⟩, ⟨[], [], [], fun _ v => v = (.slice (some ⟨b2, off2, none⟩) m.length c1), fun _ v => []⟩, ⟨[], [], [], fun _ v => v = (.int .i64 (k : Int)), fun _ v => []⟩, ⟨[4, 5], [], [], fun _ v => v = .pointer (some ⟨b2, off2 + k * 3, none⟩), fun _ v => []⟩, ⟨[4, 5, 6], [], [], fun _ v => v = .agg (sgtL y).toArray, fun _ v => []⟩, ⟨[0, 1, 2, 3, 4, 5, 6, 7], [], [], fun _ v => v = .bool true, fun _ v => []⟩] ?A2 ?hA2 kR kR kR [0, 1, 2, 3, 4, 5, 6, 7, 8] kR ?hok2 ?fin2
        case hA2 => intro u; simp only [putAll, List.length_cons, List.length_nil, Nat.zero_add, Nat.reduceAdd, dstAt, List.getElem?_toArray, List.getElem?_cons_zero, List.getElem?_cons_succ, Option.bind_some, Act.put, List.setIfInBounds_toArray, List.set_cons_zero, List.set_cons_succ]; rfl
        case hok2 =>
          intro i hi
          obtain rfl | rfl | rfl | rfl | rfl | rfl | rfl | rfl | rfl : i = 0 ∨ i = 1 ∨ i = 2 ∨ i = 3 ∨ i = 4 ∨ i = 5 ∨ i = 6 ∨ i = 7 ∨ i = 8 := by simp only [List.length_cons, List.length_nil, Nat.zero_add, Nat.reduceAdd] at hi; omega
          · clear hi
            refine step_of rfl rfl rfl ?_
            intro u G w hf S
            simp only [resOf, spec, RSpec.resAt, z0, z1, z2, z3, z4, z5, z6, z7, ptrBlk] at S ⊢
            simp only [does]
            go_simp
            try first | exact S | exact ⟨vv, S⟩ | exact vv
          · clear hi
            refine step_of rfl rfl rfl ?_
            intro u G w hf S
            simp only [resOf, spec, RSpec.resAt, z0, z1, z2, z3, z4, z5, z6, z7, ptrBlk] at S ⊢
            simp only [does]
            go_simp
            try first | exact S | exact ⟨vv, S⟩ | exact vv
          · clear hi
            refine step_of rfl rfl rfl ?_
            intro u G w hf S
            have f0 : u 0 = (.slice (some ⟨b, off, none⟩) m.length c0) := hf 0 (by simp)
            have f1 : u 1 = (.int .i64 (k : Int)) := hf 1 (by simp)
            simp only [resOf, spec, RSpec.resAt, z0, z1, z2, z3, z4, z5, z6, z7, ptrBlk] at S ⊢
            simp only [f0, f1]
            simp only [does]
            go_simp
            try first | exact S | exact ⟨vv, S⟩ | exact vv
          · clear hi
            refine step_of rfl rfl rfl ?_
            intro u G w hf S
            have f2 : u 2 = .pointer (some ⟨b, off + k * 3, none⟩) := hf 2 (by simp)
            simp only [resOf, spec, RSpec.resAt, z0, z1, z2, z3, z4, z5, z6, z7, ptrBlk] at S ⊢
            simp only [f2]
            refine does_loadR 101 (.tmp 18) _ _ rfl _ (S.old_range HRG.out) _ Try.underlying101 rfl 3 kR (sgtL_length _) _ rfl ?_; exact ⟨rfl, S⟩
          · clear hi
            refine step_of rfl rfl rfl ?_
            intro u G w hf S
            simp only [resOf, spec, RSpec.resAt, z0, z1, z2, z3, z4, z5, z6, z7, ptrBlk] at S ⊢
            simp only [does]
            go_simp
            try first | exact S | exact ⟨vv, S⟩ | exact vv
          · clear hi
            refine step_of rfl rfl rfl ?_
            intro u G w hf S
            simp only [resOf, spec, RSpec.resAt, z0, z1, z2, z3, z4, z5, z6, z7, ptrBlk] at S ⊢
            simp only [does]
            go_simp
            try first | exact S | exact ⟨vv, S⟩ | exact vv
          · clear hi
            refine step_of rfl rfl rfl ?_
            intro u G w hf S
            have f4 : u 4 = (.slice (some ⟨b2, off2, none⟩) m.length c1) := hf 4 (by simp)
            have f5 : u 5 = (.int .i64 (k : Int)) := hf 5 (by simp)
            simp only [resOf, spec, RSpec.resAt, z0, z1, z2, z3, z4, z5, z6, z7, ptrBlk] at S ⊢
            simp only [f4, f5]
            simp only [does]
            go_simp
            try first | exact S | exact ⟨vv, S⟩ | exact vv
          · clear hi
            refine step_of rfl rfl rfl ?_
            intro u G w hf S
            have f6 : u 6 = .pointer (some ⟨b2, off2 + k * 3, none⟩) := hf 6 (by simp)
            simp only [resOf, spec, RSpec.resAt, z0, z1, z2, z3, z4, z5, z6, z7, ptrBlk] at S ⊢
            simp only [f6]
            refine does_loadR 101 (.tmp 22) _ _ rfl _ (S.old_range HRG2.out) _ Try.underlying101 rfl 3 kR (sgtL_length _) _ rfl ?_; exact ⟨rfl, S⟩
          · clear hi
            refine step_of rfl rfl rfl ?_
            intro u G w hf S
            have f3 : u 3 = .agg (sgtL x).toArray := hf 3 (by simp)
            have f7 : u 7 = .agg (sgtL y).toArray := hf 7 (by simp)
            simp only [resOf, spec, RSpec.resAt, z0, z1, z2, z3, z4, z5, z6, z7, ptrBlk] at S ⊢
            simp only [f3, f7]
            simp only [does]
            go_simp
            try first | exact S | exact ⟨vv, S⟩ | exact vv
        case fin2 =>
          intro u w hf S
          have f0 : u 0 = (.slice (some ⟨b, off, none⟩) m.length c0) := hf 0 (by simp)
          have f1 : u 1 = (.int .i64 (k : Int)) := hf 1 (by simp)
          have f2 : u 2 = .pointer (some ⟨b, off + k * 3, none⟩) := hf 2 (by simp)
          have f3 : u 3 = .agg (sgtL x).toArray := hf 3 (by simp)
          have f4 : u 4 = (.slice (some ⟨b2, off2, none⟩) m.length c1) := hf 4 (by simp)
          have f5 : u 5 = (.int .i64 (k : Int)) := hf 5 (by simp)
          have f6 : u 6 = .pointer (some ⟨b2, off2 + k * 3, none⟩) := hf 6 (by simp)
          have f7 : u 7 = .agg (sgtL y).toArray := hf 7 (by simp)
          have f8 : u 8 = .bool true := hf 8 (by simp)
          simp only [resOf, spec, RSpec.resAt, z0, z1, z2, z3, z4, z5, z6, z7, ptrBlk] at S
          clear hf
          simp only [List.length_cons, List.length_nil, Nat.zero_add, Nat.reduceAdd, List.drop_succ_cons, List.drop_zero, f0, f1, f2, f3, f4, f5, f6, f7, f8]
          clear f0 f1 f2 f3 f4 f5 f6 f7 f8
          clear hne
          go_wp2_with (first | ((with_reducible refine iO _ (.load 101 _) ?_); first | (refine step_loadR 101 _ _ _ rfl _ (S.old_range hy) _ Try.underlying101 rfl 3 kR lN _ rfl rfl ?_) | (refine step_loadP S 101 _ _ _ rfl _ _ _ pk 3 _ pT lN _ Try.underlying101 rfl kR rfl ?_)) | fail)
          go_ret
          exact ⟨by rw [HNO.out hxy]; rfl, S.nil⟩
    · obtain rfl : k = m.length := by omega
      have hki : ¬ (m.length : Int) < (m.length : Int) := by omega
      have hlm : D = true := HD.out.trans <| decide_eq_true (by
        have h3 := heq
        rw [List.take_of_length_le (by rw [HL.out]; exact Nat.le_refl _), List.take_length] at h3
        exact h3)
      have HLM := Lib.hid hlm; clear hlm
      clear heq
      go_wp2_with (first | ((with_reducible refine iO _ (.load 101 _) ?_); first | (refine step_loadR 101 _ _ _ rfl _ (S.old_range hy) _ Try.underlying101 rfl 3 kR lN _ rfl rfl ?_) | (refine step_loadP S 101 _ _ _ rfl _ _ _ pk 3 _ pT lN _ Try.underlying101 rfl kR rfl ?_)) | fail)
      go_ret
      exact ⟨by rw [HLM.out]; rfl, S.nil⟩
set_option maxRecDepth 100000 in
set_option maxHeartbeats 4000000 in
theorem equalRc_s (v1 v2 : Value) (l m : List Rcd) (w0 : World) (h1 : Sl w0 35 v1 l.length (l.flatMap rcdL)) (h2 : Sl w0 35 v2 m.length (m.flatMap rcdL)) :
    Calls Try.prog 62 #[v1, v2] w0 fun e w' => e = .returned (.bool (decide (l = m))) ∧ Has w0 w' [] := by
  have S := Has.start w0
  obtain ⟨a0, c0, rfl, k1, k2⟩ := Sl.shape h1
  obtain ⟨a1, c1, rfl, k3, k4⟩ := Sl.shape h2
  unfold maxLen at k2 k4
  by_cases hl : l.length = m.length
  case neg =>
    rw [decide_eq_false (fun e => hl (by rw [e]))]
    have i0 : ((l.length : Int) != (m.length : Int)) = true := by rw [bne_iff_ne]; omega
    have H1 := Lib.hid h1; have H2 := Lib.hid h2; clear h1 h2
    clear hl
    go_enter Try.func62, Try.ntmps62
    go_wp2_with (first | ((with_reducible refine iO _ (.load 106 _) ?_); first | (refine step_loadR 106 _ _ _ rfl _ (S.old_range hy) _ Try.underlying106 rfl 35 kR lN _ rfl rfl ?_) | (refine step_loadP S 106 _ _ _ rfl _ _ _ pk 35 _ pT lN _ Try.underlying106 rfl kR rfl ?_)) | fail)
    go_ret
    exact ⟨rfl, S.nil⟩
  have i0 : ((m.length : Int) != (m.length : Int)) = false := by simp
  rw [hl] at h1 k1
  rw [hl]
  obtain ⟨D, hD⟩ : ∃ D, D = decide (l = m) := ⟨_, rfl⟩
  rw [← hD]
  have eg := eqGuardRc
  have H1 := Lib.hid h1; have H2 := Lib.hid h2; have HL := Lib.hid hl; have HD := Lib.hid hD; clear h1 h2 hl hD
  go_enter Try.func62, Try.ntmps62
  go_wp2_with (first | ((with_reducible refine iO _ (.load 106 _) ?_); first | (refine step_loadR 106 _ _ _ rfl _ (S.old_range hy) _ Try.underlying106 rfl 35 kR lN _ rfl rfl ?_) | (refine step_loadP S 106 _ _ _ rfl _ _ _ pk 35 _ pT lN _ Try.underlying106 rfl kR rfl ?_)) | fail)
  go_loopw [13] (fun u wr => ∃ (k : Nat), k ≤ m.length ∧ u = .int .i64 (k : Int) ∧ l.take k = m.take k ∧ Has w0 wr []) (fun u _ => m.length - (intOf u).toNat)
  case atStart => exact ⟨0, Nat.zero_le _, rfl, rfl, S⟩
  case round =>
    clear S
    obtain ⟨k, hk, rfl, heq, S⟩ := hrel
    by_cases hlt : k < m.length
    · have hll := HL.out
      have hy : m[k]? = some m[k] := List.getElem?_eq_getElem hlt
      have hx : l[k]? = some (l[k]'(by omega)) := List.getElem?_eq_getElem _
      obtain ⟨b, off, rfl, hcell⟩ := H1.out.atA (by omega)
      obtain ⟨b2, off2, rfl, hcell2⟩ := H2.out.atA (by omega)
      have hrg := H1.out.elem rcdL_length (by decide) k _ hx
      have hrg2 := H2.out.elem rcdL_length (by decide) k _ hy
      obtain ⟨x, hxe⟩ : ∃ x, x = (l[k]'(by omega)) := ⟨_, rfl⟩
      obtain ⟨y, hye⟩ : ∃ y, y = m[k] := ⟨_, rfl⟩
      rw [← hxe] at hrg hx
      rw [← hye] at hrg2 hy
      have hne := fun w => neqRc x y w
      have hki : (k : Int) < (m.length : Int) := by omega
      have hki2 : (k : Int) < 9223372036854775807 := by omega
      have hyes : x = y → l.take (k + 1) = m.take (k + 1) := fun e => by rw [List.take_add_one, List.take_add_one, heq, hx, hy, e]
      have hno : x ≠ y → D = false := fun e => HD.out.trans <| decide_eq_false (fun h => e (by rw [h, hy] at hx; exact (Option.some.inj hx).symm))
      clear hx hy hcell hcell2 hxe hye hll
      have HRG := Lib.hid hrg; have HRG2 := Lib.hid hrg2; have HYES := Lib.hid hyes; have HNO := Lib.hid hno; have HEQ := Lib.hid heq; clear hrg hrg2 hyes hno heq
      go_upto_region 6 with (first | ((with_reducible refine iO _ (.load 106 _) ?_); first | (refine step_loadR 106 _ _ _ rfl _ (S.old_range hy) _ Try.underlying106 rfl 35 kR lN _ rfl rfl ?_) | (refine step_loadP S 106 _ _ _ rfl _ _ _ pk 35 _ pT lN _ Try.underlying106 rfl kR rfl ?_)) | fail)
      by_cases hxy : x = y
      · subst hxy
        rw [decide_eq_true rfl, Bool.not_true] at hne
        refine wp_rely S [⟨[], [], [], fun _ v => v = (.slice (some ⟨b, off, none⟩) m.length c0), fun _ v => []⟩, ⟨[], [], [], fun _ v => v = (.int .i64 (k : Int)), fun _ v => []⟩, ⟨[0, 1], [], [], fun _ v => v = .pointer (some ⟨b, off + k * 35, none⟩), fun _ v => []⟩, ⟨[0, 1, 2], [], [], fun _ v => v = .agg (rcdL x).toArray, fun _ v => []⟩, ⟨[], [], [], fun _ v => v = (.slice (some ⟨b2, off2, none⟩) m.length c1), fun _ v => []⟩, ⟨[], [], [], fun _ v => v = (.int .i64 (k : Int)), fun _ v => []⟩, ⟨[4, 5], [], [], fun _ v => v = .pointer (some ⟨b2, off2 + k * 35, none⟩), fun _ v => []⟩, ⟨[4, 5, 6], [], [], fun _ v => v = .agg (rcdL x).toArray, fun _ v => []⟩, ⟨[0, 1, 2, 3, 4, 5, 6, 7], [], [], fun _ v => v = .bool false, fun _ v => []⟩] ?A3 ?hA3 kR kR kR [0, 1, 2, 3, 4, 5, 6, 7, 8] kR ?hok3 ?fin3
        case hA3 => intro u; simp only [putAll, List.length_cons, List.length_nil, Nat.zero_add, Nat.reduceAdd, dstAt, List.getElem?_toArray, List.getElem?_cons_zero, List.getElem?_cons_succ, Option.bind_some, Act.put, List.setIfInBounds_toArray, List.set_cons_zero, List.set_cons_succ]; rfl
        case hok3 =>
          intro i hi
          obtain rfl | rfl | rfl | rfl | rfl | rfl | rfl | rfl | rfl : i = 0 ∨ i = 1 ∨ i = 2 ∨ i = 3 ∨ i = 4 ∨ i = 5 ∨ i = 6 ∨ i = 7 ∨ i = 8 := by simp only [List.length_cons, List.length_nil, Nat.zero_add, Nat.reduceAdd] at hi; omega
          · clear hi
            refine step_of rfl rfl rfl ?_
            intro u G w hf S
            simp only [resOf, spec, RSpec.resAt, z0, z1, z2, z3, z4, z5, z6, z7, ptrBlk] at S ⊢
            simp only [does]
            go_simp
            try first | exact S | exact ⟨vv, S⟩ | exact vv
          · clear hi
            refine step_of rfl rfl rfl ?_
            intro u G w hf S
            simp only [resOf, spec, RSpec.resAt, z0, z1, z2, z3, z4, z5, z6, z7, ptrBlk] at S ⊢
            simp only [does]
            go_simp
            try first | exact S | exact ⟨vv, S⟩ | exact vv
          · clear hi
            refine step_of rfl rfl rfl ?_
            intro u G w hf S
            have f0 : u 0 = (.slice (some ⟨b, off, none⟩) m.length c0) := hf 0 (by simp)
            have f1 : u 1 = (.int .i64 (k : Int)) := hf 1 (by simp)
            simp only [resOf, spec, RSpec.resAt, z0, z1, z2, z3, z4, z5, z6, z7, ptrBlk] at S ⊢
            simp only [f0, f1]
            simp only [does]
            go_simp
            try first | exact S | exact ⟨vv, S⟩ | exact vv
          · clear hi
            refine step_of rfl rfl rfl ?_
            intro u G w hf S
            have f2 : u 2 = .pointer (some ⟨b, off + k * 35, none⟩) := hf 2 (by simp)
            simp only [resOf, spec, RSpec.resAt, z0, z1, z2, z3, z4, z5, z6, z7, ptrBlk] at S ⊢
            simp only [f2]
            refine does_loadR 106 (.tmp 18) _ _ rfl _ (S.old_range HRG.out) _ Try.underlying106 rfl 35 kR (rcdL_length _) _ rfl ?_; exact ⟨rfl, S⟩
          · clear hi
            refine step_of rfl rfl rfl ?_
            intro u G w hf S
            simp only [resOf, spec, RSpec.resAt, z0, z1, z2, z3, z4, z5, z6, z7, ptrBlk] at S ⊢
            simp only [does]
            go_simp
            try first | exact S | exact ⟨vv, S⟩ | exact vv
          · clear hi
            refine step_of rfl rfl rfl ?_
            intro u G w hf S
            simp only [resOf, spec, RSpec.resAt, z0, z1, z2, z3, z4, z5, z6, z7, ptrBlk] at S ⊢
            simp only [does]
            go_simp
            try first | exact S | exact ⟨vv, S⟩ | exact vv
          · clear hi
            refine step_of rfl rfl rfl ?_
            intro u G w hf S
            have f4 : u 4 = (.slice (some ⟨b2, off2, none⟩) m.length c1) := hf 4 (by simp)
            have f5 : u 5 = (.int .i64 (k : Int)) := hf 5 (by simp)
            simp only [resOf, spec, RSpec.resAt, z0, z1, z2, z3, z4, z5, z6, z7, ptrBlk] at S ⊢
            simp only [f4, f5]
            simp only [does]
            go_simp
            try first | exact S | exact ⟨vv, S⟩ | exact vv
          · clear hi
            refine step_of rfl rfl rfl ?_
            intro u G w hf S
            have f6 : u 6 = .pointer (some ⟨b2, off2 + k * 35, none⟩) := hf 6 (by simp)
            simp only [resOf, spec, RSpec.resAt, z0, z1, z2, z3, z4, z5, z6, z7, ptrBlk] at S ⊢
            simp only [f6]
            refine does_loadR 106 (.tmp 22) _ _ rfl _ (S.old_range HRG2.out) _ Try.underlying106 rfl 35 kR (rcdL_length _) _ rfl ?_; exact ⟨rfl, S⟩
          · clear hi
            refine step_of rfl rfl rfl ?_
            intro u G w hf S
            have f3 : u 3 = .agg (rcdL x).toArray := hf 3 (by simp)
            have f7 : u 7 = .agg (rcdL x).toArray := hf 7 (by simp)
            simp only [resOf, spec, RSpec.resAt, z0, z1, z2, z3, z4, z5, z6, z7, ptrBlk] at S ⊢
            simp only [f3, f7]
            simp only [does]
            go_simp
            try first | exact S | exact ⟨vv, S⟩ | exact vv
        case fin3 =>
          intro u w hf S
          have f0 : u 0 = (.slice (some ⟨b, off, none⟩) m.length c0) := hf 0 (by simp)
          have f1 : u 1 = (.int .i64 (k : Int)) := hf 1 (by simp)
          have f2 : u 2 = .pointer (some ⟨b, off + k * 35, none⟩) := hf 2 (by simp)
          have f3 : u 3 = .agg (rcdL x).toArray := hf 3 (by simp)
          have f4 : u 4 = (.slice (some ⟨b2, off2, none⟩) m.length c1) := hf 4 (by simp)
          have f5 : u 5 = (.int .i64 (k : Int)) := hf 5 (by simp)
          have f6 : u 6 = .pointer (some ⟨b2, off2 + k * 35, none⟩) := hf 6 (by simp)
          have f7 : u 7 = .agg (rcdL x).toArray := hf 7 (by simp)
          have f8 : u 8 = .bool false := hf 8 (by simp)
          simp only [resOf, spec, RSpec.resAt, z0, z1, z2, z3, z4, z5, z6, z7, ptrBlk] at S
          clear hf
          simp only [List.length_cons, List.length_nil, Nat.zero_add, Nat.reduceAdd, List.drop_succ_cons, List.drop_zero, f0, f1, f2, f3, f4, f5, f6, f7, f8]
          clear f0 f1 f2 f3 f4 f5 f6 f7 f8
          clear hne
          go_wp2_with (first | ((with_reducible refine iO _ (.load 106 _) ?_); first | (refine step_loadR 106 _ _ _ rfl _ (S.old_range hy) _ Try.underlying106 rfl 35 kR lN _ rfl rfl ?_) | (refine step_loadP S 106 _ _ _ rfl _ _ _ pk 35 _ pT lN _ Try.underlying106 rfl kR rfl ?_)) | fail)
          go_roundw
          case rel => exact ⟨k + 1, by omega, by go_num, HYES.out rfl, S⟩
          case measure => simp [intOf]; omega
      · rw [decide_eq_false hxy, Bool.not_false] at hne
        refine wp_rely S [⟨[], [], [], fun _ v => v = (.slice (some ⟨b, off, none⟩) m.length c0), fun _ v => []⟩, ⟨[], [], [], fun _ v => v = (.int .i64 (k : Int)), fun _ v => []⟩, ⟨[0, 1], [], [], fun _ v => v = .pointer (some ⟨b, off + k * 35, none⟩), fun _ v => []⟩, ⟨[0, 1, 2], [], [], fun _ v => v = .agg (rcdL x).toArray, fun _ v => []⟩, ⟨[], [], [], fun _ v => v = (.slice (some ⟨b2, off2, none⟩) m.length c1), fun _ v => []⟩, ⟨[], [], [], fun _ v => v = (.int .i64 (k : Int)), fun _ v => []⟩, ⟨[4, 5], [], [], fun _ v => v = .pointer (some ⟨b2, off2 + k * 35, none⟩), fun _ v => []⟩, ⟨[4, 5, 6], [], [], fun _ v => v = .agg (rcdL y).toArray, fun _ v => []⟩, ⟨[0, 1, 2, 3, 4, 5, 6, 7], [], [], fun _ v => v = .bool true, fun _ v => []⟩] ?A4 ?hA4 kR kR kR [0, 1, 2, 3, 4, 5, 6, 7, 8] kR ?hok4 ?fin4
        case hA4 => intro u; simp only [putAll, List.length_cons, List.length_nil, Nat.zero_add, Nat.reduceAdd, dstAt, List.getElem?_toArray, List.getElem?_cons_zero, List.getElem?_cons_succ, Option.bind_some, Act.put, List.setIfInBounds_toArray, List.set_cons_zero, List.set_cons_succ]; rfl
        case hok4 =>
          intro i hi
          obtain rfl | rfl | rfl | rfl | rfl | rfl | rfl | rfl | rfl : i = 0 ∨ i = 1 ∨ i = 2 ∨ i = 3 ∨ i = 4 ∨ i = 5 ∨ i = 6 ∨ i = 7 ∨ i = 8 := by simp only [List.length_cons, List.length_nil, Nat.zero_add, Nat.reduceAdd] at hi; omega
          · clear hi
            refine step_of rfl rfl rfl ?_
            intro u G w hf S
            simp only [resOf, spec, RSpec.resAt, z0, z1, z2, z3, z4, z5, z6, z7, ptrBlk] at S ⊢
            simp only [does]
            go_simp
            try first | exact S | exact ⟨vv, S⟩ | exact vv
          · clear hi
            refine step_of rfl rfl rfl ?_
            intro u G w hf S
            simp only [resOf, spec, RSpec.resAt, z0, z1, z2, z3, z4, z5, z6, z7, ptrBlk] at S ⊢
            simp only [does]
            go_simp
            try first | exact S | exact ⟨vv, S⟩ | exact vv
          · clear hi
            refine step_of rfl rfl rfl ?_
            intro u G w hf S
            have f0 : u 0 = (.slice (some ⟨b, off, none⟩) m.length c0) := hf 0 (by simp)
            have f1 : u 1 = (.int .i64 (k : Int)) := hf 1 (by simp)
            simp only [resOf, spec, RSpec.resAt, z0, z1, z2, z3, z4, z5, z6, z7, ptrBlk] at S ⊢
            simp only [f0, f1]
            simp only [does]
            go_simp
            try first | exact S | exact ⟨vv, S⟩ | exact vv
          · clear hi
            refine step_of rfl rfl rfl ?_
            intro u G w hf S
            have f2 : u 2 = .pointer (some ⟨b, off + k * 35, none⟩) := hf 2 (by simp)
            simp only [resOf, spec, RSpec.resAt, z0, z1, z2, z3, z4, z5, z6, z7, ptrBlk] at S ⊢
            simp only [f2]
            refine does_loadR 106 (.tmp 18) _ _ rfl _ (S.old_range HRG.out) _ Try.underlying106 rfl 35 kR (rcdL_length _) _ rfl ?_; exact ⟨rfl, S⟩
          · clear hi
            refine step_of rfl rfl rfl ?_
            intro u G w hf S
            simp only [resOf, spec, RSpec.resAt, z0, z1, z2, z3, z4, z5, z6, z7, ptrBlk] at S ⊢
            simp only [does]
            go_simp
            try first | exact S | exact ⟨vv, S⟩ | exact vv
          · clear hi
            refine step_of rfl rfl rfl ?_
            intro u G w hf S
            simp only [resOf, spec, RSpec.resAt, z0, z1, z2, z3, z4, z5, z6, z7, ptrBlk] at S ⊢
            simp only [does]
            go_simp
            try first | exact S | exact ⟨vv, S⟩ | exact vv
          · clear hi
            refine step_of rfl rfl rfl ?_
            intro u G w hf S
            have f4 : u 4 = (.slice (some ⟨b2, off2, none⟩) m.length c1) := hf 4 (by simp)
            have f5 : u 5 = (.int .i64 (k : Int)) := hf 5 (by simp)
            simp only [resOf, spec, RSpec.resAt, z0, z1, z2, z3, z4, z5, z6, z7, ptrBlk] at S ⊢
            simp only [f4, f5]
            simp only [does]
            go_simp
            try first | exact S | exact ⟨vv, S⟩ | exact vv
          · clear hi
            refine step_of rfl rfl rfl ?_
            intro u G w hf S
            have f6 : u 6 = .pointer (some ⟨b2, off2 + k * 35, none⟩) := hf 6 (by simp)
            simp only [resOf, spec, RSpec.resAt, z0, z1, z2, z3, z4, z5, z6, z7, ptrBlk] at S ⊢
            simp only [f6]
            refine does_loadR 106 (.tmp 22) _ _ rfl _ (S.old_range HRG2.out) _ Try.underlying106 rfl 35 kR (rcdL_length _) _ rfl ?_; exact ⟨rfl, S⟩
          · clear hi
            refine step_of rfl rfl rfl ?_
            intro u G w hf S
            have f3 : u 3 = .agg (rcdL x).toArray := hf 3 (by simp)
            have f7 : u 7 = .agg (rcdL y).toArray := hf 7 (by simp)
            simp only [resOf, spec, RSpec.resAt, z0, z1, z2, z3, z4, z5, z6, z7, ptrBlk] at S ⊢
            simp only [f3, f7]
            simp only [does]
            go_simp
            try first | exact S | exact ⟨vv, S⟩ | exact vv
        case fin4 =>
          intro u w hf S
          have f0 : u 0 = (.slice (some ⟨b, off, none⟩) m.length c0) := hf 0 (by simp)
          have f1 : u 1 = (.int .i64 (k : Int)) := hf 1 (by simp)
          have f2 : u 2 = .pointer (some ⟨b, off + k * 35, none⟩) := hf 2 (by simp)
          have f3 : u 3 = .agg (rcdL x).toArray := hf 3 (by simp)
          have f4 : u 4 = (.slice (some ⟨b2, off2, none⟩) m.length c1) := hf 4 (by simp)
          have f5 : u 5 = (.int .i64 (k : Int)) := hf 5 (by simp)
          have f6 : u 6 = .pointer (some ⟨b2, off2 + k * 35, none⟩) := hf 6 (by simp)
          have f7 : u 7 = .agg (rcdL y).toArray := hf 7 (by simp)
          have f8 : u 8 = .bool true := hf 8 (by simp)
          simp only [resOf, spec, RSpec.resAt, z0, z1, z2, z3, z4, z5, z6, z7, ptrBlk] at S
          clear hf
          simp only [List.length_cons, List.length_nil, Nat.zero_add, Nat.reduceAdd, List.drop_succ_cons, List.drop_zero, f0, f1, f2, f3, f4, f5, f6, f7, f8]
          clear f0 f1 f2 f3 f4 f5 f6 f7 f8
          clear hne
          go_wp2_with (first | ((with_reducible refine iO _ (.load 106 _) ?_); first | (refine step_loadR 106 _ _ _ rfl _ (S.old_range hy) _ Try.underlying106 rfl 35 kR lN _ rfl rfl ?_) | (refine step_loadP S 106 _ _ _ rfl _ _ _ pk 35 _ pT lN _ Try.underlying106 rfl kR rfl ?_)) | fail)
          go_ret
          exact ⟨by rw [HNO.out hxy]; rfl, S.nil⟩
    · obtain rfl : k = m.length := by omega
      have hki : ¬ (m.length : Int) < (m.length : Int) := by omega
      have hlm : D = true := HD.out.trans <| decide_eq_true (by
        have h3 := heq
        rw [List.take_of_length_le (by rw [HL.out]; exact Nat.le_refl _), List.take_length] at h3
        exact h3)
      have HLM := Lib.hid hlm; clear hlm
      clear heq
      go_wp2_with (first | ((with_reducible refine iO _ (.load 106 _) ?_); first | (refine step_loadR 106 _ _ _ rfl _ (S.old_range hy) _ Try.underlying106 rfl 35 kR lN _ rfl rfl ?_) | (refine step_loadP S 106 _ _ _ rfl _ _ _ pk 35 _ pT lN _ Try.underlying106 rfl kR rfl ?_)) | fail)
      go_ret
      exact ⟨by rw [HLM.out]; rfl, S.nil⟩
end Go.Proofs.Ytfhkmmagpnojmaa
