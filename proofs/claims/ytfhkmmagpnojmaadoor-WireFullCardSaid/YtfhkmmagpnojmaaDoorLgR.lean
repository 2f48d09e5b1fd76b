/- The reference's logs: equality, copies, validity. No condition. -/
import Derived.Test.YtfhkmmagpnojmaaDoorBd
import Derived.Test.YtfhkmmagpnojmaaDoorRcM
set_option linter.unusedSimpArgs false
set_option linter.unusedVariables false
namespace Go.Proofs.YtfhkmmagpnojmaaDoor
open Go.RowKit

theorem lgL_set33 (g : Lg) (v u : Value) : (lgL g v).toArray.setIfInBounds 33 u = (lgL g u).toArray := by
  unfold lgL
  rw [List.setIfInBounds_toArray, List.set_cons_succ, List.set_append_right _ _ (by simp [g.len])]
  simp [g.len]
theorem lgL_set0 (g : Lg) (v : Value) (n : UInt32) : (lgL g v).toArray.setIfInBounds 0 (.int .u32 (n.toNat : Int)) = (lgL ⟨n, g.link, g.recs, g.len⟩ v).toArray := by
  unfold lgL
  rw [List.setIfInBounds_toArray, List.set_cons_zero]
theorem lgL_setK (g : Lg) (v : Value) (D : List UInt8) (hD : D.length = 32) : ((lgL g v).toArray.toList.take 1 ++ (arr8 D).toList ++ (lgL g v).toArray.toList.drop (1 + 32)).toArray = (lgL ⟨g.cnt, D, g.recs, hD⟩ v).toArray := by
  have e : (lgL g v).toArray.toList.drop (1 + 32) = [v] := by
    show (g.link.map by8 ++ [v]).drop 32 = [v]
    rw [List.drop_left' (by simp [g.len])]
  rw [e]
  show ([Value.int .u32 (g.cnt.toNat : Int)] ++ D.map by8 ++ [v]).toArray = _
  simp [lgL]

set_option maxRecDepth 100000 in
set_option maxHeartbeats 4000000 in
theorem sameRecords_s (v1 v2 : Value) (l : List Rcd) (w0 : World) (h1 : Sl w0 35 v1 l.length (l.flatMap rcdL)) (h2 : Sl w0 35 v2 l.length (l.flatMap rcdL)) :
    Calls Tryd.prog 28 #[v1, v2] w0 fun e w' => e = .returned (.bool true) ∧ Has w0 w' [] := by
  have S := Has.start w0
  obtain ⟨a0, c0, rfl, k1, k2⟩ := Sl.shape h1
  obtain ⟨a1, c1, rfl, k3, k4⟩ := Sl.shape h2
  unfold maxLen at k2 k4
  have i0 : ((l.length : Int) == (l.length : Int)) = true := by simp
  have eg := eqGuardRc
  have H1 := Lib.hid h1; have H2 := Lib.hid h2; clear h1 h2
  go_enter Tryd.func28, Tryd.ntmps28
  go_wp2_with (first | ((with_reducible refine iO _ (.load 50 _) ?_); first | (refine step_loadR 50 _ _ _ rfl _ (S.old_range hy) _ Tryd.underlying50 rfl 35 kR lN _ rfl rfl ?_) | (refine step_loadP S 50 _ _ _ rfl _ _ _ pk 35 _ pT lN _ Tryd.underlying50 rfl kR rfl ?_)) | fail)
  go_loopw [5] (fun u wr => ∃ (k : Nat), k ≤ l.length ∧ u = .int .i64 (k : Int) ∧ Has w0 wr []) (fun u _ => l.length - (intOf u).toNat)
  case atStart => exact ⟨0, Nat.zero_le _, rfl, S⟩
  case round =>
    clear S
    obtain ⟨k, hk, rfl, S⟩ := hrel
    by_cases hlt : k < l.length
    · have hx : l[k]? = some l[k] := List.getElem?_eq_getElem hlt
      obtain ⟨b, off, rfl, hcell⟩ := H1.out.atA (by omega)
      obtain ⟨b2, off2, rfl, hcell2⟩ := H2.out.atA (by omega)
      have hrg := H1.out.elem rcdL_length (by decide) k _ hx
      have hrg2 := H2.out.elem rcdL_length (by decide) k _ hx
      obtain ⟨x, hxe⟩ : ∃ x, x = l[k] := ⟨_, rfl⟩
      rw [← hxe] at hrg hrg2
      have hne := fun w => neqRc x x w
      simp only [decide_true, Bool.not_true] at hne
      have hki : (k : Int) < (l.length : Int) := by omega
      have hki2 : (k : Int) < 9223372036854775807 := by omega
      clear hx hcell hcell2 hxe
      have HRG := Lib.hid hrg; have HRG2 := Lib.hid hrg2; clear hrg hrg2
      go_upto_region 6 with (first | ((with_reducible refine iO _ (.load 50 _) ?_); first | (refine step_loadR 50 _ _ _ rfl _ (S.old_range hy) _ Tryd.underlying50 rfl 35 kR lN _ rfl rfl ?_) | (refine step_loadP S 50 _ _ _ rfl _ _ _ pk 35 _ pT lN _ Tryd.underlying50 rfl kR rfl ?_)) | fail)
      refine wp_rely S [⟨[], [], [], fun _ v => v = (.slice (some ⟨b, off, none⟩) l.length c0), fun _ v => []⟩, ⟨[], [], [], fun _ v => v = (.int .i64 (k : Int)), fun _ v => []⟩, ⟨[0, 1], [], [], fun _ v => v = .pointer (some ⟨b, off + k * 35, none⟩), fun _ v => []⟩, ⟨[0, 1, 2], [], [], fun _ v => v = .agg (rcdL x).toArray, fun _ v => []⟩, ⟨[], [], [], fun _ v => v = (.slice (some ⟨b2, off2, none⟩) l.length c1), fun _ v => []⟩, ⟨[], [], [], fun _ v => v = (.int .i64 (k : Int)), fun _ v => []⟩, ⟨[4, 5], [], [], fun _ v => v = .pointer (some ⟨b2, off2 + k * 35, none⟩), fun _ v => []⟩, ⟨[4, 5, 6], [], [], fun _ v => v = .agg (rcdL x).toArray, fun _ v => []⟩, ⟨[0, 1, 2, 3, 4, 5, 6, 7], [], [], fun _ v => v = .bool false, fun _ v => []⟩] ?A1 ?hA1 kR kR kR [0, 1, 2, 3, 4, 5, 6, 7, 8] kR ?hok1 ?fin1
      case hA1 => intro u; simp only [putAll, List.length_cons, List.length_nil, Nat.zero_add, Nat.reduceAdd, dstAt, List.getElem?_toArray, List.getElem?_cons_zero, List.getElem?_cons_succ, Option.bind_some, Act.put, List.setIfInBounds_toArray, List.set_cons_zero, List.set_cons_succ]; rfl
      case hok1 =>
        intro i hi
        obtain rfl | rfl | rfl | rfl | rfl | rfl | rfl | rfl | rfl : i = 0 ∨ i = 1 ∨ i = 2 ∨ i = 3 ∨ i = 4 ∨ i = 5 ∨ i = 6 ∨ i = 7 ∨ i = 8 := by simp only [List.length_cons, List.length_nil, Nat.zero_add, Nat.reduceAdd] at hi; omega
        · clear hi
          refine step_of rfl rfl rfl ?_
          intro u G w hf S
          simp only [resOf, spec, RSpec.resAt, z0, z1, z2, z3, z4, z5, z6, z7, ptrBlk] at S ⊢
          simp only [does]
          go_simp
          try first | exact S | exact ⟨vv, S⟩ | exact vv
        · clear hi
          refine step_of rfl rfl rfl ?_
          intro u G w hf S
          simp only [resOf, spec, RSpec.resAt, z0, z1, z2, z3, z4, z5, z6, z7, ptrBlk] at S ⊢
          simp only [does]
          go_simp
          try first | exact S | exact ⟨vv, S⟩ | exact vv
        · clear hi
          refine step_of rfl rfl rfl ?_
          intro u G w hf S
          have f0 : u 0 = (.slice (some ⟨b, off, none⟩) l.length c0) := hf 0 (by simp)
          have f1 : u 1 = (.int .i64 (k : Int)) := hf 1 (by simp)
          simp only [resOf, spec, RSpec.resAt, z0, z1, z2, z3, z4, z5, z6, z7, ptrBlk] at S ⊢
          simp only [f0, f1]
          simp only [does]
          go_simp
          try first | exact S | exact ⟨vv, S⟩ | exact vv
        · clear hi
          refine step_of rfl rfl rfl ?_
          intro u G w hf S
          have f2 : u 2 = .pointer (some ⟨b, off + k * 35, none⟩) := hf 2 (by simp)
          simp only [resOf, spec, RSpec.resAt, z0, z1, z2, z3, z4, z5, z6, z7, ptrBlk] at S ⊢
          simp only [f2]
          refine does_loadR 50 (.tmp 19) _ _ rfl _ (S.old_range HRG.out) _ Tryd.underlying50 rfl 35 kR (rcdL_length _) _ rfl ?_; exact ⟨rfl, S⟩
        · clear hi
          refine step_of rfl rfl rfl ?_
          intro u G w hf S
          simp only [resOf, spec, RSpec.resAt, z0, z1, z2, z3, z4, z5, z6, z7, ptrBlk] at S ⊢
          simp only [does]
          go_simp
          try first | exact S | exact ⟨vv, S⟩ | exact vv
        · clear hi
          refine step_of rfl rfl rfl ?_
          intro u G w hf S
          simp only [resOf, spec, RSpec.resAt, z0, z1, z2, z3, z4, z5, z6, z7, ptrBlk] at S ⊢
          simp only [does]
          go_simp
          try first | exact S | exact ⟨vv, S⟩ | exact vv
        · clear hi
          refine step_of rfl rfl rfl ?_
          intro u G w hf S
          have f4 : u 4 = (.slice (some ⟨b2, off2, none⟩) l.length c1) := hf 4 (by simp)
          have f5 : u 5 = (.int .i64 (k : Int)) := hf 5 (by simp)
          simp only [resOf, spec, RSpec.resAt, z0, z1, z2, z3, z4, z5, z6, z7, ptrBlk] at S ⊢
          simp only [f4, f5]
          simp only [does]
          go_simp
          try first | exact S | exact ⟨vv, S⟩ | exact vv
        · clear hi
          refine step_of rfl rfl rfl ?_
          intro u G w hf S
          have f6 : u 6 = .pointer (some ⟨b2, off2 + k * 35, none⟩) := hf 6 (by simp)
          simp only [resOf, spec, RSpec.resAt, z0, z1, z2, z3, z4, z5, z6, z7, ptrBlk] at S ⊢
          simp only [f6]
          refine does_loadR 50 (.tmp 23) _ _ rfl _ (S.old_range HRG2.out) _ Tryd.underlying50 rfl 35 kR (rcdL_length _) _ rfl ?_; exact ⟨rfl, S⟩
        · clear hi
          refine step_of rfl rfl rfl ?_
          intro u G w hf S
          have f3 : u 3 = .agg (rcdL x).toArray := hf 3 (by simp)
          have f7 : u 7 = .agg (rcdL x).toArray := hf 7 (by simp)
          simp only [resOf, spec, RSpec.resAt, z0, z1, z2, z3, z4, z5, z6, z7, ptrBlk] at S ⊢
          simp only [f3, f7]
          simp only [does]
          go_simp
          try first | exact S | exact ⟨vv, S⟩ | exact vv
      case fin1 =>
        intro u w hf S
        have f0 : u 0 = (.slice (some ⟨b, off, none⟩) l.length c0) := hf 0 (by simp)
        have f1 : u 1 = (.int .i64 (k : Int)) := hf 1 (by simp)
        have f2 : u 2 = .pointer (some ⟨b, off + k * 35, none⟩) := hf 2 (by simp)
        have f3 : u 3 = .agg (rcdL x).toArray := hf 3 (by simp)
        have f4 : u 4 = (.slice (some ⟨b2, off2, none⟩) l.length c1) := hf 4 (by simp)
        have f5 : u 5 = (.int .i64 (k : Int)) := hf 5 (by simp)
        have f6 : u 6 = .pointer (some ⟨b2, off2 + k * 35, none⟩) := hf 6 (by simp)
        have f7 : u 7 = .agg (rcdL x).toArray := hf 7 (by simp)
        have f8 : u 8 = .bool false := hf 8 (by simp)
        simp only [resOf, spec, RSpec.resAt, z0, z1, z2, z3, z4, z5, z6, z7, ptrBlk] at S
        clear hf
        simp only [List.length_cons, List.length_nil, Nat.zero_add, Nat.reduceAdd, List.drop_succ_cons, List.drop_zero, f0, f1, f2, f3, f4, f5, f6, f7, f8]
        clear f0 f1 f2 f3 f4 f5 f6 f7 f8
        go_wp2_with (first | ((with_reducible refine iO _ (.load 50 _) ?_); first | (refine step_loadR 50 _ _ _ rfl _ (S.old_range hy) _ Tryd.underlying50 rfl 35 kR lN _ rfl rfl ?_) | (refine step_loadP S 50 _ _ _ rfl _ _ _ pk 35 _ pT lN _ Tryd.underlying50 rfl kR rfl ?_)) | fail)
        go_roundw
        case rel => exact ⟨k + 1, by omega, by go_num, S⟩
        case measure => simp [intOf]; omega
    · obtain rfl : k = l.length := by omega
      have hki : ¬ (l.length : Int) < (l.length : Int) := by omega
      go_wp2_with (first | ((with_reducible refine iO _ (.load 50 _) ?_); first | (refine step_loadR 50 _ _ _ rfl _ (S.old_range hy) _ Tryd.underlying50 rfl 35 kR lN _ rfl rfl ?_) | (refine step_loadP S 50 _ _ _ rfl _ _ _ pk 35 _ pT lN _ Tryd.underlying50 rfl kR rfl ?_)) | fail)
      go_ret
      exact ⟨rfl, S.nil⟩

set_option maxRecDepth 100000 in
set_option maxHeartbeats 4000000 in
theorem sameLog_s (g : Lg) (v1 v2 : Value) (w0 : World) (h1 : Sl w0 35 v1 g.recs.length (g.recs.flatMap rcdL)) (h2 : Sl w0 35 v2 g.recs.length (g.recs.flatMap rcdL)) :
    Calls Tryd.prog 25 #[.agg (lgL g v1).toArray, .agg (lgL g v2).toArray] w0 fun e w' => e = .returned (.bool true) ∧ Has w0 w' [] := by
  have S := Has.start w0
  obtain ⟨a0, c0, rfl, k1, k2⟩ := Sl.shape h1
  obtain ⟨a1, c1, rfl, k3, k4⟩ := Sl.shape h2
  have p := fun w h1 h2 => sameRecords_s (.slice a0 g.recs.length c0) (.slice a1 g.recs.length c1) g.recs w h1 h2
  have q0 := lgL_0 g (.slice a0 g.recs.length c0)
  have q33 := lgL_33 g (.slice a0 g.recs.length c0)
  have qk := lgL_link g (.slice a0 g.recs.length c0)
  have r0 := lgL_0 g (.slice a1 g.recs.length c1)
  have r33 := lgL_33 g (.slice a1 g.recs.length c1)
  have rk := lgL_link g (.slice a1 g.recs.length c1)
  have he := fun w' => eql32 g.link g.link g.len g.len w'
  simp only [decide_true] at he
  have eg : Tryd.prog.eqGuardType Tryd.prog.depth 22 = false := by kernel_rfl
  have hgl := g.len
  have i0 : ((g.cnt.toNat : Int) == (g.cnt.toNat : Int)) = true := by simp
  have H1 := Lib.hid h1; have H2 := Lib.hid h2; have P := Lib.hid p; have Q0 := Lib.hid q0; have Q33 := Lib.hid q33; have QK := Lib.hid qk; have R0 := Lib.hid r0; have R33 := Lib.hid r33; have RK := Lib.hid rk; have HGL := Lib.hid hgl; clear h1 h2 p q0 q33 qk r0 r33 rk hgl
  go_enter Tryd.func25, Tryd.ntmps25
  go_wp2_with (first | ((with_reducible refine iD 2 (.box 40 (.tmp 0)) ?_); refine step_boxA (dst := some 2) S 40 (.tmp 0) _ rfl gw ?_; clear S; intro g2 w S) | ((with_reducible refine iD 3 (.box 40 (.tmp 1)) ?_); refine step_boxA (dst := some 3) S 40 (.tmp 1) _ rfl gw ?_; clear S; intro g3 w S) | ((with_reducible refine iO _ (.load 38 _) ?_); refine step_load1 38 _ _ _ rfl (cL) _ Tryd.underlying38 rfl gw ?_) | ((with_reducible refine iO _ (.load 22 _) ?_); first | (refine step_loadR 22 _ _ _ rfl _ (S.old_range hy) _ Tryd.underlying22 rfl 32 kR lN _ rfl gw ?_) | (refine step_loadP S 22 _ _ _ rfl _ _ _ pk 32 _ pT lN _ Tryd.underlying22 rfl kR gw ?_)) | ((with_reducible refine iO _ (.load 31 _) ?_); refine step_load1 31 _ _ _ rfl (cL) _ Tryd.underlying31 rfl gw ?_) | (go_at_call 28; (with_reducible refine (P.out _ (S.old H1.out) (S.old H2.out)).mono ?_); rintro e w1 ⟨rfl, T⟩; replace S := S.call T; clear T; (try simp only [z4, z5] at S)) | fail)
  go_ret
  exact ⟨rfl, S.nil⟩

set_option maxRecDepth 100000 in
set_option maxHeartbeats 4000000 in
theorem twinLog_s (g : Lg) (rv : Value) (w0 : World) (hr : Sl w0 35 rv g.recs.length (g.recs.flatMap rcdL)) (hl : g.recs.length * 56 ≤ 140737488355328) :
    Calls Tryd.prog 20 #[.agg (lgL g rv).toArray] w0 fun e w' => ∃ v, e = .returned (.agg (lgL g v).toArray) ∧ Has w0 w' [rowRc v g.recs] := by
  have S := (Has.start w0).nilRc
  obtain ⟨a0, c0, rfl, k1, k2⟩ := Sl.shape hr
  have q33 := lgL_33 g (.slice a0 g.recs.length c0)
  have hle : (([] : List Rcd).length + g.recs.length) * 56 ≤ 140737488355328 := by simpa using hl
  have HR := Lib.hid hr; have HLE := Lib.hid hle; have Q33 := Lib.hid q33; clear hr hle q33
  clear hl
  go_enter Tryd.func20, Tryd.ntmps20
  go_wp2_with (first | (at_builtin; refine step_appendRc S _ (.tmp 4) (.slice none 0 0) [] rfl pk _ g.recs rfl (S.old HR.out) HLE.out gw ?_; clear S; intro v5 w S; simp only [List.nil_append] at S) | ((with_reducible refine iO none (.store 31 (.tmp 6) (.tmp 5)) ?_); refine step_store1 S 31 (.tmp 6) (.tmp 5) g1 33 v5 rfl rfl _ _ pk kR (one_sl (S.sl (v := v5) pk)).2 (one_sl (S.sl (v := v5) pk)).1 (by rw [lgL_size]; decide) gw ?_; clear S; intro w S; rw [lgL_set33] at S; have O5 := Lib.hid (one_sl (S.sl (v := v5) pk)).1) | ((with_reducible refine iO none (.store 40 (.tmp 2) (.tmp 7)) ?_); refine step_store S 40 (.tmp 2) (.tmp 7) g2 _ rfl rfl _ _ pk 34 kR (lgL_size _ _) (lgL_size _ _) (lgL_one _ _ O5.out) gw ?_; clear S; intro w S) | ((with_reducible refine iD 1 (.box 40 (.tmp 0)) ?_); refine step_boxA (dst := some 1) S 40 (.tmp 0) _ rfl rfl ?_; clear S; intro g1 w S) | ((with_reducible refine iD 2 (.alloc 40) ?_); refine step_alloc (dst := some 2) S 40 (.agg ((lgL lgZ (.slice none 0 0)).toArray)) ((lgL lgZ (.slice none 0 0)).toArray) kR rfl rfl ?_; clear S; intro g2 w S) | ((with_reducible refine iO _ (.load 31 _) ?_); refine step_load1 31 _ _ _ rfl (cL) _ Tryd.underlying31 rfl rfl ?_) | ((with_reducible refine iO none (.store 31 (.tmp 6) (.tmp 5)) ?_); first | (refine step_store1 S 31 (.tmp 6) (.tmp 5) _ _ (.slice _ _ _) rfl rfl _ _ pk kR rfl rfl lN rfl ?_; clear S; intro w S; try simp only [List.setIfInBounds_toArray, List.set_cons_zero, List.set_cons_succ] at S) | (refine step_storeR S 31 (.tmp 6) (.tmp 5) _ _ (.slice _ _ _) rfl rfl _ _ _ _ pk lE kR rfl rfl rfl ?_; clear S; intro w S) | (refine step_storeS S 31 (.tmp 6) (.tmp 5) _ _ (.slice _ _ _) rfl rfl _ _ _ _ _ pk lE kR rfl rfl rfl ?_; clear S; intro w S)) | ((with_reducible refine iO _ (.load 40 _) ?_); first | (refine step_load S 40 _ _ rfl _ _ _ pk _ Tryd.underlying40 rfl 34 kR lN rfl ?_) | (refine step_loadO 40 _ _ rfl _ _ _ (S.old_heap (Hid.out (by assumption))) _ Tryd.underlying40 rfl 34 kR lN rfl ?_) | (refine step_loadR 40 _ _ _ rfl _ (S.old_range hy) _ Tryd.underlying40 rfl 34 kR lN _ rfl rfl ?_)) | ((with_reducible refine iO none (.store 40 (.tmp 2) (.tmp 7)) ?_); refine step_store S 40 (.tmp 2) (.tmp 7) _ _ rfl rfl _ _ pk 34 kR lN lN on1 rfl ?_; clear S; intro w S) | fail)
  refine ret_row rfl g2 40 _ (S.get pk) _ Tryd.underlying40 34 kR lN rfl rfl rfl ?_
  exact ⟨_, rfl, S.sub (by repeat (first | exact Sub.nil _ | refine Sub.cons pk ?_))⟩
end Go.Proofs.YtfhkmmagpnojmaaDoor
