/- The program's CheckLog: logs whose records are good. No condition. -/
import Derived.Test.YtfhkmmagpnojmaaDoorZBd
import Derived.Test.YtfhkmmagpnojmaaDoorZLgC
set_option linter.unusedSimpArgs false
set_option linter.unusedVariables false
namespace Go.Proofs.YtfhkmmagpnojmaaDoor
open Go.RowKit

set_option maxRecDepth 100000 in
set_option maxHeartbeats 8000000 in
/-- The count is wrong. -/
theorem checkLog_mis (g : Lg) (rv : Value) (w0 : World) (hr : Sl w0 35 rv g.recs.length (g.recs.flatMap rcdL)) (hb : g.recs.length ≠ min g.cnt.toNat 32) :
    Calls Tryd.prog 23 #[.agg (lgL g rv).toArray] w0 fun e w' => e = .returned (.int .i64 8) ∧ Has w0 w' [] := by
  have S := Has.start w0
  obtain ⟨a0, c0, rfl, k1, k2⟩ := Sl.shape hr
  unfold maxLen at k2
  have q0 := lgL_0 g (.slice a0 g.recs.length c0)
  have q33 := lgL_33 g (.slice a0 g.recs.length c0)
  have hc := g.cnt.toNat_lt
  obtain ⟨n, hn⟩ : ∃ n, n = g.recs.length := ⟨_, rfl⟩
  obtain ⟨C, hC⟩ : ∃ C, C = g.cnt.toNat := ⟨_, rfl⟩
  rw [← hn] at hr q0 q33 k1 hb ⊢
  rw [← hC] at hc q0 hb
  clear hn hC
  have hw : (n : Int) % 18446744073709551616 = (n : Int) := by omega
  by_cases h32 : (C : Int) ≤ 32
  · have i1 : ((n : Int) == (C : Int)) = false := beq_false_of_ne (by omega)
    have HR := Lib.hid hr; have HC := Lib.hid hc; have Q0 := Lib.hid q0; have Q33 := Lib.hid q33; clear hr hc q0 q33
    go_enter Tryd.func23, Tryd.ntmps23
    go_wp2_with (first | ((with_reducible refine iD 1 (.box 40 (.tmp 0)) ?_); refine step_boxA (dst := some 1) S 40 (.tmp 0) _ rfl gw ?_; clear S; intro g1 w S) | ((with_reducible refine iO _ (.load 31 _) ?_); refine step_load1 31 _ _ _ rfl (cL) _ Tryd.underlying31 rfl gw ?_) | ((with_reducible refine iO _ (.load 38 _) ?_); refine step_load1 38 _ _ _ rfl (cL) _ Tryd.underlying38 rfl gw ?_) | ((with_reducible refine iD 4 (.alloc 22) ?_); refine step_alloc (dst := some 4) S 22 (.agg (arr8 (List.replicate 32 0))) (arr8 (List.replicate 32 0)) kR rfl gw ?_; clear S; intro g4 w S) | ((with_reducible refine iO _ (.load 22 _) ?_); first | (refine step_loadR 22 _ _ _ rfl _ (S.old_range hy) _ Tryd.underlying22 rfl 32 kR lN _ rfl gw ?_) | (refine step_loadP S 22 _ _ _ rfl _ _ _ pk 32 _ pT lN _ Tryd.underlying22 rfl kR gw ?_)) | ((with_reducible refine iO none (.store 22 (.tmp 4) (.tmp 30)) ?_); refine step_store S 22 (.tmp 4) (.tmp 30) _ _ rfl rfl _ _ pk 32 kR lN lN on1 gw ?_; clear S; intro w S) | ((with_reducible refine iO _ (.load 22 _) ?_); first | (refine step_load S 22 _ _ rfl _ _ _ pk _ Tryd.underlying22 rfl 32 kR lN gw ?_) | (refine step_loadO 22 _ _ rfl _ _ _ (S.old_heap (Hid.out (by assumption))) _ Tryd.underlying22 rfl 32 kR lN gw ?_) | (refine step_loadR 22 _ _ _ rfl _ (S.old_range hy) _ Tryd.underlying22 rfl 32 kR lN _ rfl gw ?_)) | fail)
    all_goals first
      | (go_ret; exact ⟨rfl, S.nil⟩)
      | (exfalso; omega)
  · have hwC : IntKind.u64.wrap (C : Int) = (C : Int) := by rw [IntKind.wrap_u64]; omega
    have i1 : ((n : Int) == (32 : Int)) = false := beq_false_of_ne (by omega)
    have HR := Lib.hid hr; have HC := Lib.hid hc; have Q0 := Lib.hid q0; have Q33 := Lib.hid q33; clear hr hc q0 q33
    go_enter Tryd.func23, Tryd.ntmps23
    go_wp2_with (first | ((with_reducible refine iD 1 (.box 40 (.tmp 0)) ?_); refine step_boxA (dst := some 1) S 40 (.tmp 0) _ rfl gw ?_; clear S; intro g1 w S) | ((with_reducible refine iO _ (.load 31 _) ?_); refine step_load1 31 _ _ _ rfl (cL) _ Tryd.underlying31 rfl gw ?_) | ((with_reducible refine iO _ (.load 38 _) ?_); refine step_load1 38 _ _ _ rfl (cL) _ Tryd.underlying38 rfl gw ?_) | ((with_reducible refine iD 4 (.alloc 22) ?_); refine step_alloc (dst := some 4) S 22 (.agg (arr8 (List.replicate 32 0))) (arr8 (List.replicate 32 0)) kR rfl gw ?_; clear S; intro g4 w S) | ((with_reducible refine iO _ (.load 22 _) ?_); first | (refine step_loadR 22 _ _ _ rfl _ (S.old_range hy) _ Tryd.underlying22 rfl 32 kR lN _ rfl gw ?_) | (refine step_loadP S 22 _ _ _ rfl _ _ _ pk 32 _ pT lN _ Tryd.underlying22 rfl kR gw ?_)) | ((with_reducible refine iO none (.store 22 (.tmp 4) (.tmp 30)) ?_); refine step_store S 22 (.tmp 4) (.tmp 30) _ _ rfl rfl _ _ pk 32 kR lN lN on1 gw ?_; clear S; intro w S) | ((with_reducible refine iO _ (.load 22 _) ?_); first | (refine step_load S 22 _ _ rfl _ _ _ pk _ Tryd.underlying22 rfl 32 kR lN gw ?_) | (refine step_loadO 22 _ _ rfl _ _ _ (S.old_heap (Hid.out (by assumption))) _ Tryd.underlying22 rfl 32 kR lN gw ?_) | (refine step_loadR 22 _ _ _ rfl _ (S.old_range hy) _ Tryd.underlying22 rfl 32 kR lN _ rfl gw ?_)) | fail)
    all_goals first
      | (go_ret; exact ⟨rfl, S.nil⟩)
      | (exfalso; omega)
set_option maxRecDepth 100000 in
set_option maxHeartbeats 8000000 in
/-- No records, and a count of none. -/
theorem checkLog_nil (g : Lg) (rv : Value) (w0 : World) (hr : Sl w0 35 rv g.recs.length (g.recs.flatMap rcdL)) (h0 : g.recs = []) (hc0 : g.cnt.toNat = 0) :
    Calls Tryd.prog 23 #[.agg (lgL g rv).toArray] w0 fun e w' => e = .returned (.int .i64 (if g.link = zs32 then 0 else 8)) ∧ Has w0 w' [] := by
  have S := Has.start w0
  obtain ⟨a0, c0, rfl, k1, k2⟩ := Sl.shape hr
  unfold maxLen at k2
  have pch := fun i w h => chainV_s i (.slice a0 g.recs.length c0) g.recs w h
  rw [show chV g.recs = true by rw [h0]; rfl] at pch
  have hbc := build_ch
  have q0 := lgL_0 g (.slice a0 g.recs.length c0)
  have q33 := lgL_33 g (.slice a0 g.recs.length c0)
  have qk := lgL_link g (.slice a0 g.recs.length c0)
  have hn : g.recs.length = 0 := by rw [h0]; rfl
  rw [hn] at hr pch q0 q33 qk k1 ⊢
  rw [hc0] at q0
  have he := fun w' => neq32 g.link zs32 g.len rfl w'
  have eg : Tryd.prog.eqGuardType Tryd.prog.depth 22 = false := by kernel_rfl
  have hgl := g.len
  by_cases hd : g.link = zs32
  · rw [if_pos hd]
    rw [decide_eq_false (by simpa using hd)] at he
    clear hn h0 hc0
    have HR := Lib.hid hr; have PCH := Lib.hid pch; have Q0 := Lib.hid q0; have Q33 := Lib.hid q33; have QK := Lib.hid qk; have HD := Lib.hid hd; have HGL := Lib.hid hgl; clear hr pch q0 q33 qk hd hgl
    go_enter Tryd.func23, Tryd.ntmps23
    go_wp2_with (first | ((with_reducible refine iD 33 (.load 22 (.tmp 4)) ?_); refine step_load S 22 (.tmp 4) g4 rfl _ (arr8 zs32) _ pk _ Tryd.underlying22 rfl 32 kR rfl gw ?_) | ((with_reducible refine iD 1 (.box 40 (.tmp 0)) ?_); refine step_boxA (dst := some 1) S 40 (.tmp 0) _ rfl gw ?_; clear S; intro g1 w S) | ((with_reducible refine iO _ (.load 31 _) ?_); refine step_load1 31 _ _ _ rfl (cL) _ Tryd.underlying31 rfl gw ?_) | ((with_reducible refine iO _ (.load 38 _) ?_); refine step_load1 38 _ _ _ rfl (cL) _ Tryd.underlying38 rfl gw ?_) | (go_at_call 50; (with_reducible refine (PCH.out _ _ (S.old HR.out)).mono ?_); rintro e w1 ⟨rfl, T⟩; replace S := S.call T; clear T; (try simp only [z4, z5] at S)) | ((with_reducible refine iD 4 (.alloc 22) ?_); refine step_alloc (dst := some 4) S 22 (.agg (arr8 (List.replicate 32 0))) (arr8 (List.replicate 32 0)) kR rfl gw ?_; clear S; intro g4 w S) | ((with_reducible refine iO _ (.load 22 _) ?_); first | (refine step_loadR 22 _ _ _ rfl _ (S.old_range hy) _ Tryd.underlying22 rfl 32 kR lN _ rfl gw ?_) | (refine step_loadP S 22 _ _ _ rfl _ _ _ pk 32 _ pT lN _ Tryd.underlying22 rfl kR gw ?_)) | ((with_reducible refine iO none (.store 22 (.tmp 4) (.tmp 30)) ?_); refine step_store S 22 (.tmp 4) (.tmp 30) _ _ rfl rfl _ _ pk 32 kR lN lN on1 gw ?_; clear S; intro w S) | ((with_reducible refine iO _ (.load 22 _) ?_); first | (refine step_load S 22 _ _ rfl _ _ _ pk _ Tryd.underlying22 rfl 32 kR lN gw ?_) | (refine step_loadO 22 _ _ rfl _ _ _ (S.old_heap (Hid.out (by assumption))) _ Tryd.underlying22 rfl 32 kR lN gw ?_) | (refine step_loadR 22 _ _ _ rfl _ (S.old_range hy) _ Tryd.underlying22 rfl 32 kR lN _ rfl gw ?_)) | fail)
    go_ret
    exact ⟨rfl, S.nil⟩
  · rw [if_neg hd]
    rw [show decide (g.link ≠ zs32) = true by simp only [decide_eq_true_eq]; exact hd] at he
    clear hn h0 hc0
    have HR := Lib.hid hr; have PCH := Lib.hid pch; have Q0 := Lib.hid q0; have Q33 := Lib.hid q33; have QK := Lib.hid qk; have HD := Lib.hid hd; have HGL := Lib.hid hgl; clear hr pch q0 q33 qk hd hgl
    go_enter Tryd.func23, Tryd.ntmps23
    go_wp2_with (first | ((with_reducible refine iD 33 (.load 22 (.tmp 4)) ?_); refine step_load S 22 (.tmp 4) g4 rfl _ (arr8 zs32) _ pk _ Tryd.underlying22 rfl 32 kR rfl gw ?_) | ((with_reducible refine iD 1 (.box 40 (.tmp 0)) ?_); refine step_boxA (dst := some 1) S 40 (.tmp 0) _ rfl gw ?_; clear S; intro g1 w S) | ((with_reducible refine iO _ (.load 31 _) ?_); refine step_load1 31 _ _ _ rfl (cL) _ Tryd.underlying31 rfl gw ?_) | ((with_reducible refine iO _ (.load 38 _) ?_); refine step_load1 38 _ _ _ rfl (cL) _ Tryd.underlying38 rfl gw ?_) | (go_at_call 50; (with_reducible refine (PCH.out _ _ (S.old HR.out)).mono ?_); rintro e w1 ⟨rfl, T⟩; replace S := S.call T; clear T; (try simp only [z4, z5] at S)) | ((with_reducible refine iD 4 (.alloc 22) ?_); refine step_alloc (dst := some 4) S 22 (.agg (arr8 (List.replicate 32 0))) (arr8 (List.replicate 32 0)) kR rfl gw ?_; clear S; intro g4 w S) | ((with_reducible refine iO _ (.load 22 _) ?_); first | (refine step_loadR 22 _ _ _ rfl _ (S.old_range hy) _ Tryd.underlying22 rfl 32 kR lN _ rfl gw ?_) | (refine step_loadP S 22 _ _ _ rfl _ _ _ pk 32 _ pT lN _ Tryd.underlying22 rfl kR gw ?_)) | ((with_reducible refine iO none (.store 22 (.tmp 4) (.tmp 30)) ?_); refine step_store S 22 (.tmp 4) (.tmp 30) _ _ rfl rfl _ _ pk 32 kR lN lN on1 gw ?_; clear S; intro w S) | ((with_reducible refine iO _ (.load 22 _) ?_); first | (refine step_load S 22 _ _ rfl _ _ _ pk _ Tryd.underlying22 rfl 32 kR lN gw ?_) | (refine step_loadO 22 _ _ rfl _ _ _ (S.old_heap (Hid.out (by assumption))) _ Tryd.underlying22 rfl 32 kR lN gw ?_) | (refine step_loadR 22 _ _ _ rfl _ (S.old_range hy) _ Tryd.underlying22 rfl 32 kR lN _ rfl gw ?_)) | fail)
    go_ret
    exact ⟨rfl, S.nil⟩
end Go.Proofs.YtfhkmmagpnojmaaDoor
