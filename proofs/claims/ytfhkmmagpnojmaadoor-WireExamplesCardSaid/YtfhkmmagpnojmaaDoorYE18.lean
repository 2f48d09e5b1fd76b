/- Several texts under one header: what the claim needs of LgC, LgD, LgE, LgF, LgG, FrA. No condition but those that each names. -/
import Derived.Test.YtfhkmmagpnojmaaDoorYE1
import Derived.Test.YtfhkmmagpnojmaaDoorYE17
import Derived.Test.YtfhkmmagpnojmaaDoorYE11
import Derived.Test.YtfhkmmagpnojmaaDoorYE5
set_option linter.unusedSimpArgs false
set_option linter.unusedVariables false

/- The program's CheckLog. No condition. -/
namespace Go.Proofs.YtfhkmmagpnojmaaDoor
open Go.RowKit

set_option maxRecDepth 100000 in
set_option maxHeartbeats 8000000 in
/-- A log whose count or whose records are not good. (The rest of the law: under way.) -/
theorem checkLog_bad (g : Lg) (rv : Value) (w0 : World) (hr : Sl w0 35 rv g.recs.length (g.recs.flatMap rcdL)) (hb : chV g.recs = false) :
    Calls Tryd.prog 23 #[.agg (lgL g rv).toArray] w0 fun e w' => e = .returned (.int .i64 8) ∧ Has w0 w' [] := by
  have S := Has.start w0
  obtain ⟨a0, c0, rfl, k1, k2⟩ := Sl.shape hr
  unfold maxLen at k2
  have pch := fun i w h => chainV_s i (.slice a0 g.recs.length c0) g.recs w h
  rw [hb] at pch
  have hbc := build_ch
  have q0 := lgL_0 g (.slice a0 g.recs.length c0)
  have q33 := lgL_33 g (.slice a0 g.recs.length c0)
  have hc := g.cnt.toNat_lt
  obtain ⟨n, hn⟩ : ∃ n, n = g.recs.length := ⟨_, rfl⟩
  obtain ⟨C, hC⟩ : ∃ C, C = g.cnt.toNat := ⟨_, rfl⟩
  rw [← hn] at hr pch q0 q33 k1 ⊢
  rw [← hC] at hc q0
  clear hn hC hb
  have hw : (n : Int) % 18446744073709551616 = (n : Int) := by omega
  by_cases h32 : (C : Int) ≤ 32
  · by_cases hnc : n = C
    · subst hnc
      have HR := Lib.hid hr; have PCH := Lib.hid pch; have HC := Lib.hid hc; have Q0 := Lib.hid q0; have Q33 := Lib.hid q33; clear hr pch hc q0 q33
      go_enter Tryd.func23, Tryd.ntmps23
      go_wp2_with (first | ((with_reducible refine iD 1 (.box 40 (.tmp 0)) ?_); refine step_boxA (dst := some 1) S 40 (.tmp 0) _ rfl gw ?_; clear S; intro g1 w S) | ((with_reducible refine iO _ (.load 31 _) ?_); refine step_load1 31 _ _ _ rfl (cL) _ Tryd.underlying31 rfl gw ?_) | ((with_reducible refine iO _ (.load 38 _) ?_); refine step_load1 38 _ _ _ rfl (cL) _ Tryd.underlying38 rfl gw ?_) | (go_at_call 50; (with_reducible refine (PCH.out _ _ (S.old HR.out)).mono ?_); rintro e w1 ⟨rfl, T⟩; replace S := S.call T; clear T; (try simp only [z4, z5] at S)) | fail)
      go_ret
      exact ⟨rfl, S.nil⟩
    · have i1 : ((n : Int) == (C : Int)) = false := beq_false_of_ne (by omega)
      have HR := Lib.hid hr; have PCH := Lib.hid pch; have HC := Lib.hid hc; have Q0 := Lib.hid q0; have Q33 := Lib.hid q33; have HBC := Lib.hid hbc; clear hr pch hc q0 q33 hbc
      go_enter Tryd.func23, Tryd.ntmps23
      go_wp2_with (first | ((with_reducible refine iD 1 (.box 40 (.tmp 0)) ?_); refine step_boxA (dst := some 1) S 40 (.tmp 0) _ rfl gw ?_; clear S; intro g1 w S) | ((with_reducible refine iO _ (.load 31 _) ?_); refine step_load1 31 _ _ _ rfl (cL) _ Tryd.underlying31 rfl gw ?_) | ((with_reducible refine iO _ (.load 38 _) ?_); refine step_load1 38 _ _ _ rfl (cL) _ Tryd.underlying38 rfl gw ?_) | fail)
      all_goals first
        | (go_ret; exact ⟨rfl, S.nil⟩)
        | (exfalso; omega)
  · have hwC : IntKind.u64.wrap (C : Int) = (C : Int) := by rw [IntKind.wrap_u64]; omega
    by_cases hnc : n = 32
    · subst hnc
      have HR := Lib.hid hr; have PCH := Lib.hid pch; have HC := Lib.hid hc; have Q0 := Lib.hid q0; have Q33 := Lib.hid q33; clear hr pch hc q0 q33
      go_enter Tryd.func23, Tryd.ntmps23
      go_wp2_with (first | ((with_reducible refine iD 1 (.box 40 (.tmp 0)) ?_); refine step_boxA (dst := some 1) S 40 (.tmp 0) _ rfl gw ?_; clear S; intro g1 w S) | ((with_reducible refine iO _ (.load 31 _) ?_); refine step_load1 31 _ _ _ rfl (cL) _ Tryd.underlying31 rfl gw ?_) | ((with_reducible refine iO _ (.load 38 _) ?_); refine step_load1 38 _ _ _ rfl (cL) _ Tryd.underlying38 rfl gw ?_) | (go_at_call 50; (with_reducible refine (PCH.out _ _ (S.old HR.out)).mono ?_); rintro e w1 ⟨rfl, T⟩; replace S := S.call T; clear T; (try simp only [z4, z5] at S)) | fail)
      go_ret
      exact ⟨rfl, S.nil⟩
    · have i1 : ((n : Int) == (32 : Int)) = false := beq_false_of_ne (by omega)
      have HR := Lib.hid hr; have PCH := Lib.hid pch; have HC := Lib.hid hc; have Q0 := Lib.hid q0; have Q33 := Lib.hid q33; have HBC := Lib.hid hbc; clear hr pch hc q0 q33 hbc
      go_enter Tryd.func23, Tryd.ntmps23
      go_wp2_with (first | ((with_reducible refine iD 1 (.box 40 (.tmp 0)) ?_); refine step_boxA (dst := some 1) S 40 (.tmp 0) _ rfl gw ?_; clear S; intro g1 w S) | ((with_reducible refine iO _ (.load 31 _) ?_); refine step_load1 31 _ _ _ rfl (cL) _ Tryd.underlying31 rfl gw ?_) | ((with_reducible refine iO _ (.load 38 _) ?_); refine step_load1 38 _ _ _ rfl (cL) _ Tryd.underlying38 rfl gw ?_) | fail)
      all_goals first
        | (go_ret; exact ⟨rfl, S.nil⟩)
        | (exfalso; omega)
end Go.Proofs.YtfhkmmagpnojmaaDoor

/- The program's CheckLog: logs whose records are good. No condition. -/
namespace Go.Proofs.YtfhkmmagpnojmaaDoor
open Go.RowKit

set_option maxRecDepth 100000 in
set_option maxHeartbeats 8000000 in
/-- The count is wrong. -/
theorem checkLog_mis (g : Lg) (rv : Value) (w0 : World) (hr : Sl w0 35 rv g.recs.length (g.recs.flatMap rcdL)) (hb : g.recs.length ≠ min g.cnt.toNat 32) :
    Calls Tryd.prog 23 #[.agg (lgL g rv).toArray] w0 fun e w' => e = .returned (.int .i64 8) ∧ Has w0 w' [] := by
  have S := Has.start w0
  obtain ⟨a0, c0, rfl, k1, k2⟩ := Sl.shape hr
  unfold maxLen at k2
  have q0 := lgL_0 g (.slice a0 g.recs.length c0)
  have q33 := lgL_33 g (.slice a0 g.recs.length c0)
  have hc := g.cnt.toNat_lt
  obtain ⟨n, hn⟩ : ∃ n, n = g.recs.length := ⟨_, rfl⟩
  obtain ⟨C, hC⟩ : ∃ C, C = g.cnt.toNat := ⟨_, rfl⟩
  rw [← hn] at hr q0 q33 k1 hb ⊢
  rw [← hC] at hc q0 hb
  clear hn hC
  have hw : (n : Int) % 18446744073709551616 = (n : Int) := by omega
  by_cases h32 : (C : Int) ≤ 32
  · have i1 : ((n : Int) == (C : Int)) = false := beq_false_of_ne (by omega)
    have HR := Lib.hid hr; have HC := Lib.hid hc; have Q0 := Lib.hid q0; have Q33 := Lib.hid q33; clear hr hc q0 q33
    go_enter Tryd.func23, Tryd.ntmps23
    go_wp2_with (first | ((with_reducible refine iD 1 (.box 40 (.tmp 0)) ?_); refine step_boxA (dst := some 1) S 40 (.tmp 0) _ rfl gw ?_; clear S; intro g1 w S) | ((with_reducible refine iO _ (.load 31 _) ?_); refine step_load1 31 _ _ _ rfl (cL) _ Tryd.underlying31 rfl gw ?_) | ((with_reducible refine iO _ (.load 38 _) ?_); refine step_load1 38 _ _ _ rfl (cL) _ Tryd.underlying38 rfl gw ?_) | fail)
    all_goals first
      | (go_ret; exact ⟨rfl, S.nil⟩)
      | (exfalso; omega)
  · have hwC : IntKind.u64.wrap (C : Int) = (C : Int) := by rw [IntKind.wrap_u64]; omega
    have i1 : ((n : Int) == (32 : Int)) = false := beq_false_of_ne (by omega)
    have HR := Lib.hid hr; have HC := Lib.hid hc; have Q0 := Lib.hid q0; have Q33 := Lib.hid q33; clear hr hc q0 q33
    go_enter Tryd.func23, Tryd.ntmps23
    go_wp2_with (first | ((with_reducible refine iD 1 (.box 40 (.tmp 0)) ?_); refine step_boxA (dst := some 1) S 40 (.tmp 0) _ rfl gw ?_; clear S; intro g1 w S) | ((with_reducible refine iO _ (.load 31 _) ?_); refine step_load1 31 _ _ _ rfl (cL) _ Tryd.underlying31 rfl gw ?_) | ((with_reducible refine iO _ (.load 38 _) ?_); refine step_load1 38 _ _ _ rfl (cL) _ Tryd.underlying38 rfl gw ?_) | fail)
    all_goals first
      | (go_ret; exact ⟨rfl, S.nil⟩)
      | (exfalso; omega)
set_option maxRecDepth 100000 in
set_option maxHeartbeats 8000000 in
/-- No records, and a count of none. -/
theorem checkLog_nil (g : Lg) (rv : Value) (w0 : World) (hr : Sl w0 35 rv g.recs.length (g.recs.flatMap rcdL)) (h0 : g.recs = []) (hc0 : g.cnt.toNat = 0) :
    Calls Tryd.prog 23 #[.agg (lgL g rv).toArray] w0 fun e w' => e = .returned (.int .i64 (if g.link = zs32 then 0 else 8)) ∧ Has w0 w' [] := by
  have S := Has.start w0
  obtain ⟨a0, c0, rfl, k1, k2⟩ := Sl.shape hr
  unfold maxLen at k2
  have pch := fun i w h => chainV_s i (.slice a0 g.recs.length c0) g.recs w h
  rw [show chV g.recs = true by rw [h0]; rfl] at pch
  have hbc := build_ch
  have q0 := lgL_0 g (.slice a0 g.recs.length c0)
  have q33 := lgL_33 g (.slice a0 g.recs.length c0)
  have qk := lgL_link g (.slice a0 g.recs.length c0)
  have hn : g.recs.length = 0 := by rw [h0]; rfl
  rw [hn] at hr pch q0 q33 qk k1 ⊢
  rw [hc0] at q0
  have he := fun w' => neq32 g.link zs32 g.len rfl w'
  have eg : Tryd.prog.eqGuardType Tryd.prog.depth 22 = false := by kernel_rfl
  have hgl := g.len
  by_cases hd : g.link = zs32
  · rw [if_pos hd]
    rw [decide_eq_false (by simpa using hd)] at he
    clear hn h0 hc0
    have HR := Lib.hid hr; have PCH := Lib.hid pch; have Q0 := Lib.hid q0; have Q33 := Lib.hid q33; have QK := Lib.hid qk; have HD := Lib.hid hd; have HGL := Lib.hid hgl; clear hr pch q0 q33 qk hd hgl
    go_enter Tryd.func23, Tryd.ntmps23
    go_wp2_with (first | ((with_reducible refine iD 33 (.load 22 (.tmp 4)) ?_); refine step_load S 22 (.tmp 4) g4 rfl _ (arr8 zs32) _ pk _ Tryd.underlying22 rfl 32 kR rfl gw ?_) | ((with_reducible refine iD 1 (.box 40 (.tmp 0)) ?_); refine step_boxA (dst := some 1) S 40 (.tmp 0) _ rfl gw ?_; clear S; intro g1 w S) | ((with_reducible refine iO _ (.load 31 _) ?_); refine step_load1 31 _ _ _ rfl (cL) _ Tryd.underlying31 rfl gw ?_) | ((with_reducible refine iO _ (.load 38 _) ?_); refine step_load1 38 _ _ _ rfl (cL) _ Tryd.underlying38 rfl gw ?_) | (go_at_call 50; (with_reducible refine (PCH.out _ _ (S.old HR.out)).mono ?_); rintro e w1 ⟨rfl, T⟩; replace S := S.call T; clear T; (try simp only [z4, z5] at S)) | ((with_reducible refine iD 4 (.alloc 22) ?_); refine step_alloc (dst := some 4) S 22 (.agg (arr8 (List.replicate 32 0))) (arr8 (List.replicate 32 0)) kR rfl gw ?_; clear S; intro g4 w S) | ((with_reducible refine iO _ (.load 22 _) ?_); first | (refine step_loadR 22 _ _ _ rfl _ (S.old_range hy) _ Tryd.underlying22 rfl 32 kR lN _ rfl gw ?_) | (refine step_loadP S 22 _ _ _ rfl _ _ _ pk 32 _ pT lN _ Tryd.underlying22 rfl kR gw ?_)) | fail)
    go_ret
    exact ⟨rfl, S.nil⟩
  · rw [if_neg hd]
    rw [show decide (g.link ≠ zs32) = true by simp only [decide_eq_true_eq]; exact hd] at he
    clear hn h0 hc0
    have HR := Lib.hid hr; have PCH := Lib.hid pch; have Q0 := Lib.hid q0; have Q33 := Lib.hid q33; have QK := Lib.hid qk; have HD := Lib.hid hd; have HGL := Lib.hid hgl; clear hr pch q0 q33 qk hd hgl
    go_enter Tryd.func23, Tryd.ntmps23
    go_wp2_with (first | ((with_reducible refine iD 33 (.load 22 (.tmp 4)) ?_); refine step_load S 22 (.tmp 4) g4 rfl _ (arr8 zs32) _ pk _ Tryd.underlying22 rfl 32 kR rfl gw ?_) | ((with_reducible refine iD 1 (.box 40 (.tmp 0)) ?_); refine step_boxA (dst := some 1) S 40 (.tmp 0) _ rfl gw ?_; clear S; intro g1 w S) | ((with_reducible refine iO _ (.load 31 _) ?_); refine step_load1 31 _ _ _ rfl (cL) _ Tryd.underlying31 rfl gw ?_) | ((with_reducible refine iO _ (.load 38 _) ?_); refine step_load1 38 _ _ _ rfl (cL) _ Tryd.underlying38 rfl gw ?_) | (go_at_call 50; (with_reducible refine (PCH.out _ _ (S.old HR.out)).mono ?_); rintro e w1 ⟨rfl, T⟩; replace S := S.call T; clear T; (try simp only [z4, z5] at S)) | ((with_reducible refine iD 4 (.alloc 22) ?_); refine step_alloc (dst := some 4) S 22 (.agg (arr8 (List.replicate 32 0))) (arr8 (List.replicate 32 0)) kR rfl gw ?_; clear S; intro g4 w S) | ((with_reducible refine iO _ (.load 22 _) ?_); first | (refine step_loadR 22 _ _ _ rfl _ (S.old_range hy) _ Tryd.underlying22 rfl 32 kR lN _ rfl gw ?_) | (refine step_loadP S 22 _ _ _ rfl _ _ _ pk 32 _ pT lN _ Tryd.underlying22 rfl kR gw ?_)) | fail)
    go_ret
    exact ⟨rfl, S.nil⟩
end Go.Proofs.YtfhkmmagpnojmaaDoor

/- The program's CheckLog: a log with records. No condition. -/
namespace Go.Proofs.YtfhkmmagpnojmaaDoor
open Go.RowKit

set_option maxRecDepth 100000 in
set_option maxHeartbeats 8000000 in
theorem checkLog_cons (g : Lg) (m : Nat) (x : Rcd) (rv : Value) (w0 : World) (hr : Sl w0 35 rv g.recs.length (g.recs.flatMap rcdL)) (hn : g.recs.length = m + 1) (hx : g.recs[m]? = some x) (hb : chV g.recs = true) (hc0 : g.cnt.toNat = m + 1) (hm : m < 32) :
    Calls Tryd.prog 23 #[.agg (lgL g rv).toArray] w0 fun e w' => e = .returned (.int .i64 (if g.link = x.link then 0 else 8)) ∧ Has w0 w' [] := by
  have S := Has.start w0
  obtain ⟨a0, c0, rfl, k1, k2⟩ := Sl.shape hr
  unfold maxLen at k2
  obtain ⟨b, off, rfl, hcell⟩ := hr.atA (by omega)
  have hrg := hr.elem rcdL_length (by decide) m x hx
  have hrl : w0.rangeAt b (off + m * 35 + 3) (x.link.map by8) := fun j v hj => by
    have := hrg (j + 3) v hj
    rw [show off + m * 35 + 3 + j = off + m * 35 + (j + 3) by omega]
    exact this
  have hll : (x.link.map by8).length = 32 := by rw [List.length_map]; exact x.len
  have pch := fun i w h => chainV_s i (.slice (some ⟨b, off, none⟩) g.recs.length c0) g.recs w h
  rw [hb] at pch
  have hbc := build_ch
  have q0 := lgL_0 g (.slice (some ⟨b, off, none⟩) g.recs.length c0)
  have q33 := lgL_33 g (.slice (some ⟨b, off, none⟩) g.recs.length c0)
  have qk := lgL_link g (.slice (some ⟨b, off, none⟩) g.recs.length c0)
  rw [hn] at hr pch q0 q33 qk k1 ⊢
  rw [hc0] at q0
  have he := fun w' => neq32 g.link x.link g.len x.len w'
  have eg : Tryd.prog.eqGuardType Tryd.prog.depth 22 = false := by kernel_rfl
  have hgl := g.len
  have hxl := x.len
  have hm2 : (m : Int) < 32 := by omega
  clear hcell hrg hb hn hc0 hx
  by_cases hd : g.link = x.link
  · rw [if_pos hd]
    rw [decide_eq_false (by simpa using hd)] at he
    have HR := Lib.hid hr; have PCH := Lib.hid pch; have Q0 := Lib.hid q0; have Q33 := Lib.hid q33; have QK := Lib.hid qk; have HD := Lib.hid hd; have HGL := Lib.hid hgl; have HXL := Lib.hid hxl; have HRL := Lib.hid hrl; have HLL := Lib.hid hll; clear hr pch q0 q33 qk hd hgl hxl hrl hll
    go_enter Tryd.func23, Tryd.ntmps23
    go_wp2_with (first | ((with_reducible refine iD 1 (.box 40 (.tmp 0)) ?_); refine step_boxA (dst := some 1) S 40 (.tmp 0) _ rfl gw ?_; clear S; intro g1 w S) | ((with_reducible refine iO _ (.load 31 _) ?_); refine step_load1 31 _ _ _ rfl (cL) _ Tryd.underlying31 rfl gw ?_) | ((with_reducible refine iO _ (.load 38 _) ?_); refine step_load1 38 _ _ _ rfl (cL) _ Tryd.underlying38 rfl gw ?_) | (go_at_call 50; (with_reducible refine (PCH.out _ _ (S.old HR.out)).mono ?_); rintro e w1 ⟨rfl, T⟩; replace S := S.call T; clear T; (try simp only [z4, z5] at S)) | ((with_reducible refine iD 4 (.alloc 22) ?_); refine step_alloc (dst := some 4) S 22 (.agg (arr8 (List.replicate 32 0))) (arr8 (List.replicate 32 0)) kR rfl gw ?_; clear S; intro g4 w S) | ((with_reducible refine iO _ (.load 22 _) ?_); first | (refine step_loadR 22 _ _ _ rfl _ (S.old_range hy) _ Tryd.underlying22 rfl 32 kR lN _ rfl gw ?_) | (refine step_loadP S 22 _ _ _ rfl _ _ _ pk 32 _ pT lN _ Tryd.underlying22 rfl kR gw ?_)) | ((with_reducible refine iO none (.store 22 (.tmp 4) (.tmp 30)) ?_); refine step_store S 22 (.tmp 4) (.tmp 30) _ _ rfl rfl _ _ pk 32 kR lN lN on1 gw ?_; clear S; intro w S) | fail)
    go_ret
    exact ⟨rfl, S.nil⟩
  · rw [if_neg hd]
    rw [show decide (g.link ≠ x.link) = true by simp only [decide_eq_true_eq]; exact hd] at he
    have HR := Lib.hid hr; have PCH := Lib.hid pch; have Q0 := Lib.hid q0; have Q33 := Lib.hid q33; have QK := Lib.hid qk; have HD := Lib.hid hd; have HGL := Lib.hid hgl; have HXL := Lib.hid hxl; have HRL := Lib.hid hrl; have HLL := Lib.hid hll; clear hr pch q0 q33 qk hd hgl hxl hrl hll
    go_enter Tryd.func23, Tryd.ntmps23
    go_wp2_with (first | ((with_reducible refine iD 1 (.box 40 (.tmp 0)) ?_); refine step_boxA (dst := some 1) S 40 (.tmp 0) _ rfl gw ?_; clear S; intro g1 w S) | ((with_reducible refine iO _ (.load 31 _) ?_); refine step_load1 31 _ _ _ rfl (cL) _ Tryd.underlying31 rfl gw ?_) | ((with_reducible refine iO _ (.load 38 _) ?_); refine step_load1 38 _ _ _ rfl (cL) _ Tryd.underlying38 rfl gw ?_) | (go_at_call 50; (with_reducible refine (PCH.out _ _ (S.old HR.out)).mono ?_); rintro e w1 ⟨rfl, T⟩; replace S := S.call T; clear T; (try simp only [z4, z5] at S)) | ((with_reducible refine iD 4 (.alloc 22) ?_); refine step_alloc (dst := some 4) S 22 (.agg (arr8 (List.replicate 32 0))) (arr8 (List.replicate 32 0)) kR rfl gw ?_; clear S; intro g4 w S) | ((with_reducible refine iO _ (.load 22 _) ?_); first | (refine step_loadR 22 _ _ _ rfl _ (S.old_range hy) _ Tryd.underlying22 rfl 32 kR lN _ rfl gw ?_) | (refine step_loadP S 22 _ _ _ rfl _ _ _ pk 32 _ pT lN _ Tryd.underlying22 rfl kR gw ?_)) | ((with_reducible refine iO none (.store 22 (.tmp 4) (.tmp 30)) ?_); refine step_store S 22 (.tmp 4) (.tmp 30) _ _ rfl rfl _ _ pk 32 kR lN lN on1 gw ?_; clear S; intro w S) | fail)
    go_ret
    exact ⟨rfl, S.nil⟩
end Go.Proofs.YtfhkmmagpnojmaaDoor

/- The program's CheckLog: a log with all its records kept, and every log. No condition. -/
namespace Go.Proofs.YtfhkmmagpnojmaaDoor
open Go.RowKit

set_option maxRecDepth 100000 in
set_option maxHeartbeats 8000000 in
theorem checkLog_full (g : Lg) (m : Nat) (x : Rcd) (rv : Value) (w0 : World) (hr : Sl w0 35 rv g.recs.length (g.recs.flatMap rcdL)) (hn : g.recs.length = m + 1) (hx : g.recs[m]? = some x) (hb : chV g.recs = true) (hm : m = 31) (hC2 : 32 < g.cnt.toNat) :
    Calls Tryd.prog 23 #[.agg (lgL g rv).toArray] w0 fun e w' => e = .returned (.int .i64 (if g.link = x.link then 0 else 8)) ∧ Has w0 w' [] := by
  subst hm
  have S := Has.start w0
  obtain ⟨a0, c0, rfl, k1, k2⟩ := Sl.shape hr
  unfold maxLen at k2
  obtain ⟨b, off, rfl, hcell⟩ := hr.atA (by omega)
  have hrg := hr.elem rcdL_length (by decide) 31 x hx
  have hrl : w0.rangeAt b (off + 1088) (x.link.map by8) := fun j v hj => by
    have := hrg (j + 3) v hj
    rw [show off + 1088 + j = off + 31 * 35 + (j + 3) by omega]
    exact this
  have hll : (x.link.map by8).length = 32 := by rw [List.length_map]; exact x.len
  have pch := fun i w h => chainV_s i (.slice (some ⟨b, off, none⟩) g.recs.length c0) g.recs w h
  rw [hb] at pch
  have hbc := build_ch
  have q0 := lgL_0 g (.slice (some ⟨b, off, none⟩) g.recs.length c0)
  have q33 := lgL_33 g (.slice (some ⟨b, off, none⟩) g.recs.length c0)
  have qk := lgL_link g (.slice (some ⟨b, off, none⟩) g.recs.length c0)
  rw [hn] at hr pch q0 q33 qk k1 ⊢
  obtain ⟨C, hC⟩ : ∃ C, C = g.cnt.toNat := ⟨_, rfl⟩
  have hc := g.cnt.toNat_lt
  rw [← hC] at q0 hc hC2
  have h32 : ¬ (C : Int) ≤ 32 := by omega
  have hwC : IntKind.u64.wrap (C : Int) = (C : Int) := by rw [IntKind.wrap_u64]; omega
  have he := fun w' => neq32 g.link x.link g.len x.len w'
  have eg : Tryd.prog.eqGuardType Tryd.prog.depth 22 = false := by kernel_rfl
  have hgl := g.len
  have hxl := x.len
  clear hcell hrg hb hn hx hC hC2
  by_cases hd : g.link = x.link
  · rw [if_pos hd]
    rw [decide_eq_false (by simpa using hd)] at he
    have HR := Lib.hid hr; have PCH := Lib.hid pch; have Q0 := Lib.hid q0; have Q33 := Lib.hid q33; have QK := Lib.hid qk; have HD := Lib.hid hd; have HGL := Lib.hid hgl; have HXL := Lib.hid hxl; have HRL := Lib.hid hrl; have HLL := Lib.hid hll; have HC := Lib.hid hc; clear hr pch q0 q33 qk hd hgl hxl hrl hll hc
    go_enter Tryd.func23, Tryd.ntmps23
    go_wp2_with (first | ((with_reducible refine iD 1 (.box 40 (.tmp 0)) ?_); refine step_boxA (dst := some 1) S 40 (.tmp 0) _ rfl gw ?_; clear S; intro g1 w S) | ((with_reducible refine iO _ (.load 31 _) ?_); refine step_load1 31 _ _ _ rfl (cL) _ Tryd.underlying31 rfl gw ?_) | ((with_reducible refine iO _ (.load 38 _) ?_); refine step_load1 38 _ _ _ rfl (cL) _ Tryd.underlying38 rfl gw ?_) | (go_at_call 50; (with_reducible refine (PCH.out _ _ (S.old HR.out)).mono ?_); rintro e w1 ⟨rfl, T⟩; replace S := S.call T; clear T; (try simp only [z4, z5] at S)) | ((with_reducible refine iD 4 (.alloc 22) ?_); refine step_alloc (dst := some 4) S 22 (.agg (arr8 (List.replicate 32 0))) (arr8 (List.replicate 32 0)) kR rfl gw ?_; clear S; intro g4 w S) | ((with_reducible refine iO _ (.load 22 _) ?_); first | (refine step_loadR 22 _ _ _ rfl _ (S.old_range hy) _ Tryd.underlying22 rfl 32 kR lN _ rfl gw ?_) | (refine step_loadP S 22 _ _ _ rfl _ _ _ pk 32 _ pT lN _ Tryd.underlying22 rfl kR gw ?_)) | ((with_reducible refine iO none (.store 22 (.tmp 4) (.tmp 30)) ?_); refine step_store S 22 (.tmp 4) (.tmp 30) _ _ rfl rfl _ _ pk 32 kR lN lN on1 gw ?_; clear S; intro w S) | ((with_reducible refine iO _ (.load 22 _) ?_); first | (refine step_load S 22 _ _ rfl _ _ _ pk _ Tryd.underlying22 rfl 32 kR lN gw ?_) | (refine step_loadO 22 _ _ rfl _ _ _ (S.old_heap (Hid.out (by assumption))) _ Tryd.underlying22 rfl 32 kR lN gw ?_) | (refine step_loadR 22 _ _ _ rfl _ (S.old_range hy) _ Tryd.underlying22 rfl 32 kR lN _ rfl gw ?_)) | fail)
    go_ret
    exact ⟨rfl, S.nil⟩
  · rw [if_neg hd]
    rw [show decide (g.link ≠ x.link) = true by simp only [decide_eq_true_eq]; exact hd] at he
    have HR := Lib.hid hr; have PCH := Lib.hid pch; have Q0 := Lib.hid q0; have Q33 := Lib.hid q33; have QK := Lib.hid qk; have HD := Lib.hid hd; have HGL := Lib.hid hgl; have HXL := Lib.hid hxl; have HRL := Lib.hid hrl; have HLL := Lib.hid hll; have HC := Lib.hid hc; clear hr pch q0 q33 qk hd hgl hxl hrl hll hc
    go_enter Tryd.func23, Tryd.ntmps23
    go_wp2_with (first | ((with_reducible refine iD 1 (.box 40 (.tmp 0)) ?_); refine step_boxA (dst := some 1) S 40 (.tmp 0) _ rfl gw ?_; clear S; intro g1 w S) | ((with_reducible refine iO _ (.load 31 _) ?_); refine step_load1 31 _ _ _ rfl (cL) _ Tryd.underlying31 rfl gw ?_) | ((with_reducible refine iO _ (.load 38 _) ?_); refine step_load1 38 _ _ _ rfl (cL) _ Tryd.underlying38 rfl gw ?_) | (go_at_call 50; (with_reducible refine (PCH.out _ _ (S.old HR.out)).mono ?_); rintro e w1 ⟨rfl, T⟩; replace S := S.call T; clear T; (try simp only [z4, z5] at S)) | ((with_reducible refine iD 4 (.alloc 22) ?_); refine step_alloc (dst := some 4) S 22 (.agg (arr8 (List.replicate 32 0))) (arr8 (List.replicate 32 0)) kR rfl gw ?_; clear S; intro g4 w S) | ((with_reducible refine iO _ (.load 22 _) ?_); first | (refine step_loadR 22 _ _ _ rfl _ (S.old_range hy) _ Tryd.underlying22 rfl 32 kR lN _ rfl gw ?_) | (refine step_loadP S 22 _ _ _ rfl _ _ _ pk 32 _ pT lN _ Tryd.underlying22 rfl kR gw ?_)) | ((with_reducible refine iO none (.store 22 (.tmp 4) (.tmp 30)) ?_); refine step_store S 22 (.tmp 4) (.tmp 30) _ _ rfl rfl _ _ pk 32 kR lN lN on1 gw ?_; clear S; intro w S) | ((with_reducible refine iO _ (.load 22 _) ?_); first | (refine step_load S 22 _ _ rfl _ _ _ pk _ Tryd.underlying22 rfl 32 kR lN gw ?_) | (refine step_loadO 22 _ _ rfl _ _ _ (S.old_heap (Hid.out (by assumption))) _ Tryd.underlying22 rfl 32 kR lN gw ?_) | (refine step_loadR 22 _ _ _ rfl _ (S.old_range hy) _ Tryd.underlying22 rfl 32 kR lN _ rfl gw ?_)) | fail)
    go_ret
    exact ⟨rfl, S.nil⟩
theorem lastK_at (l : List Rcd) (m : Nat) (x : Rcd) (hl : l.length = m + 1) (hx : l[m]? = some x) : lastK l = x.link := by
  unfold lastK
  rw [List.getLast?_eq_getElem?, hl, Nat.add_sub_cancel, hx]
/-- CheckLog of any log. -/
theorem checkLog_s (g : Lg) (rv : Value) (w0 : World) (hr : Sl w0 35 rv g.recs.length (g.recs.flatMap rcdL)) :
    Calls Tryd.prog 23 #[.agg (lgL g rv).toArray] w0 fun e w' => e = .returned (.int .i64 (lgE g)) ∧ Has w0 w' [] := by
  by_cases h1 : g.recs.length = min g.cnt.toNat 32
  · cases hb : chV g.recs with
    | false => rw [show lgE g = 8 by unfold lgE lgV; rw [hb]; simp]; exact checkLog_bad g rv w0 hr hb
    | true =>
      have e : lgE g = if g.link = lastK g.recs then 0 else 8 := by unfold lgE lgV; rw [hb, decide_eq_true h1]; simp
      rw [e]
      rcases Nat.eq_zero_or_pos g.recs.length with h0 | h0
      · have h00 : g.recs = [] := List.eq_nil_of_length_eq_zero h0
        rw [show lastK g.recs = zs32 by rw [h00]; rfl]
        exact checkLog_nil g rv w0 hr h00 (by omega)
      · obtain ⟨m, hm⟩ : ∃ m, g.recs.length = m + 1 := ⟨g.recs.length - 1, by omega⟩
        have hx : g.recs[m]? = some (g.recs[m]'(by omega)) := List.getElem?_eq_getElem _
        rw [lastK_at g.recs m _ hm hx]
        by_cases h2 : g.cnt.toNat ≤ 32
        · exact checkLog_cons g m _ rv w0 hr hm hx hb (by omega) (by omega)
        · exact checkLog_full g m _ rv w0 hr hm hx hb (by omega) (by omega)
  · rw [show lgE g = 8 by unfold lgE lgV; rw [decide_eq_false h1]; simp]
    exact checkLog_mis g rv w0 hr h1
end Go.Proofs.YtfhkmmagpnojmaaDoor

/- The program's Append to a log. No condition but the table of constants and the reach. -/
namespace Go.Proofs.YtfhkmmagpnojmaaDoor
open Go.RowKit

theorem build_lgv (x : Int) (d0 d1 d2 d3 d4 d5 d6 d7 d8 d9 d10 d11 d12 d13 d14 d15 d16 d17 d18 d19 d20 d21 d22 d23 d24 d25 d26 d27 d28 d29 d30 d31 : UInt8) (a : Option Addr) (n c : Nat) (w : World) : (Instr.build 40 #[(0, .int .u32 x), (1, Value.agg ([d0, d1, d2, d3, d4, d5, d6, d7, d8, d9, d10, d11, d12, d13, d14, d15, d16, d17, d18, d19, d20, d21, d22, d23, d24, d25, d26, d27, d28, d29, d30, d31].map by8).toArray), (2, .slice a n c)]).run Tryd.prog w = .ok (.agg (Value.int .u32 x :: ([d0, d1, d2, d3, d4, d5, d6, d7, d8, d9, d10, d11, d12, d13, d14, d15, d16, d17, d18, d19, d20, d21, d22, d23, d24, d25, d26, d27, d28, d29, d30, d31].map by8 ++ [.slice a n c])).toArray) w := by kernel_rfl
theorem build_lg (x : Int) (D : List UInt8) (hD : D.length = 32) (v : Value) (hv : ∃ a n c, v = .slice a n c) (w : World) : (Instr.build 40 #[(0, .int .u32 x), (1, Value.agg (D.map by8).toArray), (2, v)]).run Tryd.prog w = .ok (.agg (Value.int .u32 x :: (D.map by8 ++ [v])).toArray) w := by
  obtain ⟨a, n, c, rfl⟩ := hv
  exact match D, hD with
  | [d0, d1, d2, d3, d4, d5, d6, d7, d8, d9, d10, d11, d12, d13, d14, d15, d16, d17, d18, d19, d20, d21, d22, d23, d24, d25, d26, d27, d28, d29, d30, d31], _ => build_lgv x d0 d1 d2 d3 d4 d5 d6 d7 d8 d9 d10 d11 d12 d13 d14 d15 d16 d17 d18 d19 d20 d21 d22 d23 d24 d25 d26 d27 d28 d29 d30 d31 a n c w
set_option maxRecDepth 100000 in
theorem does_buildLg {a : Act} {w : World} {dst : Option Tmp} {ty : TypeId} {pos : String} {after : Array Edge} {guard : Option (Nat × Bool)} {Post : Value → World → Prop} (x y z : Operand) (g : Lg) (v : Value) (xi : Int) (D : List UInt8)
    (hx : a.eval x = .int .u32 xi) (hxi : xi = (g.cnt.toNat : Int)) (hy : a.eval y = .agg (arr8 D)) (hD : g.link = D) (hz : a.eval z = v) (hv : ∃ a n c, v = .slice a n c)
    (h : Post (.agg (lgL g v).toArray) w) : does Tryd.prog a.eval ⟨dst, .build 40 #[(0, x), (1, y), (2, z)], ty, pos, after, guard⟩ w Post := by
  subst hD
  subst hxi
  refine does_val (v := .agg (lgL g v).toArray) ?_ h
  have hp : (#[(0, x), (1, y), (2, z)].map fun (i, x) => (i, a.eval x)) = #[(0, .int .u32 (g.cnt.toNat : Int)), (1, Value.agg (g.link.map by8).toArray), (2, v)] := by simp [hx, hy, hz, arr8]
  have := build_lg g.cnt.toNat g.link g.len v hv w
  simp only [execOp, hp, Sem.run_bind, this, Result.andThen_ok, Sem.run_pure]
  rfl
/-- What Append needs of a log and a record. -/
structure ApOk (g : Lg) (t : UInt64) (k : UInt8) (c : I64) (b : List UInt8) (G : Lg) (D : List UInt8) (x : Rcd) : Prop where
  c0 : 0 ≤ c.v
  c1 : c.v ≤ 65535
  b64 : b.length ≤ 64
  n : g.recs.length ≤ 32
  eD : D = lnkD g.link t k c b
  eDl : D.length = 32
  cnt : g.cnt.toNat + 1 < 4294967296
  g0 : (g.cnt.toNat : Int) + 1 = (G.cnt.toNat : Int)
  g1 : G.link = D
  g2 : G.recs = keepR g.recs ++ [x]
  x0 : x.tick = t
  x1 : x.kind = k
  x2 : x.code = c
  x3 : x.link = D
theorem apOk (g : Lg) (t : UInt64) (k : UInt8) (c : I64) (b : List UInt8) (hE : apE g t k c b.length = 0) : ∃ D x, ApOk g t k c b (apR g t k c b) D x := by
  have hv : lgV g = true := by
    cases hv : lgV g with
    | true => rfl
    | false => unfold apE at hE; rw [if_pos hv] at hE; cases hE
  have hk0 : lnkE t k c b.length = 0 := by
    unfold apE at hE
    rw [if_neg (by rw [hv]; decide)] at hE
    by_cases h : lnkE t k c b.length = 0
    · exact h
    · rw [if_pos h] at hE; exact hE
  have hc : g.cnt.toNat ≠ 4294967295 := by
    intro hc
    unfold apE at hE
    rw [if_neg (by rw [hv]; decide), if_neg (by rw [hk0]; decide), if_pos hc] at hE
    cases hE
  have hcv : lkV t k c = true ∧ b.length ≤ 64 := by
    cases hl : lkV t k c with
    | false => unfold lnkE at hk0; rw [if_pos hl] at hk0; cases hk0
    | true =>
      refine ⟨rfl, ?_⟩
      unfold lnkE at hk0
      rw [if_neg (by rw [hl]; decide)] at hk0
      by_cases h : 64 < b.length
      · rw [if_pos h] at hk0; cases hk0
      · omega
  have hb : 0 ≤ c.v ∧ c.v ≤ 65535 := by
    have : decide (t.toNat ≤ 4611686018427387904 ∧ k.toNat ≤ 6 ∧ 0 ≤ c.v ∧ c.v ≤ 65535) = true := hcv.1
    exact (of_decide_eq_true this).2.2
  have hcl := g.cnt.toNat_lt
  have hn := (lgV_parts g hv).1
  have hR : apR g t k c b = ⟨g.cnt + 1, lnkD g.link t k c b, keepR g.recs ++ [newR g t k c b], sumD_length _⟩ := by
    unfold apR
    rw [if_pos hE]
  refine ⟨lnkD g.link t k c b, newR g t k c b, hb.1, hb.2, hcv.2, by omega, rfl, sumD_length _, by omega, ?_, by rw [hR], by rw [hR], rfl, rfl, rfl, rfl⟩
  rw [hR]
  show _ = ((g.cnt + 1).toNat : Int)
  rw [UInt32.toNat_add]
  simp only [UInt32.toNat_one]
  omega
abbrev iv (c : I64) : Int := c.v
def MadeLg (w : World) (g : Lg) (E : Int) (e : Ending) (w' : World) : Prop := ∃ v, e = .returned (.tuple #[.agg (lgL g v).toArray, .int .i64 E]) ∧ Has w w' [rowRc v g.recs]
set_option maxRecDepth 100000 in
set_option maxHeartbeats 8000000 in
theorem append_s (g : Lg) (rv : Value) (t : UInt64) (k : UInt8) (c : I64) (bv : Value) (b : List UInt8) (w0 : World) (hr : Sl w0 35 rv g.recs.length (g.recs.flatMap rcdL)) (hb : Bs w0 bv b) (hK : KT w0) (hl : b.length ≤ 140737488351232) :
    Calls Tryd.prog 21 #[.agg (lgL g rv).toArray, .int .u64 (t.toNat : Int), by8 k, .int .i64 c.v, bv] w0 (MadeLg w0 (apR g t k c b) (apE g t k c b.length)) := by
  have S := Has.start w0
  obtain ⟨a0, c0, rfl, k1, k2⟩ := Sl.shape hr
  obtain ⟨a1, c1, rfl, k3, k4⟩ := Sl.shape hb
  unfold maxLen at k2 k4
  have pc := fun w h => checkLog_s g (.slice a0 g.recs.length c0) w h
  have q0 := lgL_0 g (.slice a0 g.recs.length c0)
  have q33 := lgL_33 g (.slice a0 g.recs.length c0)
  have qk := lgL_link g (.slice a0 g.recs.length c0)
  have hgl := g.len
  cases hv : lgV g with
  | false =>
    have hE : apE g t k c b.length = 8 := if_pos hv
    have hR : apR g t k c b = lgZ := if_neg (by rw [hE]; decide)
    rw [hE, hR]
    rw [show lgE g = 8 by unfold lgE; rw [hv]; rfl] at pc
    have PC := Lib.hid pc; have HB := Lib.hid hb; have HR := Lib.hid hr; have HK := Lib.hid hK; have Q0 := Lib.hid q0; have Q33 := Lib.hid q33; have QK := Lib.hid qk; have HGL := Lib.hid hgl; clear pc hb hr hK q0 q33 qk hgl
    clear hE hR hv
    go_enter Tryd.func21, Tryd.ntmps21
    go_wp2_with (first | ((with_reducible refine iD 5 (.box 40 (.tmp 0)) ?_); refine step_boxA (dst := some 5) S 40 (.tmp 0) _ rfl rfl ?_; clear S; intro g5 w S) | ((with_reducible refine iD 10 (.alloc 40) ?_); refine step_alloc (dst := some 10) S 40 (.agg ((lgL lgZ (.slice none 0 0)).toArray)) ((lgL lgZ (.slice none 0 0)).toArray) kR rfl rfl ?_; clear S; intro g10 w S) | ((with_reducible refine iO _ (.load 40 _) ?_); first | (refine step_load S 40 _ _ rfl _ _ _ pk _ Tryd.underlying40 rfl 34 kR lN rfl ?_) | (refine step_loadO 40 _ _ rfl _ _ _ (S.old_heap (Hid.out (by assumption))) _ Tryd.underlying40 rfl 34 kR lN rfl ?_) | (refine step_loadR 40 _ _ _ rfl _ (S.old_range hy) _ Tryd.underlying40 rfl 34 kR lN _ rfl rfl ?_)) | (go_at_call 23; (with_reducible refine (PC.out _ (S.old HR.out)).mono ?_); rintro e w1 ⟨rfl, T⟩; replace S := S.call T; clear T; (try simp only [z4, z5] at S)) | ((with_reducible refine iD 22 (.build 40 _) ?_); refine step_buildZ 40 (.agg ((lgL lgZ (.slice none 0 0)).toArray)) (fun w => by kernel_rfl) rfl ?_) | ((with_reducible refine iO none (.store 40 (.tmp 10) (.tmp 22)) ?_); refine step_store S 40 (.tmp 10) (.tmp 22) _ _ rfl rfl _ _ pk 34 kR lN lN on1 rfl ?_; clear S; intro w S) | fail)
    refine ret_row_tmp rfl g10 40 _ (S.get pk) _ Tryd.underlying40 34 kR lN rfl rfl rfl ?_
    exact ⟨_, rfl, S.nil.nilRc⟩
  | true =>
  obtain ⟨hn, hval, hlast⟩ := lgV_parts g hv
  rw [show lgE g = 0 by unfold lgE; rw [hv]; rfl] at pc
  have pl := fun w h1 h2 => link_s g.link t k c (.slice a1 b.length c1) b w g.len h1 h2 hl
  by_cases hk0 : lnkE t k c b.length = 0
  rotate_left
  · have hE : apE g t k c b.length = lnkE t k c b.length := by unfold apE; rw [if_neg (by rw [hv]; decide), if_pos hk0]
    have hR : apR g t k c b = lgZ := if_neg (by rw [hE]; exact hk0)
    rw [hE, hR]
    obtain ⟨D, hD⟩ : ∃ D, D = lnkR g.link t k c b := ⟨_, rfl⟩
    have hDl : D.length = 32 := by rw [hD]; exact lnkR_length _ _ _ _ _
    obtain ⟨E, hE2⟩ : ∃ D, D = lnkE t k c b.length := ⟨_, rfl⟩
    rw [← hD, ← hE2] at pl
    rw [← hE2] at hk0 ⊢
    have i1 : (E == 0) = false := beq_false_of_ne hk0
    have PC := Lib.hid pc; have PL := Lib.hid pl; have HB := Lib.hid hb; have HR := Lib.hid hr; have HK := Lib.hid hK; have Q0 := Lib.hid q0; have Q33 := Lib.hid q33; have QK := Lib.hid qk; have HDL := Lib.hid hDl; have HGL := Lib.hid hgl; clear pc pl hb hr hK q0 q33 qk hDl hgl
    clear hE hR hv hn hval hlast hD hE2
    go_enter Tryd.func21, Tryd.ntmps21
    go_wp2_with (first | ((with_reducible refine iD 5 (.box 40 (.tmp 0)) ?_); refine step_boxA (dst := some 5) S 40 (.tmp 0) _ rfl rfl ?_; clear S; intro g5 w S) | ((with_reducible refine iD 10 (.alloc 40) ?_); refine step_alloc (dst := some 10) S 40 (.agg ((lgL lgZ (.slice none 0 0)).toArray)) ((lgL lgZ (.slice none 0 0)).toArray) kR rfl rfl ?_; clear S; intro g10 w S) | ((with_reducible refine iO _ (.load 40 _) ?_); first | (refine step_load S 40 _ _ rfl _ _ _ pk _ Tryd.underlying40 rfl 34 kR lN rfl ?_) | (refine step_loadO 40 _ _ rfl _ _ _ (S.old_heap (Hid.out (by assumption))) _ Tryd.underlying40 rfl 34 kR lN rfl ?_) | (refine step_loadR 40 _ _ _ rfl _ (S.old_range hy) _ Tryd.underlying40 rfl 34 kR lN _ rfl rfl ?_)) | (go_at_call 23; (with_reducible refine (PC.out _ (S.old HR.out)).mono ?_); rintro e w1 ⟨rfl, T⟩; replace S := S.call T; clear T; (try simp only [z4, z5] at S)) | ((with_reducible refine iO _ (.load 22 _) ?_); first | (refine step_loadR 22 _ _ _ rfl _ (S.old_range hy) _ Tryd.underlying22 rfl 32 kR lN _ rfl rfl ?_) | (refine step_loadP S 22 _ _ _ rfl _ _ _ pk 32 _ pT lN _ Tryd.underlying22 rfl kR rfl ?_)) | (go_at_call 16; (with_reducible refine (PL.out _ (S.oldB HB.out) kT).mono ?_); rintro e w1 ⟨rfl, T⟩; replace S := S.call T; clear T; (try simp only [z4, z5] at S)) | ((with_reducible refine iD 13 (.alloc 22) ?_); refine step_alloc (dst := some 13) S 22 (.agg (arr8 (List.replicate 32 0))) (arr8 (List.replicate 32 0)) kR rfl rfl ?_; clear S; intro g13 w S) | ((with_reducible refine iO none (.store 22 (.tmp 13) (.tmp 32)) ?_); refine step_store S 22 (.tmp 13) (.tmp 32) _ _ rfl rfl _ _ pk 32 kR lN lN on1 rfl ?_; clear S; intro w S) | ((with_reducible refine iD 36 (.build 40 _) ?_); refine step_buildZ 40 (.agg ((lgL lgZ (.slice none 0 0)).toArray)) (fun w => by kernel_rfl) rfl ?_) | ((with_reducible refine iO none (.store 40 (.tmp 10) (.tmp 36)) ?_); refine step_store S 40 (.tmp 10) (.tmp 36) _ _ rfl rfl _ _ pk 34 kR lN lN on1 rfl ?_; clear S; intro w S) | fail)
    refine ret_row_tmp rfl g10 40 _ (S.get pk) _ Tryd.underlying40 34 kR lN rfl rfl rfl ?_
    exact ⟨_, rfl, S.nil.nilRc⟩
  rw [show lnkR g.link t k c b = lnkD g.link t k c b from if_pos hk0, hk0] at pl
  obtain ⟨D, hD⟩ : ∃ D, D = lnkD g.link t k c b := ⟨_, rfl⟩
  have hDl : D.length = 32 := by rw [hD]; exact sumD_length _
  rw [← hD] at pl
  by_cases hc : g.cnt.toNat = 4294967295
  · have hE : apE g t k c b.length = 9 := by unfold apE; rw [if_neg (by rw [hv]; decide), if_neg (by rw [hk0]; decide), if_pos hc]
    have hR : apR g t k c b = lgZ := if_neg (by rw [hE]; decide)
    rw [hE, hR]
    rw [hc] at q0
    have PC := Lib.hid pc; have PL := Lib.hid pl; have HB := Lib.hid hb; have HR := Lib.hid hr; have HK := Lib.hid hK; have Q0 := Lib.hid q0; have Q33 := Lib.hid q33; have QK := Lib.hid qk; have HDL := Lib.hid hDl; have HGL := Lib.hid hgl; clear pc pl hb hr hK q0 q33 qk hDl hgl
    clear hE hR hv hn hval hlast hD hk0 hc
    go_enter Tryd.func21, Tryd.ntmps21
    go_wp2_with (first | ((with_reducible refine iD 5 (.box 40 (.tmp 0)) ?_); refine step_boxA (dst := some 5) S 40 (.tmp 0) _ rfl rfl ?_; clear S; intro g5 w S) | ((with_reducible refine iD 10 (.alloc 40) ?_); refine step_alloc (dst := some 10) S 40 (.agg ((lgL lgZ (.slice none 0 0)).toArray)) ((lgL lgZ (.slice none 0 0)).toArray) kR rfl rfl ?_; clear S; intro g10 w S) | ((with_reducible refine iO _ (.load 40 _) ?_); first | (refine step_load S 40 _ _ rfl _ _ _ pk _ Tryd.underlying40 rfl 34 kR lN rfl ?_) | (refine step_loadO 40 _ _ rfl _ _ _ (S.old_heap (Hid.out (by assumption))) _ Tryd.underlying40 rfl 34 kR lN rfl ?_) | (refine step_loadR 40 _ _ _ rfl _ (S.old_range hy) _ Tryd.underlying40 rfl 34 kR lN _ rfl rfl ?_)) | (go_at_call 23; (with_reducible refine (PC.out _ (S.old HR.out)).mono ?_); rintro e w1 ⟨rfl, T⟩; replace S := S.call T; clear T; (try simp only [z4, z5] at S)) | ((with_reducible refine iO _ (.load 22 _) ?_); first | (refine step_loadR 22 _ _ _ rfl _ (S.old_range hy) _ Tryd.underlying22 rfl 32 kR lN _ rfl rfl ?_) | (refine step_loadP S 22 _ _ _ rfl _ _ _ pk 32 _ pT lN _ Tryd.underlying22 rfl kR rfl ?_)) | (go_at_call 16; (with_reducible refine (PL.out _ (S.oldB HB.out) kT).mono ?_); rintro e w1 ⟨rfl, T⟩; replace S := S.call T; clear T; (try simp only [z4, z5] at S)) | ((with_reducible refine iD 13 (.alloc 22) ?_); refine step_alloc (dst := some 13) S 22 (.agg (arr8 (List.replicate 32 0))) (arr8 (List.replicate 32 0)) kR rfl rfl ?_; clear S; intro g13 w S) | ((with_reducible refine iO none (.store 22 (.tmp 13) (.tmp 32)) ?_); refine step_store S 22 (.tmp 13) (.tmp 32) _ _ rfl rfl _ _ pk 32 kR lN lN on1 rfl ?_; clear S; intro w S) | ((with_reducible refine iO _ (.load 38 _) ?_); refine step_load1 38 _ _ _ rfl (cL) _ Tryd.underlying38 rfl rfl ?_) | ((with_reducible refine iD 41 (.build 40 _) ?_); refine step_buildZ 40 (.agg ((lgL lgZ (.slice none 0 0)).toArray)) (fun w => by kernel_rfl) rfl ?_) | ((with_reducible refine iO none (.store 40 (.tmp 10) (.tmp 41)) ?_); refine step_store S 40 (.tmp 10) (.tmp 41) _ _ rfl rfl _ _ pk 34 kR lN lN on1 rfl ?_; clear S; intro w S) | fail)
    refine ret_row_tmp rfl g10 40 _ (S.get pk) _ Tryd.underlying40 34 kR lN rfl rfl rfl ?_
    exact ⟨_, rfl, S.nil.nilRc⟩
  have hE : apE g t k c b.length = 0 := by unfold apE; rw [if_neg (by rw [hv]; decide), if_neg (by rw [hk0]; decide), if_neg hc]
  rw [hE]
  obtain ⟨D2, x, ok⟩ := apOk g t k c b hE
  obtain rfl : D = D2 := hD.trans ok.eD.symm
  have hG0 := ok.g0
  have hG1 := ok.g1
  have hG2 := ok.g2
  obtain ⟨hx0, hx1, hx2, hx3⟩ := And.intro ok.x0 (And.intro ok.x1 (And.intro ok.x2 ok.x3))
  have hcn := ok.cnt
  have hn32 := ok.n
  unfold MadeLg
  obtain ⟨GG, hG⟩ : ∃ GG, GG = apR g t k c b := ⟨_, rfl⟩
  rw [← hG] at hG0 hG1 hG2 ⊢
  clear ok hE hG
  rw [hG2]
  obtain ⟨lo, hlo⟩ : ∃ lo, lo = g.recs.length + 1 - 32 := ⟨_, rfl⟩
  have hkp : keepR g.recs = g.recs.drop lo := by rw [hlo]; rfl
  have hcut := Rs.cutM hr rfl lo (by omega)
  have hkl : (g.recs.drop lo).length = g.recs.length - lo := by simp
  rw [hkp]
  obtain ⟨KK, hKd⟩ : ∃ KK, KK = g.recs.drop lo := ⟨_, rfl⟩
  rw [← hKd] at hcut hkl ⊢
  obtain ⟨C, hC⟩ : ∃ C, C = g.cnt.toNat := ⟨_, rfl⟩
  rw [← hC] at q0 hG0 hc hcn
  have i1 : ((C : Int) == 4294967295) = false := beq_false_of_ne (by omega)
  have hwC : IntKind.u32.wrap ((C : Int) + 1) = (GG.cnt.toNat : Int) := by rw [IntKind.wrap_u32, ← hG0]; omega
  obtain ⟨n, hnn⟩ : ∃ n, n = g.recs.length := ⟨_, rfl⟩
  rw [← hnn] at hr pc q0 q33 qk hcut hkl k1 hlo hn32 ⊢
  have hlen : (n - lo + 1) * 56 ≤ 140737488355328 := by omega
  have hcap : n ≤ c0 := k1
  have PC := Lib.hid pc; have PL := Lib.hid pl; have HB := Lib.hid hb; have HR := Lib.hid hr; have HK := Lib.hid hK; have Q0 := Lib.hid q0; have Q33 := Lib.hid q33; have QK := Lib.hid qk; have HDL := Lib.hid hDl; have HG0 := Lib.hid hG0; have HG1 := Lib.hid hG1; have HG2 := Lib.hid hG2; have HX0 := Lib.hid hx0; have HX1 := Lib.hid hx1; have HX2 := Lib.hid hx2; have HX3 := Lib.hid hx3; have HCUT := Lib.hid hcut; have HKL := Lib.hid hkl; have HLEN := Lib.hid hlen; have HLO := Lib.hid hlo; have HGL := Lib.hid hgl; clear pc pl hb hr hK q0 q33 qk hDl hG0 hG1 hG2 hx0 hx1 hx2 hx3 hcut hkl hlen hlo hgl
  clear hv hn hval hlast hD hk0 hc hkp hKd hC hnn hcn
  go_enter Tryd.func21, Tryd.ntmps21
  go_upto_region 11 with (first | ((with_reducible refine iD 5 (.box 40 (.tmp 0)) ?_); refine step_boxA (dst := some 5) S 40 (.tmp 0) _ rfl rfl ?_; clear S; intro g5 w S) | ((with_reducible refine iD 10 (.alloc 40) ?_); refine step_alloc (dst := some 10) S 40 (.agg ((lgL lgZ (.slice none 0 0)).toArray)) ((lgL lgZ (.slice none 0 0)).toArray) kR rfl rfl ?_; clear S; intro g10 w S) | ((with_reducible refine iO _ (.load 40 _) ?_); first | (refine step_load S 40 _ _ rfl _ _ _ pk _ Tryd.underlying40 rfl 34 kR lN rfl ?_) | (refine step_loadO 40 _ _ rfl _ _ _ (S.old_heap (Hid.out (by assumption))) _ Tryd.underlying40 rfl 34 kR lN rfl ?_) | (refine step_loadR 40 _ _ _ rfl _ (S.old_range hy) _ Tryd.underlying40 rfl 34 kR lN _ rfl rfl ?_)) | (go_at_call 23; (with_reducible refine (PC.out _ (S.old HR.out)).mono ?_); rintro e w1 ⟨rfl, T⟩; replace S := S.call T; clear T; (try simp only [z4, z5] at S)) | ((with_reducible refine iO _ (.load 22 _) ?_); first | (refine step_loadR 22 _ _ _ rfl _ (S.old_range hy) _ Tryd.underlying22 rfl 32 kR lN _ rfl rfl ?_) | (refine step_loadP S 22 _ _ _ rfl _ _ _ pk 32 _ pT lN _ Tryd.underlying22 rfl kR rfl ?_)) | (go_at_call 16; (with_reducible refine (PL.out _ (S.oldB HB.out) kT).mono ?_); rintro e w1 ⟨rfl, T⟩; replace S := S.call T; clear T; (try simp only [z4, z5] at S)) | ((with_reducible refine iD 13 (.alloc 22) ?_); refine step_alloc (dst := some 13) S 22 (.agg (arr8 (List.replicate 32 0))) (arr8 (List.replicate 32 0)) kR rfl rfl ?_; clear S; intro g13 w S) | ((with_reducible refine iO none (.store 22 (.tmp 13) (.tmp 32)) ?_); refine step_store S 22 (.tmp 13) (.tmp 32) _ _ rfl rfl _ _ pk 32 kR lN lN on1 rfl ?_; clear S; intro w S) | ((with_reducible refine iO _ (.load 38 _) ?_); refine step_load1 38 _ _ _ rfl (cL) _ Tryd.underlying38 rfl rfl ?_) | ((with_reducible refine iO _ (.load 31 _) ?_); refine step_load1 31 _ _ _ rfl (cL) _ Tryd.underlying31 rfl rfl ?_) | fail)
  have hli : (if (n : Int) - 32 + 1 < 0 then 0 else (n : Int) - 32 + 1) = (lo : Int) := by have := HLO.out; split <;> omega
  have hln : lo ≤ n := by have := HLO.out; omega
  have HLI := Lib.hid hli; clear hli
  go_upto_region 12 with (first | ((with_reducible refine iD 54 (.slice 31 (.tmp 50) _ _ _) ?_); refine step_cutLHM 31 50 35 (.tmp 50) (.tmp 51) (.tmp 52) (.tmp 53) a0 n c0 _ _ _ _ _ _ lo n n rfl rfl rfl rfl HLI.out rfl rfl hln (Nat.le_refl _) hcap Tryd.underlying31 kR gw ?_) | ((with_reducible refine iO _ (.load 31 _) ?_); refine step_load1 31 _ _ _ rfl (cL) _ Tryd.underlying31 rfl rfl ?_) | fail)
  have S := S.pick (r := blk g10 _) pk
  refine wp_relyW (e1 := noRes) 13 (S.pick (r := blk g10 _) pk) [sv [] (.pointer (some ⟨g5, 0, none⟩)), sv [0] (.int .u32 (C : Int)), sv [0, 1] (.int .u32 (GG.cnt.toNat : Int)), sv [] (.agg (arr8 D)), sv [] ((.slice (cutA a0 n lo 35) (n - lo) (n - lo))), sv [] ((.int .u64 (t.toNat : Int))), sv [] (by8 k), sv [] ((.int .i64 (iv c))), sv [] (.agg (arr8 D)), sv [5, 6, 7, 8] (.agg (rcdL x).toArray), ⟨[5, 6, 7, 8, 9], [], [], fun _ v => ∃ y, v = y, fun _ v => [rowRc v [x]]⟩, ⟨[4, 5, 6, 7, 8, 9, 10], [10], [], fun _ v => ∃ y, v = y, fun _ v => [rowRc v (KK ++ [x])]⟩, ⟨[0, 1, 2, 3, 4, 5, 6, 7, 8, 9, 10, 11], [], [11], fun d v => v = .agg (lgL GG (d 11)).toArray, fun _ v => []⟩, ⟨[0, 1, 2, 3, 4, 5, 6, 7, 8, 9, 10, 11, 12], [], [11], fun _ v => True, fun d v => [blk g10 (.cells (lgL GG (d 11)).toArray 40 (0, 0))]⟩, sv [0, 1, 2, 3, 4, 5, 6, 7, 8, 9, 10, 11, 12, 13] (.int .i64 0)] ?A1 ?hA1 kR kR kR [0, 1, 2, 3, 4, 5, 6, 7, 8, 9, 11, 12, 13, 14] kR (of_decide_eq_true rfl) ?hok1 ?fin1
  case hA1 => intro u; simp only [putAll, List.length_cons, List.length_nil, Nat.zero_add, Nat.reduceAdd, dstAt, List.getElem?_toArray, List.getElem?_cons_zero, List.getElem?_cons_succ, Option.bind_some, Act.put, List.setIfInBounds_toArray, List.set_cons_zero, List.set_cons_succ]; rfl
  case hok1 =>
    intro i hi
    obtain rfl | rfl | rfl | rfl | rfl | rfl | rfl | rfl | rfl | rfl | rfl | rfl | rfl | rfl | rfl : i = 0 ∨ i = 1 ∨ i = 2 ∨ i = 3 ∨ i = 4 ∨ i = 5 ∨ i = 6 ∨ i = 7 ∨ i = 8 ∨ i = 9 ∨ i = 10 ∨ i = 11 ∨ i = 12 ∨ i = 13 ∨ i = 14 := by simp only [List.length_cons, List.length_nil, Nat.zero_add, Nat.reduceAdd] at hi; omega
    · rw [if_neg (by decide)]; intro r0; exact oP []
    · clear hi
      rw [if_neg (by decide)]; intro r0
      refine step_of rfl rfl rfl ?_
      intro u G w hf S
      have f0 : u 0 = .pointer (some ⟨g5, 0, none⟩) := hf 0 (by simp)
      simp only [fl, z4, z5, z6, z7, ptrBlk] at S ⊢
      simp only [f0]
      refine does_load1 38 (.tmp 55) _ _ rfl (S.cell (g := g5) pk co) _ Tryd.underlying38 rfl ?_; exact ⟨rfl, S⟩
    · rw [if_neg (by decide)]; intro r0; exact oP [1]
    · clear hi
      rw [if_neg (by decide)]; intro r0
      refine step_of rfl rfl rfl ?_
      intro u G w hf S
      simp only [fl, z4, z5, z6, z7, ptrBlk] at S ⊢
      refine does_load 22 (.tmp 13) g13 rfl _ _ _ (S.get (r := blk g13 _) pk) _ Tryd.underlying22 rfl 32 kR lN ?_; exact ⟨rfl, S⟩
    · rw [if_neg (by decide)]; intro r0; exact oP []
    · rw [if_neg (by decide)]; intro r0; exact oP []
    · rw [if_neg (by decide)]; intro r0; exact oP []
    · rw [if_neg (by decide)]; intro r0; exact oP []
    · clear hi
      rw [if_neg (by decide)]; intro r0
      refine step_of rfl rfl rfl ?_
      intro u G w hf S
      simp only [fl, z4, z5, z6, z7, ptrBlk] at S ⊢
      refine does_load 22 (.tmp 13) g13 rfl _ _ _ (S.get (r := blk g13 _) pk) _ Tryd.underlying22 rfl 32 kR lN ?_; exact ⟨rfl, S⟩
    · clear hi
      rw [if_neg (by decide)]; intro r0
      refine step_of rfl rfl rfl ?_
      intro u G w hf S
      have f5 : u 5 = (.int .u64 (t.toNat : Int)) := hf 5 (by simp)
      have f6 : u 6 = (by8 k) := hf 6 (by simp)
      have f7 : u 7 = (.int .i64 (iv c)) := hf 7 (by simp)
      have f8 : u 8 = .agg (arr8 D) := hf 8 (by simp)
      simp only [fl, z4, z5, z6, z7, ptrBlk] at S ⊢
      simp only [f5, f6, f7, f8]
      refine does_buildRc4 (.tmp 60) (.tmp 61) (.tmp 62) (.tmp 63) x (by rw [HX0.out]; rfl) (by rw [HX1.out]; rfl) (by rw [HX2.out]; rfl) (by rw [HX3.out]; rfl) ?_; exact ⟨rfl, S⟩
    · clear hi
      rw [if_neg (by decide)]; intro r0
      refine step_of rfl rfl rfl ?_
      intro u G w hf S
      have f9 : u 9 = .agg (rcdL x).toArray := hf 9 (by simp)
      simp only [fl, z4, z5, z6, z7, ptrBlk] at S ⊢
      simp only [f9]
      refine does_buildRc1 S (.tmp 64) x rfl ?_; intro y w1 S; exact ⟨⟨y, rfl⟩, S⟩
    · clear hi
      rw [if_neg (by decide)]; intro r0
      refine step_of rfl rfl rfl ?_
      intro u G w hf S
      have f4 : u 4 = (.slice (cutA a0 n lo 35) (n - lo) (n - lo)) := hf 4 (by simp)
      have f10 : ∃ y, u 10 = y := hf 10 (by simp)
      obtain ⟨y65, f10⟩ := f10
      simp only [fl, z4, z5, z6, z7, ptrBlk] at S ⊢
      simp only [f4, f10] at S ⊢
      try simp only [ptrBlk] at S
      refine does_appendRcX S (.tmp 59) (.tmp 65) (cutA a0 n lo 35) (n - lo) KK rfl HKL.out (S.old HCUT.out) y65 [x] rfl (S.sl (v := y65) pk) Nat.one_pos HLEN.out ?_; intro v' w' S; exact ⟨⟨_, rfl⟩, S.drop (Pick.tail (Pick.head _ _))⟩
    · clear hi
      rw [if_neg (by decide)]; intro r0
      refine step_of rfl rfl rfl ?_
      intro u G w hf S
      have f2 : u 2 = .int .u32 (GG.cnt.toNat : Int) := hf 2 (by simp)
      have f3 : u 3 = .agg (arr8 D) := hf 3 (by simp)
      have f10 : ∃ y, u 10 = y := hf 10 (by simp)
      obtain ⟨y65, f10⟩ := f10
      have f11 : ∃ y, u 11 = y := hf 11 (by simp)
      obtain ⟨y66, f11⟩ := f11
      have m11 : mask [0, 1, 2, 3, 4, 5, 6, 7, 8, 9, 10, 11] u 11 = u 11 := rfl
      simp only [fl, z4, z5, z6, z7, m11, ptrBlk] at S ⊢
      simp only [m11, f2, f3, f10, f11] at S ⊢
      try simp only [ptrBlk] at S
      refine does_buildLg (.tmp 57) (.tmp 58) (.tmp 66) GG _ _ D rfl rfl rfl HG1.out rfl (S.sl (v := y66) pk).isSl ?_; exact ⟨rfl, S⟩
    · clear hi
      rw [if_pos rfl]
      refine step_ofW rfl rfl rfl ?_
      intro u G w hf S
      have f10 : ∃ y, u 10 = y := hf 10 (by simp)
      obtain ⟨y65, f10⟩ := f10
      have f11 : ∃ y, u 11 = y := hf 11 (by simp)
      obtain ⟨y66, f11⟩ := f11
      have f12 : u 12 = .agg (lgL GG (u 11)).toArray := hf 12 (by simp)
      have m11 : mask [0, 1, 2, 3, 4, 5, 6, 7, 8, 9, 10, 11, 12] u 11 = u 11 := rfl
      simp only [fl, z4, z5, z6, z7, m11, ptrBlk] at S ⊢
      simp only [m11, f10, f11, f12] at S ⊢
      try simp only [ptrBlk] at S
      refine does_store (S.perm (List.Perm.swap _ _ _)) 40 (.tmp 10) (.tmp 67) _ rfl rfl 34 kR (lgL_size _ _) (lgL_size _ _) (lgL_one _ _ (one_sl (S.sl (v := y66) pk)).1) ?_; intro w1 S; exact ⟨trivial, S.unit.perm ((List.Perm.swap _ _ _).trans (List.Perm.cons _ (List.Perm.swap _ _ _)))⟩
    · rw [if_neg (by decide)]; intro r0; exact oP []
  case fin1 =>
    intro u w hf S
    have f10 : ∃ y, u 10 = y := hf 10 (by simp)
    obtain ⟨y65, f10⟩ := f10
    have f11 : ∃ y, u 11 = y := hf 11 (by simp)
    obtain ⟨y66, f11⟩ := f11
    have m12_11 : mask [0, 1, 2, 3, 4, 5, 6, 7, 8, 9, 10, 11] u 11 = u 11 := rfl
    have m13_11 : mask [0, 1, 2, 3, 4, 5, 6, 7, 8, 9, 10, 11, 12] u 11 = u 11 := rfl
    have hvA := allV hf
    simp only [AllV, RSpec.valAt, sv, Nat.zero_add, Nat.reduceAdd, m12_11, m13_11] at hvA
    simp only [fl, z4, z5, z6, z7, m12_11, m13_11, ptrBlk] at S
    clear hf
    simp only [List.length_cons, List.length_nil, Nat.zero_add, Nat.reduceAdd, List.drop_succ_cons, List.drop_zero, f10, f11, hvA]
    try simp only [f10, f11, hvA, ptrBlk] at S
    clear f10 f11 hvA m12_11 m13_11
    go_wp2_with (first | fail)
    all_goals
      have S := S.pick (r := blk g10 _) pk
      refine ret_row_tmp rfl g10 40 _ (S.get pk) _ Tryd.underlying40 34 kR lN rfl rfl rfl ?_
      exact ⟨_, rfl, S.sub (by repeat (first | exact Sub.nil _ | refine Sub.cons pk ?_))⟩
end Go.Proofs.YtfhkmmagpnojmaaDoor

/- The arrays of several byte slices as one thing; Split told so. No condition but the reach. -/
namespace Go.Proofs.YtfhkmmagpnojmaaDoor
open Go.RowKit

/-- The arrays of all these slices. -/
def allF (ps : List (Value × List UInt8)) : Res where
  foot := ps.flatMap fun p => (row8 p.1 p.2).foot
  holds w := ∀ p ∈ ps, (row8 p.1 p.2).holds w
  live w h g hg := by
    obtain ⟨p, hp, hg⟩ := List.mem_flatMap.1 hg
    exact (row8 p.1 p.2).live w (h p hp) g hg
  keep w w' hk h := fun p hp => (row8 p.1 p.2).keep w w' (fun g hg => hk g (List.mem_flatMap.2 ⟨p, hp, hg⟩)) (h p hp)
theorem Has.toAll {w0 w : World} {ps : List (Value × List UInt8)} {F : List Res} (S : Has w0 w (frs ps ++ F)) : Has w0 w (allF ps :: F) := by
  have ha := List.pairwise_append.1 S.apart
  refine ⟨S.below, ?_, ?_, List.pairwise_cons.2 ⟨fun s hs g hg => ?_, ha.2.1⟩⟩
  · intro r hr
    rcases List.mem_cons.1 hr with rfl | hr
    · exact fun p hp => S.holds _ (List.mem_append_left _ (frs_mem hp))
    · exact S.holds r (List.mem_append_right _ hr)
  · intro r hr g hg
    rcases List.mem_cons.1 hr with rfl | hr
    · obtain ⟨p, hp, hg⟩ := List.mem_flatMap.1 hg
      exact S.base _ (List.mem_append_left _ (frs_mem hp)) g hg
    · exact S.base r (List.mem_append_right _ hr) g hg
  · obtain ⟨p, hp, hg⟩ := List.mem_flatMap.1 hg
    exact ha.2.2 _ (frs_mem hp) s hs g hg
theorem Has.piece {w0 w : World} {l F : List Res} {ps : List (Value × List UInt8)} (S : Has w0 w l) (h : Pick l (allF ps) F) (p : Value × List UInt8) (hp : p ∈ ps) : Bs w p.1 p.2 := Sl.of_own (S.get h p hp)
/-- Pieces and a rest, and an error. -/
def MadeA3 (w : World) (X : List (List UInt8) × List UInt8) (E : Int) (e : Ending) (w' : World) : Prop := ∃ v1 v2 ps, e = .returned (.tuple #[v1, v2, .int .i64 E]) ∧ ps.map (·.2) = X.1 ∧ Has w w' [rowF v1 ps, row8 v2 X.2, allF ps]
theorem MadeF3.all {w w' : World} {X : List (List UInt8) × List UInt8} {E : Int} {e : Ending} (h : MadeF3 w X E e w') : MadeA3 w X E e w' := by
  obtain ⟨v1, v2, ps, he, hp, S⟩ := h
  refine ⟨v1, v2, ps, he, hp, ?_⟩
  have S2 : Has w w' (frs ps ++ [rowF v1 ps, row8 v2 X.2]) := S.perm (by
    have := List.perm_append_comm (l₁ := [rowF v1 ps, row8 v2 X.2]) (l₂ := frs ps)
    exact this)
  exact S2.toAll.perm ((List.Perm.swap _ _ _).trans (List.Perm.cons _ (List.Perm.swap _ _ _)))
theorem split_a (v : Value) (b : List UInt8) (w0 : World) (h : Bs w0 v b) (hl : b.length ≤ 4160) : Calls Tryd.prog 30 #[v] w0 (MadeA3 w0 (splitB b) 0) :=
  (split_s v b w0 h).mono fun e w' he => by
    rw [show spX b = splitB b from if_pos hl, show spE b.length = 0 from if_pos hl] at he
    exact he.all
end Go.Proofs.YtfhkmmagpnojmaaDoor
