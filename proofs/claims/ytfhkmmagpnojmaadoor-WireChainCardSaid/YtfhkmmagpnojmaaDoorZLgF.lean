/- The program's CheckLog: a log with all its records kept, and every log. No condition. -/
import Derived.Test.YtfhkmmagpnojmaaDoorZBd
import Derived.Test.YtfhkmmagpnojmaaDoorZLgE
set_option linter.unusedSimpArgs false
set_option linter.unusedVariables false
namespace Go.Proofs.YtfhkmmagpnojmaaDoor
open Go.RowKit

set_option maxRecDepth 100000 in
set_option maxHeartbeats 8000000 in
theorem checkLog_full (g : Lg) (m : Nat) (x : Rcd) (rv : Value) (w0 : World) (hr : Sl w0 35 rv g.recs.length (g.recs.flatMap rcdL)) (hn : g.recs.length = m + 1) (hx : g.recs[m]? = some x) (hb : chV g.recs = true) (hm : m = 31) (hC2 : 32 < g.cnt.toNat) :
    Calls Tryd.prog 23 #[.agg (lgL g rv).toArray] w0 fun e w' => e = .returned (.int .i64 (if g.link = x.link then 0 else 8)) ∧ Has w0 w' [] := by
  subst hm
  have S := Has.start w0
  obtain ⟨a0, c0, rfl, k1, k2⟩ := Sl.shape hr
  unfold maxLen at k2
  obtain ⟨b, off, rfl, hcell⟩ := hr.atA (by omega)
  have hrg := hr.elem rcdL_length (by decide) 31 x hx
  have hrl : w0.rangeAt b (off + 1088) (x.link.map by8) := fun j v hj => by
    have := hrg (j + 3) v hj
    rw [show off + 1088 + j = off + 31 * 35 + (j + 3) by omega]
    exact this
  have hll : (x.link.map by8).length = 32 := by rw [List.length_map]; exact x.len
  have pch := fun i w h => chainV_s i (.slice (some ⟨b, off, none⟩) g.recs.length c0) g.recs w h
  rw [hb] at pch
  have hbc := build_ch
  have q0 := lgL_0 g (.slice (some ⟨b, off, none⟩) g.recs.length c0)
  have q33 := lgL_33 g (.slice (some ⟨b, off, none⟩) g.recs.length c0)
  have qk := lgL_link g (.slice (some ⟨b, off, none⟩) g.recs.length c0)
  rw [hn] at hr pch q0 q33 qk k1 ⊢
  obtain ⟨C, hC⟩ : ∃ C, C = g.cnt.toNat := ⟨_, rfl⟩
  have hc := g.cnt.toNat_lt
  rw [← hC] at q0 hc hC2
  have h32 : ¬ (C : Int) ≤ 32 := by omega
  have hwC : IntKind.u64.wrap (C : Int) = (C : Int) := by rw [IntKind.wrap_u64]; omega
  have he := fun w' => neq32 g.link x.link g.len x.len w'
  have eg : Tryd.prog.eqGuardType Tryd.prog.depth 22 = false := by kernel_rfl
  have hgl := g.len
  have hxl := x.len
  clear hcell hrg hb hn hx hC hC2
  by_cases hd : g.link = x.link
  · rw [if_pos hd]
    rw [decide_eq_false (by simpa using hd)] at he
    have HR := Lib.hid hr; have PCH := Lib.hid pch; have Q0 := Lib.hid q0; have Q33 := Lib.hid q33; have QK := Lib.hid qk; have HD := Lib.hid hd; have HGL := Lib.hid hgl; have HXL := Lib.hid hxl; have HRL := Lib.hid hrl; have HLL := Lib.hid hll; have HC := Lib.hid hc; clear hr pch q0 q33 qk hd hgl hxl hrl hll hc
    go_enter Tryd.func23, Tryd.ntmps23
    go_wp2_with (first | ((with_reducible refine iD 1 (.box 40 (.tmp 0)) ?_); refine step_boxA (dst := some 1) S 40 (.tmp 0) _ rfl gw ?_; clear S; intro g1 w S) | ((with_reducible refine iO _ (.load 31 _) ?_); refine step_load1 31 _ _ _ rfl (cL) _ Tryd.underlying31 rfl gw ?_) | ((with_reducible refine iO _ (.load 38 _) ?_); refine step_load1 38 _ _ _ rfl (cL) _ Tryd.underlying38 rfl gw ?_) | (go_at_call 50; (with_reducible refine (PCH.out _ _ (S.old HR.out)).mono ?_); rintro e w1 ⟨rfl, T⟩; replace S := S.call T; clear T; (try simp only [z4, z5] at S)) | ((with_reducible refine iD 4 (.alloc 22) ?_); refine step_alloc (dst := some 4) S 22 (.agg (arr8 (List.replicate 32 0))) (arr8 (List.replicate 32 0)) kR rfl gw ?_; clear S; intro g4 w S) | ((with_reducible refine iO _ (.load 22 _) ?_); first | (refine step_loadR 22 _ _ _ rfl _ (S.old_range hy) _ Tryd.underlying22 rfl 32 kR lN _ rfl gw ?_) | (refine step_loadP S 22 _ _ _ rfl _ _ _ pk 32 _ pT lN _ Tryd.underlying22 rfl kR gw ?_)) | ((with_reducible refine iO none (.store 22 (.tmp 4) (.tmp 30)) ?_); refine step_store S 22 (.tmp 4) (.tmp 30) _ _ rfl rfl _ _ pk 32 kR lN lN on1 gw ?_; clear S; intro w S) | ((with_reducible refine iO _ (.load 22 _) ?_); first | (refine step_load S 22 _ _ rfl _ _ _ pk _ Tryd.underlying22 rfl 32 kR lN gw ?_) | (refine step_loadO 22 _ _ rfl _ _ _ (S.old_heap (Hid.out (by assumption))) _ Tryd.underlying22 rfl 32 kR lN gw ?_) | (refine step_loadR 22 _ _ _ rfl _ (S.old_range hy) _ Tryd.underlying22 rfl 32 kR lN _ rfl gw ?_)) | fail)
    go_ret
    exact ⟨rfl, S.nil⟩
  · rw [if_neg hd]
    rw [show decide (g.link ≠ x.link) = true by simp only [decide_eq_true_eq]; exact hd] at he
    have HR := Lib.hid hr; have PCH := Lib.hid pch; have Q0 := Lib.hid q0; have Q33 := Lib.hid q33; have QK := Lib.hid qk; have HD := Lib.hid hd; have HGL := Lib.hid hgl; have HXL := Lib.hid hxl; have HRL := Lib.hid hrl; have HLL := Lib.hid hll; have HC := Lib.hid hc; clear hr pch q0 q33 qk hd hgl hxl hrl hll hc
    go_enter Tryd.func23, Tryd.ntmps23
    go_wp2_with (first | ((with_reducible refine iD 1 (.box 40 (.tmp 0)) ?_); refine step_boxA (dst := some 1) S 40 (.tmp 0) _ rfl gw ?_; clear S; intro g1 w S) | ((with_reducible refine iO _ (.load 31 _) ?_); refine step_load1 31 _ _ _ rfl (cL) _ Tryd.underlying31 rfl gw ?_) | ((with_reducible refine iO _ (.load 38 _) ?_); refine step_load1 38 _ _ _ rfl (cL) _ Tryd.underlying38 rfl gw ?_) | (go_at_call 50; (with_reducible refine (PCH.out _ _ (S.old HR.out)).mono ?_); rintro e w1 ⟨rfl, T⟩; replace S := S.call T; clear T; (try simp only [z4, z5] at S)) | ((with_reducible refine iD 4 (.alloc 22) ?_); refine step_alloc (dst := some 4) S 22 (.agg (arr8 (List.replicate 32 0))) (arr8 (List.replicate 32 0)) kR rfl gw ?_; clear S; intro g4 w S) | ((with_reducible refine iO _ (.load 22 _) ?_); first | (refine step_loadR 22 _ _ _ rfl _ (S.old_range hy) _ Tryd.underlying22 rfl 32 kR lN _ rfl gw ?_) | (refine step_loadP S 22 _ _ _ rfl _ _ _ pk 32 _ pT lN _ Tryd.underlying22 rfl kR gw ?_)) | ((with_reducible refine iO none (.store 22 (.tmp 4) (.tmp 30)) ?_); refine step_store S 22 (.tmp 4) (.tmp 30) _ _ rfl rfl _ _ pk 32 kR lN lN on1 gw ?_; clear S; intro w S) | ((with_reducible refine iO _ (.load 22 _) ?_); first | (refine step_load S 22 _ _ rfl _ _ _ pk _ Tryd.underlying22 rfl 32 kR lN gw ?_) | (refine step_loadO 22 _ _ rfl _ _ _ (S.old_heap (Hid.out (by assumption))) _ Tryd.underlying22 rfl 32 kR lN gw ?_) | (refine step_loadR 22 _ _ _ rfl _ (S.old_range hy) _ Tryd.underlying22 rfl 32 kR lN _ rfl gw ?_)) | fail)
    go_ret
    exact ⟨rfl, S.nil⟩
theorem lastK_at (l : List Rcd) (m : Nat) (x : Rcd) (hl : l.length = m + 1) (hx : l[m]? = some x) : lastK l = x.link := by
  unfold lastK
  rw [List.getLast?_eq_getElem?, hl, Nat.add_sub_cancel, hx]
/-- CheckLog of any log. -/
theorem checkLog_s (g : Lg) (rv : Value) (w0 : World) (hr : Sl w0 35 rv g.recs.length (g.recs.flatMap rcdL)) :
    Calls Tryd.prog 23 #[.agg (lgL g rv).toArray] w0 fun e w' => e = .returned (.int .i64 (lgE g)) ∧ Has w0 w' [] := by
  by_cases h1 : g.recs.length = min g.cnt.toNat 32
  · cases hb : chV g.recs with
    | false => rw [show lgE g = 8 by unfold lgE lgV; rw [hb]; simp]; exact checkLog_bad g rv w0 hr hb
    | true =>
      have e : lgE g = if g.link = lastK g.recs then 0 else 8 := by unfold lgE lgV; rw [hb, decide_eq_true h1]; simp
      rw [e]
      rcases Nat.eq_zero_or_pos g.recs.length with h0 | h0
      · have h00 : g.recs = [] := List.eq_nil_of_length_eq_zero h0
        rw [show lastK g.recs = zs32 by rw [h00]; rfl]
        exact checkLog_nil g rv w0 hr h00 (by omega)
      · obtain ⟨m, hm⟩ : ∃ m, g.recs.length = m + 1 := ⟨g.recs.length - 1, by omega⟩
        have hx : g.recs[m]? = some (g.recs[m]'(by omega)) := List.getElem?_eq_getElem _
        rw [lastK_at g.recs m _ hm hx]
        by_cases h2 : g.cnt.toNat ≤ 32
        · exact checkLog_cons g m _ rv w0 hr hm hx hb (by omega) (by omega)
        · exact checkLog_full g m _ rv w0 hr hm hx hb (by omega) (by omega)
  · rw [show lgE g = 8 by unfold lgE lgV; rw [decide_eq_false h1]; simp]
    exact checkLog_mis g rv w0 hr h1
end Go.Proofs.YtfhkmmagpnojmaaDoor
