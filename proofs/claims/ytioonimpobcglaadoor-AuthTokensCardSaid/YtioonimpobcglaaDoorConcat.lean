/- Two pieces of bytes, joined in new memory: what slices.Concat returns; what slices.Grow returns of nil. No condition but on the sizes. -/
import Derived.Test.YtioonimpobcglaaDoorRow
import Derived.Test.YtioonimpobcglaaDoorPut
import Derived.Lib.AppendZerosOnto
set_option linter.unusedSimpArgs false
set_option linter.unusedVariables false
namespace Go.Proofs.YtioonimpobcglaaDoor
open Go.RowKit

set_option maxRecDepth 20000 in
set_option maxHeartbeats 1000000 in
theorem grow_any (n : Nat) (w : World) (hn : n ≤ 140737488355328) :
    Calls Tryd.prog 86 #[.slice none 0 0, .int .i64 (n : Int)] w (Fresh w []) := by
  by_cases h0 : n = 0
  · subst h0
    go_enter Tryd.func86, Tryd.ntmps86
    go_wp2
    go_ret
    exact ⟨_, rfl, World.ownsRow_nil _ _ _ _, Below.refl _ _⟩
  · have h1 : 0 < (n : Int) := by omega
    obtain ⟨i0, hi, hz, hs, hb⟩ := info_parts Tryd.infoB
    have hrz : ∀ ty, (Builtin.append_ #[22, 3] ty #[.slice none 0 0, .int .i64 (n : Int)]).run Tryd.prog w =
        .ok (.slice (some ⟨w.heap.size, 0, none⟩) n (grownCap w n 0 5)) (w.drew.alloc (.cells (#[] ++ Builtin.zeroCells (Value.int .u8 0).cells n ++ Builtin.zeroCells (Value.int .u8 0).cells (grownCap w n 0 5 - n)) 5)) := fun ty => by
      have h := Lib.run_append_grow_zeros w 22 3 ty 5 i0 (.int .u8 0) .i64 .i64 Tryd.underlying22 Tryd.underlying3 hi hz none 0 0 [] (run_firstCells_none w.drew i0.size 0 0 0) n (by omega) (by omega) (by omega) (by omega) (by rw [hb]; omega) (by rw [Nat.zero_add]; exact growslice_fits (by omega) (by rw [hb]; omega))
      rw [Nat.zero_add] at h
      exact h
    have hge := grownCap_ge w n 0 5
    have hle := grownCap_le_maxLen w n 0 5 (by unfold maxLen; omega)
    obtain ⟨G, hG⟩ : ∃ G, G = grownCap w n 0 5 := ⟨_, rfl⟩
    rw [← hG] at hrz hge hle
    have hown : (w.drew.alloc (.cells (#[] ++ Builtin.zeroCells (Value.int .u8 0).cells n ++ Builtin.zeroCells (Value.int .u8 0).cells (G - n)) 5)).ownsRow w.heap.size 5 1 (.slice (some ⟨w.heap.size, 0, none⟩) 0 G) 0 [] :=
      World.ownsRow_made (base := w.heap.size) (e := 5) (size := 1) w.drew _ G (Nat.le_refl _) hle (by simp only [Array.size_append, size_zeroCells, Array.size_empty, show (Value.int IntKind.u8 0).cells.size = 1 from rfl]; omega)
    obtain ⟨X, hX⟩ : ∃ X, X = #[] ++ Builtin.zeroCells (Value.int .u8 0).cells n ++ Builtin.zeroCells (Value.int .u8 0).cells (G - n) := ⟨_, rfl⟩
    rw [← hX] at hrz hown
    unfold maxLen at hle
    have HRZ := Lib.hid hrz; have HO := Lib.hid hown
    clear hX hG hrz hown hi hz hs hb
    go_enter Tryd.func86, Tryd.ntmps86
    go_wp2_with (at_builtin; refine Lib.wpList_append_run _ rfl _ _ _ _ rfl _ _ rfl rfl _ _ (HRZ.out _) ?_)
    go_ret
    exact ⟨_, rfl, HO.out, (Below.refl w.heap.size w).drew.alloc (Nat.le_refl _) _⟩

set_option maxRecDepth 20000 in
set_option maxHeartbeats 1000000 in
theorem concat_any (g : Nat) (v1 v2 : Value) (xs ys : List UInt8) (w : World) (h1 : w.cell? ⟨g, 0, none⟩ = some v1) (h2 : w.cell? ⟨g, 1, none⟩ = some v2) (hx : Bs w v1 xs) (hy : Bs w v2 ys)
    (hl : xs.length + ys.length ≤ 140737488355328) :
    Calls Tryd.prog 82 #[.slice (some ⟨g, 0, none⟩) 2 2] w (Fresh w (xs ++ ys)) := by
  obtain ⟨a1, c1, rfl, _, _⟩ := Sl.shape hx
  obtain ⟨a2, c2, rfl, _, _⟩ := Sl.shape hy
  have hg : g < w.heap.size := World.block_lt_of_cell? w _ h1
  have HX := Lib.hid hx; have HY := Lib.hid hy; clear hx hy
  have hgr : ∀ w1, Calls Tryd.prog 86 #[.slice none 0 0, .int .i64 ((xs.length : Int) + (ys.length : Int))] w1 (Fresh w1 []) := fun w1 => by
    have h := grow_any (xs.length + ys.length) w1 hl
    rw [show ((xs.length + ys.length : Nat) : Int) = (xs.length : Int) + (ys.length : Int) by omega] at h
    exact h
  have HGR := Lib.hid hgr; clear hgr
  go_enter Tryd.func82, Tryd.ntmps82
  go_wp2
  refine wp_loop_rounds 3 ?_
  rw [rounds_succ]
  go_wp2
  rw [rounds_succ]
  go_wp2
  rw [rounds_succ]
  go_wp2_with (go_at_call 86; (with_reducible refine (HGR.out _).mono ?_); rintro e w1 ⟨v1, rfl, ho1, hb1⟩; obtain ⟨hc, hf⟩ := bcell hb1; have HO1 := Lib.hid ho1; have HB1 := Lib.hid hb1; clear ho1 hb1)
  refine wp_loop_rounds 3 ?_
  rw [rounds_succ]
  go_wp2_with (at_builtin; refine wpList_append_grew _ rfl (.tmp 31) (.tmp 32) 22 rfl w.heap.size 5 (.int .u8 0) 1 1 Tryd.underlying22 Tryd.infoB rfl (by decide) _ _ _ rfl HO1.out _ _ _ rfl (HX.out.below HB1.out) (oneCell_u8 _) ?c1 ?c2 HB1.out.size ?_)
  case c1 => unfold maxLen; simp; omega
  case c2 => simp; omega
  intro v2 w2 hown2 hgrow2
  have hb2 := HB1.out.trans (hgrow2.belowOwn HO1.out (Nat.le_refl _) HB1.out.size)
  obtain ⟨hc2, hf2⟩ := bcell hb2
  have ho2 := own_eq (n' := xs.length) (xs' := xs.map by8) hown2 (by simp) (by simp)
  have HB2 := Lib.hid hb2; have HO2 := Lib.hid ho2; clear hb2 ho2
  clear hown2 hgrow2 hc hf
  go_wp2_with fail
  rw [rounds_succ]
  go_wp2_with (at_builtin; refine wpList_append_grew _ rfl (.tmp 31) (.tmp 32) 22 rfl w.heap.size 5 (.int .u8 0) 1 1 Tryd.underlying22 Tryd.infoB rfl (by decide) _ _ _ rfl HO2.out _ _ _ rfl (HY.out.below HB2.out) (oneCell_u8 _) ?d1 ?d2 HB2.out.size ?_)
  case d1 => unfold maxLen; omega
  case d2 => omega
  intro v3 w3 hown3 hgrow3
  have hb3 := HB2.out.trans (hgrow3.belowOwn HO2.out (Nat.le_refl _) HB2.out.size)
  have ho3 := own_eq (n' := (xs ++ ys).length) (xs' := (xs ++ ys).map by8) hown3 (by simp) (by simp)
  have HB3 := Lib.hid hb3; have HO3 := Lib.hid ho3; clear hb3 ho3
  clear hown3 hgrow3
  go_wp2_with fail
  rw [rounds_succ]
  go_wp2_with fail
  go_ret
  exact ⟨_, rfl, HO3.out, HB3.out⟩
end Go.Proofs.YtioonimpobcglaaDoor
