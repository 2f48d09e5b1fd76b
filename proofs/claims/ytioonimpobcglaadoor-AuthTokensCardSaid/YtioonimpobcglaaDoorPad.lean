/- What follows n bytes ahead of the last block: what dunnageref01.Pad returns, in new memory. No condition but the number's bound. -/
import Derived.Test.YtioonimpobcglaaDoorPut
import Derived.Test.YtioonimpobcglaaDoorRefNum
import Derived.Test.YtioonimpobcglaaDoorSha
import Derived.Test.YtioonimpobcglaaDoorPutU
import Derived.Test.YtioonimpobcglaaDoorRow
set_option linter.unusedSimpArgs false
set_option linter.unusedVariables false
namespace Go.Proofs.YtioonimpobcglaaDoor
open Go.RowKit

theorem padB_eq (n : Nat) : padB n = 128 :: List.replicate ((119 - n % 64) % 64) 0 ++ numB (8 * n) 8 := by
  unfold padB padB.numB'
  simp [numB]

set_option maxRecDepth 20000 in
set_option maxHeartbeats 400000 in
theorem pad_any (n : Nat) (w : World) (hn : n ≤ 1000000000) :
    Calls Tryd.prog 87 #[.int .u64 (n : Int)] w (Fresh w (padB n)) := by
  have hz : (119 - n % 64) % 64 ≤ 63 := by omega
  obtain ⟨z, hzz⟩ : ∃ z, z = (119 - n % 64) % 64 := ⟨_, rfl⟩
  have hpe := padB_eq n
  rw [← hzz] at hpe hz
  have hmod : ∀ k, k < z → ((n : Int) + ((k : Int) + 1) + 8) % 64 ≠ 0 := by intro k hk; omega
  have hend : ((n : Int) + ((z : Int) + 1) + 8) % 64 = 0 := by omega
  have HPE := Lib.hid hpe; have HMOD := Lib.hid hmod; have HEND := Lib.hid hend; have HZZ := Lib.hid hzz; clear hpe hmod hend hzz
  go_enter Tryd.func87, Tryd.ntmps87
  go_wp2
  go_loopw [3] (fun t wr => ∃ k : Nat, k ≤ z ∧ wr.ownsRow w.heap.size 5 1 t (k + 1) ((128 :: List.replicate k 0).map by8) ∧ Below w.heap.size w wr ∧ (∃ a c, t = .slice a (k + 1) c)) (fun t _ => match t with | .slice _ m _ => 65 - m | _ => 0)
  case atStart => exact ⟨0, by omega, by have := World.ownsRow_lit (base := w.heap.size) (e := 5) (size := 1) w #[.int .u8 128] 1 (Nat.le_refl _) (by decide) rfl; exact this, below1 _ _, _, _, rfl⟩
  case round =>
    obtain ⟨k, hk, hown, hb, a, c, rfl⟩ := hrel
    have hsz := hb.size
    by_cases hlt : k < z
    · have ht : (((n : Int) + ((k : Int) + 1) + 8) % 64 != 0) = true := by rw [bne_iff_ne]; exact HMOD.out k hlt
      have HO := Lib.hid hown; have HB := Lib.hid hb; clear hown hb
      go_wp2_with (at_builtin; refine wpList_append_grew _ rfl (.tmp 13) (.tmp 14) 22 rfl w.heap.size 5 (.int .u8 0) 1 1 Tryd.underlying22 Tryd.infoB rfl (by decide) _ _ _ rfl (HO.out.alloc _) _ 1 [.int .u8 0] rfl (Sl.one _ _ _) ?c1 ?c2 ?c3 ?c4 ?_)
      case c1 => intro u hu; simp at hu; subst hu; rfl
      case c2 => unfold maxLen; omega
      case c3 => omega
      case c4 => simp; omega
      intro v' w1 hown1 hgrow
      have hb1 := HB.out.trans ((((Below.refl w.heap.size wr)).alloc hsz _).trans (hgrow.belowOwn (HO.out.alloc _) (Nat.le_refl _) (by simp; omega)))
      have hsh := own_shape hown1
      have ho1 := own_eq (n' := k + 1 + 1) (xs' := (128 :: List.replicate (k + 1) 0).map by8) hown1 (by omega) (by simp [List.replicate_succ'])
      have HO1 := Lib.hid ho1; have HB1 := Lib.hid hb1; clear ho1 hb1
      clear hown1 hgrow
      rcases hsh with ⟨_, h0⟩ | ⟨g, cap, hv1, _⟩
      · omega
      subst hv1
      go_wp2
      go_roundw
      case rel => exact ⟨k + 1, by omega, HO1.out, HB1.out, _, _, rfl⟩
      case measure => simp; omega
    · obtain rfl : k = z := by omega
      have ht : (((n : Int) + ((k : Int) + 1) + 8) % 64 != 0) = false := by rw [bne_eq_false_iff_eq]; exact HEND.out
      have HO := Lib.hid hown; have HB := Lib.hid hb; clear hown hb
      have hnum : ∀ w1, Calls Tryd.prog 70 #[.int .u64 (8 * (n : Int)), .int .i64 8] w1 (Fresh w1 (numB (8 * n) 8)) := fun w1 => by
        have h := number_any (8 * n) 8 w1 (by omega) (by omega)
        rw [show ((8 * n : Nat) : Int) = 8 * (n : Int) by omega] at h
        exact h
      have hsz2 := hsz
      have HNUM := Lib.hid hnum; clear hnum
      go_wp2_with (first | (go_at_call 70; (with_reducible refine (HNUM.out _).mono ?_); rintro e w1 ⟨v1, rfl, ho1, hb1⟩; have HO1 := Lib.hid ho1; have HB1 := Lib.hid hb1; clear ho1 hb1) | (at_builtin; refine wpList_append_grew _ rfl (.tmp 16) (.tmp 19) 22 rfl w.heap.size 5 (.int .u8 0) 1 1 Tryd.underlying22 Tryd.infoB rfl (by decide) _ _ _ rfl (own_later HO.out HB1.out) _ _ _ rfl (Sl.of_own HO1.out) ?d1 ?d2 ?d3 ?d4 ?_) | fail)
      case d1 => exact oneCell_u8 _
      case d2 => rw [numB_length]; unfold maxLen; omega
      case d3 => rw [numB_length]; omega
      case d4 => exact Nat.le_trans hsz HB1.out.size
      intro v2 w2 hown2 hgrow
      have hb2 := (HB.out.trans (HB1.out.mono hsz)).trans (hgrow.belowOwn (own_later HO.out HB1.out) (Nat.le_refl _) (Nat.le_trans hsz HB1.out.size))
      have ho2 := own_eq (n' := (padB n).length) (xs' := (padB n).map by8) hown2 (by rw [HPE.out]; simp [numB_length] <;> omega) (by rw [HPE.out]; simp)
      have HO2 := Lib.hid ho2; have HB2 := Lib.hid hb2; clear ho2 hb2
      clear hown2 hgrow
      go_wp2
      go_ret
      exact ⟨_, rfl, HO2.out, HB2.out⟩
end Go.Proofs.YtioonimpobcglaaDoor
