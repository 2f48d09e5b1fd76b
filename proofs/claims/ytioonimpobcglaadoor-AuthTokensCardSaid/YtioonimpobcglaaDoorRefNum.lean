/- The specification's Number: the bytes of a number, the highest first, in new memory; what was there stays. -/
import Derived.Test.YtioonimpobcglaaDoorPut
import Derived.Test.YtioonimpobcglaaDoorTake
set_option linter.unusedSimpArgs false
set_option linter.unusedVariables false
namespace Go.Proofs.YtioonimpobcglaaDoor
open Go.RowKit

set_option maxRecDepth 20000 in
set_option maxHeartbeats 400000 in
theorem number_any (n s : Nat) (w : World) (hn : n < 18446744073709551616) (hs : s ≤ 8) :
    Calls Tryd.prog 70 #[.int .u64 (n : Int), .int .i64 (s : Int)] w (Fresh w (numB n s)) := by
  have HN := Lib.hid hn; clear hn
  go_enter Tryd.func70, Tryd.ntmps70
  go_wp2
  go_loopw [0, 5, 6] (fun m b i wr => ∃ (k q : Nat), k ≤ s ∧ i = .int .i64 (k : Int) ∧ q = n / 256 ^ k ∧ m = .int .u64 (q : Int) ∧
      wr.ownsRow w.heap.size 5 1 b k ((numB n k).map by8) ∧ Below w.heap.size w wr) (fun _ _ i _ => s - (intOf i).toNat)
  case atStart => exact ⟨0, n, by omega, rfl, by simp, rfl, World.ownsRow_nil _ _ _ _, Below.refl _ _⟩
  case round =>
    obtain ⟨k, q, hk, rfl, hq, rfl, hown, hb⟩ := hrel
    have hq64 : q < 18446744073709551616 := by rw [hq]; exact Nat.lt_of_le_of_lt (Nat.div_le_self _ _) HN.out
    have HQ := Lib.hid hq; clear hq
    by_cases hlt : k < s
    · have hsz := hb.size
      have hsrc := Sl.below (Sl.of_own hown) ((Below.refl wr.heap.size wr).alloc (Nat.le_refl _) (.cells #[.int .u8 ((q : Int) % 256)] 5))
      have hdst := World.ownsRow_lit (base := w.heap.size) (e := 5) (size := 1) wr #[.int .u8 ((q : Int) % 256)] 1 hsz (by decide) rfl
      have HS := Lib.hid hsrc; have HD := Lib.hid hdst; have HB := Lib.hid hb; clear hsrc hdst hown hb
      go_wp2_with (at_builtin; refine wpList_append_grew _ rfl (.tmp 15) (.tmp 16) 22 rfl w.heap.size 5 (.int .u8 0) 1 1 Tryd.underlying22 Tryd.infoB rfl (by decide) _ _ _ rfl HD.out _ _ _ rfl HS.out (oneCell_u8 _) ?c1 ?c2 ?c3 ?_)
      case c1 => unfold maxLen; omega
      case c2 => omega
      case c3 => first | omega | (simp; omega)
      intro v' w1 hown' hgrow
      have hbel := HB.out.trans (((Below.refl _ _).alloc hsz _).trans (hgrow.belowOwn HD.out (Nat.le_refl _) (by simp; omega)))
      have hR := own_eq (n' := k + 1) (xs' := (numB n (k + 1)).map by8) hown' (by omega) (by simp [numB, ← HQ.out])
      have HR := Lib.hid hR; have HBL := Lib.hid hbel
      clear hown' hgrow hbel hR HS HD HB
      go_wp2
      go_roundw
      case rel => exact ⟨k + 1, q / 256, by omega, by go_num, by rw [HQ.out, Nat.pow_succ, Nat.div_div_eq_div_mul], by go_num, HR.out, HBL.out⟩
      case measure => simp [intOf]; omega
    · go_wp2
      go_ret
      obtain rfl : k = s := by omega
      exact ⟨_, rfl, by rw [numB_length]; exact hown, hb⟩
end Go.Proofs.YtioonimpobcglaaDoor
