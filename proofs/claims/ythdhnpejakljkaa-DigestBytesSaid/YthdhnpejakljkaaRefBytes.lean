/- The specification's PutUint, TakeBytes and TakeUint: what they return for any bytes, numbers, sizes and indexes: new memory, the error's number; what was there stays. -/
import Derived.Test.YthdhnpejakljkaaPutU
import Derived.Test.YthdhnpejakljkaaRefNum
namespace Go.Proofs.Ythdhnpejakljkaa
open Go.RowKit

/-- Does a number fit s bytes? -/
def fitsB (n s : Nat) : Bool := ((n / 256 ^ s : Nat) : Int) == 0

theorem ret_bool {a b : Bool} (h : a = b) : Ending.returned (.bool a) = .returned (.bool b) := by rw [h]

set_option maxRecDepth 20000 in
set_option maxHeartbeats 400000 in
theorem fits_any (n s : Nat) (w : World) (hn : n < 18446744073709551616) (hs : s ≤ 8) :
    Calls Try.prog 20 #[.int .u64 (n : Int), .int .i64 (s : Int)] w fun e w' => e = .returned (.bool (fitsB n s)) ∧ w = w' := by
  have HN := Lib.hid hn; clear hn
  go_enter Try.func20, Try.ntmps20
  go_wp2
  go_loop [0, 5] (fun m i => ∃ (k q : Nat), k ≤ s ∧ i = .int .i64 (k : Int) ∧ q = n / 256 ^ k ∧ m = .int .u64 (q : Int)) (fun _ i => s - (intOf i).toNat)
  case atStart => exact ⟨0, n, by omega, rfl, by simp, rfl⟩
  case round =>
    obtain ⟨k, q, hk, rfl, hq, rfl⟩ := hrel
    have hq64 : q < 18446744073709551616 := by rw [hq]; exact Nat.lt_of_le_of_lt (Nat.div_le_self _ _) HN.out
    have HQ := Lib.hid hq; clear hq
    by_cases hlt : k < s
    · go_wp2
      go_round
      case rel => exact ⟨k + 1, q / 256, by omega, by go_num, by rw [HQ.out, Nat.pow_succ, Nat.div_div_eq_div_mul], by go_num⟩
      case measure => simp [intOf]; omega
    · go_wp2
      go_ret
      obtain rfl : k = s := by omega
      exact ⟨ret_bool (by unfold fitsB; rw [← HQ.out]), rfl⟩

theorem fits_eq (n s : Nat) : fitsB n s = !decide (256 ^ s ≤ n) := by
  unfold fitsB
  rw [Bool.eq_iff_iff]
  simp only [beq_iff_eq, Int.natCast_eq_zero, Bool.not_eq_true', decide_eq_false_iff_not, Nat.not_le, Nat.div_eq_zero_iff]
  have : 0 < 256 ^ s := Nat.pow_pos (by decide)
  omega

set_option maxRecDepth 20000 in
set_option maxHeartbeats 400000 in
theorem fits_yes (n s : Nat) (w : World) (hn : n < 18446744073709551616) (hs : s ≤ 8) (h : ¬ 256 ^ s ≤ n) :
    Calls Try.prog 20 #[.int .u64 (n : Int), .int .i64 (s : Int)] w fun e w' => e = .returned (.bool true) ∧ w = w' := by
  have := fits_any n s w hn hs
  rw [fits_eq] at this
  simpa [h] using this

set_option maxRecDepth 20000 in
set_option maxHeartbeats 400000 in
theorem fits_no (n s : Nat) (w : World) (hn : n < 18446744073709551616) (hs : s ≤ 8) (h : 256 ^ s ≤ n) :
    Calls Try.prog 20 #[.int .u64 (n : Int), .int .i64 (s : Int)] w fun e w' => e = .returned (.bool false) ∧ w = w' := by
  have := fits_any n s w hn hs
  rw [fits_eq] at this
  simpa [h] using this

/-- 'append([]byte{}, xs...)', the law's own form: bytes that can be read, put behind an empty slice that the call has just made. -/
theorem empty_own (w : World) : (w.alloc (.cells #[] 5)).ownsRow w.heap.size 5 1 (.slice (some ⟨w.heap.size, 0, none⟩) 0 0) 0 [] :=
  World.ownsRow_made w #[] 0 (Nat.le_refl _) (by decide) rfl

set_option maxRecDepth 20000 in
set_option maxHeartbeats 800000 in
theorem refPutUint_any (v : Value) (xs : List UInt8) (n : Nat) (s : Int) (w : World) (hv : Bs w v xs) (hl : xs.length ≤ 140737488355328) (hn : n < 18446744073709551616)
    (hs : -9223372036854775808 ≤ s ∧ s ≤ 9223372036854775807) :
    Calls Try.prog 10 #[v, .int .u64 (n : Int), .int .i64 s] w (FreshE w (putR xs n s) (putE xs.length n s)) := by
  obtain ⟨a, c, rfl, hc1, hc2⟩ := Sl.shape hv
  have HV := Lib.hid hv; clear hv
  by_cases h1 : s < 1 ∨ 8 < s
  · have he : putE xs.length n s = 2 := by unfold putE; rw [if_pos (by omega)]
    have hr : putR xs n s = [] := by simp [putR, he]
    rw [he, hr]; clear he hr
    rcases h1 with h1 | h1
    all_goals
      go_enter Try.func10, Try.ntmps10
      go_wp2_with fail
      go_ret2
      exact ⟨_, rfl, World.ownsRow_nil _ _ _ _, Below.refl _ _⟩
  · obtain ⟨k, rfl⟩ := Int.eq_ofNat_of_zero_le (show 0 ≤ s by omega)
    have k1 : 1 ≤ (k : Int) ∧ (k : Int) ≤ 8 := by omega
    obtain ⟨k1, k8⟩ := k1
    clear h1
    have HNN := Lib.hid hn; clear hn
    by_cases hq : 256 ^ k ≤ n
    · have he : putE xs.length n k = 2 := by unfold putE; rw [if_pos (by simp only [Int.toNat_natCast]; omega)]
      have hr : putR xs n k = [] := by simp [putR, he]
      rw [he, hr]; clear he hr
      have HQ := Lib.hid hq; clear hq
      go_enter Try.func10, Try.ntmps10
      go_wp2_with (go_at_call 20; refine (fits_no n k _ HNN.out (by omega) HQ.out).mono ?_; rintro e w' ⟨rfl, rfl⟩)
      go_ret2
      exact ⟨_, rfl, World.ownsRow_nil _ _ _ _, Below.refl _ _⟩
    · have hE : putE xs.length n k = if 8192 < (xs.length : Int) + k then 4 else 0 := by
        unfold putE; rw [if_neg (by simp only [Int.toNat_natCast]; omega)]
      by_cases h4 : 8192 < (xs.length : Int) + k
      · have he : putE xs.length n k = 4 := by rw [hE, if_pos h4]
        have hr : putR xs n k = [] := by simp [putR, he]
        rw [he, hr]; clear he hr hE
        have HQ := Lib.hid hq; clear hq
        go_enter Try.func10, Try.ntmps10
        go_wp2_with (go_at_call 20; refine (fits_yes n k _ HNN.out (by omega) HQ.out).mono ?_; rintro e w' ⟨rfl, rfl⟩)
        go_ret2
        exact ⟨_, rfl, World.ownsRow_nil _ _ _ _, Below.refl _ _⟩
      · have he : putE xs.length n k = 0 := by rw [hE, if_neg h4]
        have hr : putR xs n k = xs ++ numB n k := by simp [putR, he]
        rw [he, hr]; clear he hr hE
        have HQ := Lib.hid hq; clear hq
        have hv' : Sl (w.alloc (.cells #[] 5)) 1 (.slice a xs.length c) xs.length (xs.map by8) := Sl.below HV.out ((Below.refl _ _).alloc (Nat.le_refl _) _)
        have HV2 := Lib.hid hv'; clear hv'
        go_enter Try.func10, Try.ntmps10
        go_wp2_with (first | (go_at_call 20; refine (fits_yes n k _ HNN.out (by omega) HQ.out).mono ?_; rintro e w' ⟨rfl, rfl⟩) | (at_builtin; refine wpList_append_grew _ rfl (.tmp 26) (.tmp 27) 22 rfl w.heap.size 5 (.int .u8 0) 1 1 Try.underlying22 Try.infoB rfl (by decide) _ _ _ rfl (empty_own w) _ _ _ rfl HV2.out (oneCell_u8 _) ?c1 ?c2 ?c3 ?_))
        case c1 => unfold maxLen; omega
        case c2 => omega
        case c3 => simp
        intro v1 w1 hown1 hgrow1
        have hb1 := ((Below.refl w.heap.size w).alloc (Nat.le_refl _) (.cells #[] 5)).trans (hgrow1.belowOwn (empty_own w) (Nat.le_refl _) (by simp))
        have ho1 := own_eq (n' := xs.length) (xs' := xs.map by8) hown1 (by omega) (by simp)
        have HB1 := Lib.hid hb1; have HO1 := Lib.hid ho1; clear hown1 hgrow1 hb1 ho1
        go_wp2_with (first | (go_at_call 21; refine (number_any n k _ HNN.out (by omega)).mono ?_; rintro e w2 ⟨v2, rfl, ho2, hb2⟩; have hq2 := Sl.of_own ho2; have hq1 := HO1.out.kept (w' := w2) (row := none) ⟨hb2.os, hb2.tape, hb2.output, hb2.size, fun k hk _ => hb2.block k hk⟩ (by cases hv : v1.ownBlock <;> simp); have HQ2 := Lib.hid hq2; have HQ1 := Lib.hid hq1; have HB2 := Lib.hid hb2; clear ho2 hb2 hq2 hq1) | (at_builtin; refine wpList_append_grew _ rfl (.tmp 29) (.tmp 32) 22 rfl w.heap.size 5 (.int .u8 0) 1 1 Try.underlying22 Try.infoB rfl (by decide) _ _ _ rfl HQ1.out _ _ _ rfl HQ2.out (oneCell_u8 _) ?d1 ?d2 ?d3 ?_))
        case d1 => rw [numB_length]; unfold maxLen; omega
        case d2 => rw [numB_length]; omega
        case d3 => have := HB1.out.size; have := HB2.out.size; omega
        intro v3 w3 hown3 hgrow3
        have hb3 := (HB1.out.trans (HB2.out.mono HB1.out.size)).trans (hgrow3.belowOwn HQ1.out (Nat.le_refl _) (Nat.le_trans HB1.out.size HB2.out.size))
        have ho3 := own_eq (n' := (xs ++ numB n k).length) (xs' := (xs ++ numB n k).map by8) hown3 (by simp) (by simp)
        have HB3 := Lib.hid hb3; have HO3 := Lib.hid ho3; clear hown3 hgrow3 hb3 ho3
        go_wp2
        go_ret2
        exact ⟨_, rfl, HO3.out, HB3.out⟩

set_option maxRecDepth 20000 in
set_option maxHeartbeats 400000 in
theorem refTakeBytes_any (v : Value) (xs : List UInt8) (p n : Int) (w : World) (hv : Bs w v xs) (hl : xs.length ≤ 140737488355328)
    (hp : -9223372036854775808 ≤ p ∧ p ≤ 9223372036854775807) (hn : -9223372036854775808 ≤ n ∧ n ≤ 9223372036854775807) :
    Calls Try.prog 14 #[v, .int .i64 p, .int .i64 n] w (FreshNE w (takeR xs p n) (takeN xs.length p n) (takeE xs.length p n)) := by
  obtain ⟨a, c, rfl, hc1, hc2⟩ := Sl.shape hv
  by_cases h1 : p < 0 ∨ (xs.length : Int) < p ∨ n < 0
  · have he : takeE xs.length p n = 2 := by simp [takeE, h1]
    have hr : takeR xs p n = [] := by simp [takeR, he]
    have hN : takeN xs.length p n = 0 := by simp [takeN, he]
    rw [he, hr, hN]; clear he hr hN
    have HV := Lib.hid hv; clear hv
    have k1 : p < 0 ∨ (0 ≤ p ∧ (xs.length : Int) < p) ∨ (0 ≤ p ∧ p ≤ (xs.length : Int) ∧ n < 0) := by omega
    clear h1
    rcases k1 with k1 | ⟨k1, k2⟩ | ⟨k1, k2, k3⟩
    all_goals
      go_enter Try.func14, Try.ntmps14
      go_wp2_with fail
      go_ret3
      exact ⟨_, rfl, World.ownsRow_nil _ _ _ _, Below.refl _ _⟩
  · obtain ⟨k, rfl⟩ := Int.eq_ofNat_of_zero_le (show 0 ≤ p by omega)
    obtain ⟨m, rfl⟩ := Int.eq_ofNat_of_zero_le (show 0 ≤ n by omega)
    have hE : takeE xs.length k m = if (xs.length : Int) - k < m then 10 else 0 := by unfold takeE; rw [if_neg h1]
    by_cases h2 : (xs.length : Int) - k < m
    · have he : takeE xs.length k m = 10 := by rw [hE, if_pos h2]
      have hr : takeR xs k m = [] := by simp [takeR, he]
      have hN : takeN xs.length k m = 0 := by simp [takeN, he]
      rw [he, hr, hN]; clear he hr hN hE
      have HV := Lib.hid hv; clear hv
      have k1 : (k : Int) ≤ xs.length := by omega
      clear h1
      go_enter Try.func14, Try.ntmps14
      go_wp2_with fail
      go_ret3
      exact ⟨_, rfl, World.ownsRow_nil _ _ _ _, Below.refl _ _⟩
    · have he : takeE xs.length k m = 0 := by rw [hE, if_neg h2]
      have hr : takeR xs k m = (xs.drop k).take m := by simp [takeR, he]
      have hN : takeN xs.length k m = k + m := by simp [takeN, he]
      rw [he, hr, hN]; clear he hr hN hE
      have k1 : (k : Int) + m ≤ xs.length := by omega
      have hv' : Sl (w.alloc (.cells #[] 5)) 1 (.slice a xs.length c) xs.length (xs.map by8) := Sl.below hv ((Below.refl _ _).alloc (Nat.le_refl _) _)
      obtain ⟨a', hif, hp⟩ := Sl.part hv' k m (by omega)
      simp only [Nat.mul_one] at hif hp
      have hp2 : Sl (w.alloc (.cells #[] 5)) 1 (.slice a' (k + m - k) (c - k)) m (((xs.map by8).drop k).take m) := by rw [Nat.add_sub_cancel_left]; exact hp
      have HP := Lib.hid hp2; clear hv hp hp2 hv' h1
      have hll : ((xs.drop k).take m).length = m := by simp; omega
      have HL := Lib.hid hll; clear hll
      go_enter Try.func14, Try.ntmps14
      go_wp2_with (at_builtin; refine wpList_append_grew _ rfl (.tmp 27) (.tmp 33) 22 rfl w.heap.size 5 (.int .u8 0) 1 1 Try.underlying22 Try.infoB rfl (by decide) _ _ _ rfl (empty_own w) _ _ _ rfl HP.out ?c0 ?c1 ?c2 ?c3 ?_)
      case c0 => rw [← List.map_drop, ← List.map_take]; exact oneCell_u8 _
      case c1 => unfold maxLen; omega
      case c2 => omega
      intro v1 w1 hown1 hgrow1
      have hb1 := ((Below.refl w.heap.size w).alloc (Nat.le_refl _) (.cells #[] 5)).trans (hgrow1.belowOwn (empty_own w) (Nat.le_refl _) (by simp))
      have ho1 := own_eq (n' := ((xs.drop k).take m).length) (xs' := ((xs.drop k).take m).map by8) hown1 (by rw [HL.out] <;> omega) (by simp [List.map_take, List.map_drop])
      have HB1 := Lib.hid hb1; have HO1 := Lib.hid ho1; clear hown1 hgrow1 hb1 ho1
      go_wp2
      go_ret3
      exact ⟨_, rfl, HO1.out, HB1.out⟩

set_option maxRecDepth 20000 in
set_option maxHeartbeats 400000 in
theorem refTakeUint_any (v : Value) (xs : List UInt8) (p s : Int) (w : World) (hv : Bs w v xs) (hl : xs.length ≤ 140737488355328)
    (hp : -9223372036854775808 ≤ p ∧ p ≤ 9223372036854775807) (hs : -9223372036854775808 ≤ s ∧ s ≤ 9223372036854775807) :
    Calls Try.prog 12 #[v, .int .i64 p, .int .i64 s] w fun e w' =>
      e = .returned (.tuple #[.int .u64 (tuV xs p s : Nat), .int .i64 (tuN xs.length p s), .int .i64 (tuE xs.length p s)]) ∧ Below w.heap.size w w' := by
  by_cases h1 : s < 1 ∨ 8 < s
  · have e1 : tuV xs p s = 0 := if_pos h1
    have e2 : tuN xs.length p s = 0 := if_pos h1
    have e3 : tuE xs.length p s = 2 := if_pos h1
    rw [e1, e2, e3]; clear e1 e2 e3
    rcases h1 with h1 | h1
    all_goals
      clear hv
      go_enter Try.func12, Try.ntmps12
      go_wp2_with fail
      go_ret3
      exact ⟨rfl, Below.refl _ _⟩
  · have e1 : tuV xs p s = val (takeR xs p s) := if_neg h1
    have e2 : tuN xs.length p s = takeN xs.length p s := if_neg h1
    have e3 : tuE xs.length p s = takeE xs.length p s := if_neg h1
    rw [e1, e2, e3]; clear e1 e2 e3
    have HV := Lib.hid hv; clear hv
    have h2 : 1 ≤ s ∧ s ≤ 8 := by omega
    obtain ⟨h3, h4⟩ := h2
    clear h1
    have hlen : (takeR xs p s).length ≤ 8 := by
      unfold takeR; split
      · simp; omega
      · simp
    have HL := Lib.hid hlen; clear hlen
    go_enter Try.func12, Try.ntmps12
    go_wp2_with (first | (go_at_call 14; refine (refTakeBytes_any _ xs p s _ HV.out hl hp hs).mono ?_; rintro e w1 ⟨v1, rfl, ho, hb⟩; have HO := Lib.hid ho; have HB := Lib.hid hb; clear ho hb) | (go_at_call 23; refine (value_any _ (takeR xs p s) _ (Sl.of_own HO.out) HL.out).mono ?_; rintro e w2 ⟨rfl, rfl⟩))
    go_ret3
    exact ⟨rfl, HB.out⟩
end Go.Proofs.Ythdhnpejakljkaa
