/- digest.PutUint, TakeBytes and TakeUint: what they return for any bytes, numbers, sizes and indexes: new memory, the error's number; what was there stays. -/
import Derived.Test.YtioonimpobcglaaDoorPut
import Derived.Test.YtioonimpobcglaaDoorTake
set_option linter.unusedSimpArgs false
set_option linter.unusedVariables false
namespace Go.Proofs.YtioonimpobcglaaDoor
open Go.RowKit

/-- The error of a number that is put behind len bytes. -/
def putE (len n : Nat) (s : Int) : Int := if s < 1 ∨ 8 < s ∨ 256 ^ s.toNat ≤ n then 2 else if 8192 < (len : Int) + s then 4 else 0

/-- The bytes with a number put behind them. -/
def putR (xs : List UInt8) (n : Nat) (s : Int) : List UInt8 := if putE xs.length n s = 0 then xs ++ numB n s.toNat else []

/-- What a call leaves that returns bytes in new memory and an error's number. -/
def FreshE (w : World) (xs : List UInt8) (code : Int) (e : Ending) (w' : World) : Prop :=
  ∃ v', e = .returned (.tuple #[v', .int .i64 code]) ∧ w'.ownsRow w.heap.size 5 1 v' xs.length (xs.map by8) ∧ Below w.heap.size w w'

theorem shr_ne (n k : Nat) : ((n : Int) / 2 ^ (8 * k) != 0) = decide (256 ^ k ≤ n) := by
  have e : (2 : Int) ^ (8 * k) = ((256 ^ k : Nat) : Int) := by rw [Int.pow_mul]; norm_cast
  rw [e, Bool.eq_iff_iff, bne_iff_ne, decide_eq_true_eq, ← Int.natCast_ediv, ne_eq, Int.natCast_eq_zero, Nat.div_eq_zero_iff]
  have : 0 < 256 ^ k := Nat.pow_pos (by decide)
  omega

set_option maxRecDepth 20000 in
set_option maxHeartbeats 400000 in
theorem putUint_any (v : Value) (xs : List UInt8) (n : Nat) (s : Int) (w : World) (hv : Bs w v xs) (hl : xs.length ≤ 140737488355328) (hn : n < 18446744073709551616)
    (hs : -9223372036854775808 ≤ s ∧ s ≤ 9223372036854775807) :
    Calls Tryd.prog 45 #[v, .int .u64 (n : Int), .int .i64 s] w (FreshE w (putR xs n s) (putE xs.length n s)) := by
  obtain ⟨a, c, rfl, hc1, hc2⟩ := Sl.shape hv
  have HV := Lib.hid hv; clear hv
  by_cases h1 : s < 1
  · have he : putE xs.length n s = 2 := by simp [putE, h1]
    have hr : putR xs n s = [] := by simp [putR, he]
    rw [he, hr]; clear he hr
    go_enter Tryd.func45, Tryd.ntmps45
    go_wp2_with fail
    go_ret2
    exact ⟨_, rfl, World.ownsRow_nil _ _ _ _, Below.refl _ _⟩
  · by_cases h2 : 8 < s
    · have he : putE xs.length n s = 2 := by simp [putE, h2]
      have hr : putR xs n s = [] := by simp [putR, he]
      rw [he, hr]; clear he hr
      go_enter Tryd.func45, Tryd.ntmps45
      go_wp2_with fail
      go_ret2
      exact ⟨_, rfl, World.ownsRow_nil _ _ _ _, Below.refl _ _⟩
    · obtain ⟨k, rfl⟩ := Int.eq_ofNat_of_zero_le (show 0 ≤ s by omega)
      by_cases hq : 256 ^ k ≤ n
      · have h8 : (k : Int) < 8 := by
          rcases Nat.lt_or_ge k 8 with h | h
          · omega
          · have := Nat.pow_le_pow_right (show 0 < 256 by decide) h
            omega
        have he : putE xs.length n k = 2 := by simp [putE, hq]
        have hr : putR xs n k = [] := by simp [putR, he]
        have ht : ((n : Int) / 2 ^ (8 * k) != 0) = true := by rw [shr_ne]; simpa using hq
        rw [he, hr]; clear he hr hq hn
        go_enter Tryd.func45, Tryd.ntmps45
        go_wp2_with fail
        go_ret2
        exact ⟨_, rfl, World.ownsRow_nil _ _ _ _, Below.refl _ _⟩
      · have ht : ((n : Int) / 2 ^ (8 * k) != 0) = false := by rw [shr_ne]; simpa using hq
        have hE : putE xs.length n k = if 8192 < (xs.length : Int) + k then 4 else 0 := by
          unfold putE; rw [if_neg (by simp; omega)]
        by_cases h4 : 8192 < (xs.length : Int) + k
        · have he : putE xs.length n k = 4 := by rw [hE, if_pos h4]
          have hr : putR xs n k = [] := by simp [putR, he]
          rw [he, hr]; clear he hr hE hq hn
          by_cases h8 : (k : Int) < 8
          all_goals
            go_enter Tryd.func45, Tryd.ntmps45
            go_wp2_with fail
            go_ret2
            exact ⟨_, rfl, World.ownsRow_nil _ _ _ _, Below.refl _ _⟩
        · have he : putE xs.length n k = 0 := by rw [hE, if_neg h4]
          have hr : putR xs n k = xs ++ numB n k := by simp [putR, he]
          rw [he, hr]; clear he hr hE hq hn
          by_cases h8 : (k : Int) < 8
          all_goals
            go_enter Tryd.func45, Tryd.ntmps45
            go_wp2_with (first | (go_at_call 69; refine (clone_any _ xs _ HV.out (by omega)).mono ?_; rintro e w1 ⟨v1, rfl, ho, hb⟩; have HO := Lib.hid ho; have HB := Lib.hid hb; clear ho hb) | (go_at_call 68; refine (put_any w.heap.size _ xs n k _ HO.out HB.out.size (by omega) (by omega)).mono ?_; rintro e w2 ⟨v2, rfl, ho2, hg2⟩; have HO2 := Lib.hid ho2; have HG2 := Lib.hid hg2; clear ho2 hg2))
            go_ret2
            exact ⟨_, rfl, HO2.out, HB.out.trans (HG2.out.belowOwn HO.out (Nat.le_refl _) HB.out.size)⟩

/-- The error of n bytes at an index. -/
def takeE (len : Nat) (at' n : Int) : Int := if at' < 0 ∨ (len : Int) < at' ∨ n < 0 then 2 else if (len : Int) - at' < n then 10 else 0

/-- n bytes at an index. -/
def takeR (xs : List UInt8) (at' n : Int) : List UInt8 := if takeE xs.length at' n = 0 then (xs.drop at'.toNat).take n.toNat else []

/-- The index behind n bytes at an index. -/
def takeN (len : Nat) (at' n : Int) : Int := if takeE len at' n = 0 then at' + n else 0

/-- TakeUint's number, its index and its error. -/
def tuV (xs : List UInt8) (p s : Int) : Nat := if s < 1 ∨ 8 < s then 0 else val (takeR xs p s)
def tuN (len : Nat) (p s : Int) : Int := if s < 1 ∨ 8 < s then 0 else takeN len p s
def tuE (len : Nat) (p s : Int) : Int := if s < 1 ∨ 8 < s then 2 else takeE len p s

/-- What a call leaves that returns bytes in new memory, an index and an error's number. -/
def FreshNE (w : World) (xs : List UInt8) (next code : Int) (e : Ending) (w' : World) : Prop :=
  ∃ v', e = .returned (.tuple #[v', .int .i64 next, .int .i64 code]) ∧ w'.ownsRow w.heap.size 5 1 v' xs.length (xs.map by8) ∧ Below w.heap.size w w'

set_option maxRecDepth 20000 in
set_option maxHeartbeats 400000 in
theorem takeBytes_any (v : Value) (xs : List UInt8) (p n : Int) (w : World) (hv : Bs w v xs) (hl : xs.length ≤ 140737488355328)
    (hp : -9223372036854775808 ≤ p ∧ p ≤ 9223372036854775807) (hn : -9223372036854775808 ≤ n ∧ n ≤ 9223372036854775807) :
    Calls Tryd.prog 71 #[v, .int .i64 p, .int .i64 n] w (FreshNE w (takeR xs p n) (takeN xs.length p n) (takeE xs.length p n)) := by
  obtain ⟨a, c, rfl, hc1, hc2⟩ := Sl.shape hv
  by_cases h1 : p < 0 ∨ (xs.length : Int) < p ∨ n < 0
  · have he : takeE xs.length p n = 2 := by simp [takeE, h1]
    have hr : takeR xs p n = [] := by simp [takeR, he]
    have hN : takeN xs.length p n = 0 := by simp [takeN, he]
    rw [he, hr, hN]; clear he hr hN
    have HV := Lib.hid hv; clear hv
    have k1 : p < 0 ∨ (0 ≤ p ∧ (xs.length : Int) < p) ∨ (0 ≤ p ∧ p ≤ (xs.length : Int) ∧ n < 0) := by omega
    clear h1
    rcases k1 with k1 | ⟨k1, k2⟩ | ⟨k1, k2, k3⟩
    all_goals
      go_enter Tryd.func71, Tryd.ntmps71
      go_wp2_with fail
      go_ret3
      exact ⟨_, rfl, World.ownsRow_nil _ _ _ _, Below.refl _ _⟩
  · obtain ⟨k, rfl⟩ := Int.eq_ofNat_of_zero_le (show 0 ≤ p by omega)
    obtain ⟨m, rfl⟩ := Int.eq_ofNat_of_zero_le (show 0 ≤ n by omega)
    have hE : takeE xs.length k m = if (xs.length : Int) - k < m then 10 else 0 := by unfold takeE; rw [if_neg h1]
    by_cases h2 : (xs.length : Int) - k < m
    · have he : takeE xs.length k m = 10 := by rw [hE, if_pos h2]
      have hr : takeR xs k m = [] := by simp [takeR, he]
      have hN : takeN xs.length k m = 0 := by simp [takeN, he]
      rw [he, hr, hN]; clear he hr hN hE
      have HV := Lib.hid hv; clear hv
      have k1 : (k : Int) ≤ xs.length := by omega
      clear h1
      go_enter Tryd.func71, Tryd.ntmps71
      go_wp2_with fail
      go_ret3
      exact ⟨_, rfl, World.ownsRow_nil _ _ _ _, Below.refl _ _⟩
    · have he : takeE xs.length k m = 0 := by rw [hE, if_neg h2]
      have hr : takeR xs k m = (xs.drop k).take m := by simp [takeR, he]
      have hN : takeN xs.length k m = k + m := by simp [takeN, he]
      rw [he, hr, hN]; clear he hr hN hE
      have k1 : (k : Int) + m ≤ xs.length := by omega
      obtain ⟨a', hif, hp⟩ := Sl.part hv k m (by omega)
      simp only [Nat.mul_one] at hif hp
      have hp' : Bs w (.slice a' m (c - k)) ((xs.drop k).take m) := by
        have e1 : ((xs.drop k).take m).length = m := by simp; omega
        unfold Bs
        rw [e1, List.map_take, List.map_drop]
        exact hp
      have HV := Lib.hid hp'; clear hv hp hp' h1
      have hll : ((xs.drop k).take m).length ≤ 140737488355328 := by simp; omega
      have HL := Lib.hid hll; clear hll
      go_enter Tryd.func71, Tryd.ntmps71
      go_wp2_with (go_at_call 69; refine (clone_any _ _ _ HV.out HL.out).mono ?_; rintro e w1 ⟨v1, rfl, ho, hb⟩; have HO := Lib.hid ho; have HB := Lib.hid hb; clear ho hb)
      go_ret3
      exact ⟨_, rfl, HO.out, HB.out⟩

set_option maxRecDepth 20000 in
set_option maxHeartbeats 400000 in
theorem takeUint_any (v : Value) (xs : List UInt8) (p s : Int) (w : World) (hv : Bs w v xs) (hl : xs.length ≤ 140737488355328)
    (hp : -9223372036854775808 ≤ p ∧ p ≤ 9223372036854775807) (hs : -9223372036854775808 ≤ s ∧ s ≤ 9223372036854775807) :
    Calls Tryd.prog 47 #[v, .int .i64 p, .int .i64 s] w fun e w' =>
      e = .returned (.tuple #[.int .u64 (tuV xs p s : Nat), .int .i64 (tuN xs.length p s), .int .i64 (tuE xs.length p s)]) ∧ Below w.heap.size w w' := by
  by_cases h1 : s < 1 ∨ 8 < s
  · have e1 : tuV xs p s = 0 := if_pos h1
    have e2 : tuN xs.length p s = 0 := if_pos h1
    have e3 : tuE xs.length p s = 2 := if_pos h1
    rw [e1, e2, e3]; clear e1 e2 e3
    rcases h1 with h1 | h1
    all_goals
      clear hv
      go_enter Tryd.func47, Tryd.ntmps47
      go_wp2_with fail
      go_ret3
      exact ⟨rfl, Below.refl _ _⟩
  · have e1 : tuV xs p s = val (takeR xs p s) := if_neg h1
    have e2 : tuN xs.length p s = takeN xs.length p s := if_neg h1
    have e3 : tuE xs.length p s = takeE xs.length p s := if_neg h1
    rw [e1, e2, e3]; clear e1 e2 e3
    have HV := Lib.hid hv; clear hv
    have h2 : 1 ≤ s ∧ s ≤ 8 := by omega
    obtain ⟨h3, h4⟩ := h2
    clear h1
    have hlen : (takeR xs p s).length ≤ 8 := by
      unfold takeR; split
      · simp; omega
      · simp
    have HL := Lib.hid hlen; clear hlen
    go_enter Tryd.func47, Tryd.ntmps47
    go_wp2_with (first | (go_at_call 71; refine (takeBytes_any _ xs p s _ HV.out hl hp hs).mono ?_; rintro e w1 ⟨v1, rfl, ho, hb⟩; have HO := Lib.hid ho; have HB := Lib.hid hb; clear ho hb) | (go_at_call 72; refine (take_any _ (takeR xs p s) _ (Sl.of_own HO.out) HL.out).mono ?_; rintro e w2 ⟨rfl, rfl⟩))
    go_ret3
    exact ⟨rfl, HB.out⟩
end Go.Proofs.YtioonimpobcglaaDoor
