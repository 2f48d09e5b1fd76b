/- Numbers that are put and taken without an error. Conditions: those that are named. -/
import Derived.Test.YtioonimpobcglaaDoorDigC
set_option linter.unusedSimpArgs false
set_option linter.unusedVariables false
namespace Go.Proofs.YtioonimpobcglaaDoor
open Go.RowKit

theorem val_foldl (ys : List UInt8) : ∀ n : Nat, ys.foldl (fun n c => 256 * n + c.toNat) n = n * 256 ^ ys.length + val ys := by
  induction ys with
  | nil => intro n; simp [val]
  | cons c ys ih =>
    intro n
    have h1 := ih (256 * n + c.toNat)
    have h2 := ih c.toNat
    simp only [List.foldl_cons, List.length_cons, val, Nat.mul_zero, Nat.zero_add] at h1 h2 ⊢
    rw [h1, h2, Nat.pow_succ, Nat.add_mul]
    have : 256 * n * 256 ^ ys.length = n * (256 ^ ys.length * 256) := by rw [Nat.mul_comm 256 n, Nat.mul_assoc, Nat.mul_comm 256]
    omega
theorem val_cons (c : UInt8) (ys : List UInt8) : val (c :: ys) = c.toNat * 256 ^ ys.length + val ys := by
  have := val_foldl ys c.toNat
  simpa [val] using this
theorem val_numB (n s : Nat) : val (numB n s) = n % 256 ^ s := by
  induction s with
  | zero => simp [numB, val, Nat.mod_one]
  | succ s ih =>
    show val (UInt8.ofNat (n / 256 ^ s) :: numB n s) = _
    rw [val_cons, ih, numB_length, UInt8.toNat_ofNat']
    have h := Nat.mod_mul (x := n) (a := 256 ^ s) (b := 256)
    have h2 : 256 ^ (s + 1) = 256 ^ s * 256 := Nat.pow_succ ..
    rw [h2, h, Nat.mul_comm (256 ^ s) (n / 256 ^ s % 256), show (2 : Nat) ^ 8 = 256 from rfl]
    exact Nat.add_comm _ _

theorem put_go (v : Value) (xs : List UInt8) (n s : Nat) (ni si : Int) (hni : ni = (n : Int)) (hsi : si = (s : Int)) (w : World) (hv : Bs w v xs) (h1 : 1 ≤ s) (h8 : s ≤ 8) (hn : n < 256 ^ s) (hl : xs.length + s ≤ 8192) :
    Calls Tryd.prog 45 #[v, .int .u64 ni, .int .i64 si] w (MadeE w (xs ++ numB n s) 0) := by
  subst hsi
  have h64 : n < 18446744073709551616 := Nat.lt_of_lt_of_le hn (Nat.le_trans (Nat.pow_le_pow_right (by decide) h8) (by decide))
  have := putUint_s v xs n ni s hni w hv (by omega) h64 (by omega)
  have e : putE xs.length n s = 0 := by
    unfold putE
    rw [if_neg (by rw [Int.toNat_natCast]; omega), if_neg (by omega)]
  have e2 : putR xs n s = xs ++ numB n s := by unfold putR; rw [if_pos e, Int.toNat_natCast]
  rwa [e, e2] at this

theorem takeU_go (v : Value) (A B : List UInt8) (n s : Nat) (pi si : Int) (hpi : pi = (A.length : Int)) (hsi : si = (s : Int)) (w : World) (hv : Bs w v (A ++ numB n s ++ B)) (h1 : 1 ≤ s) (h8 : s ≤ 8) (hn : n < 256 ^ s) (hl : (A ++ numB n s ++ B).length ≤ 8192) :
    Calls Tryd.prog 47 #[v, .int .i64 pi, .int .i64 si] w fun e w' => e = .returned (.tuple #[.int .u64 (n : Int), .int .i64 ((A.length + s : Nat) : Int), .int .i64 0]) ∧ Has w w' [] := by
  subst hpi
  subst hsi
  have hle : A.length + s + B.length = (A ++ numB n s ++ B).length := by simp [numB_length]; omega
  have := takeUint_s v _ A.length s w hv (by omega) (by omega) (by omega)
  have e1 : takeE (A ++ numB n s ++ B).length A.length s = 0 := by
    unfold takeE
    rw [if_neg (by omega), if_neg (by omega)]
  have e2 : tuE (A ++ numB n s ++ B).length A.length s = 0 := by unfold tuE; rw [if_neg (by omega), e1]
  have e3 : tuN (A ++ numB n s ++ B).length A.length s = ((A.length + s : Nat) : Int) := by unfold tuN takeN; rw [if_neg (by omega), if_pos e1]; omega
  have e4 : tuV (A ++ numB n s ++ B) A.length s = n := by
    unfold tuV takeR
    rw [if_neg (by omega), if_pos e1, Int.toNat_natCast, Int.toNat_natCast, List.append_assoc, List.drop_left, List.take_left' (numB_length n s), val_numB, Nat.mod_eq_of_lt hn]
  rwa [e2, e3, e4] at this

theorem takeU_short (v : Value) (Z : List UInt8) (p s : Nat) (pi si : Int) (hpi : pi = (p : Int)) (hsi : si = (s : Int)) (w : World) (hv : Bs w v Z) (h1 : 1 ≤ s) (h8 : s ≤ 8) (hp : p ≤ Z.length) (hlt : Z.length < p + s) (hl : Z.length ≤ 8192) :
    Calls Tryd.prog 47 #[v, .int .i64 pi, .int .i64 si] w fun e w' => e = .returned (.tuple #[.int .u64 ((tuV Z p s : Nat) : Int), .int .i64 (tuN Z.length p s), .int .i64 10]) ∧ Has w w' [] := by
  subst hpi
  subst hsi
  have := takeUint_s v Z p s w hv (by omega) (by omega) (by omega)
  have e2 : tuE Z.length p s = 10 := by unfold tuE takeE; rw [if_neg (by omega), if_neg (by omega), if_pos (by omega)]
  rwa [e2] at this

theorem number_s (n s : Nat) (ni si : Int) (hni : ni = (n : Int)) (hsi : si = (s : Int)) (w : World) (hn : n < 18446744073709551616) (hs : s ≤ 8) :
    Calls Tryd.prog 70 #[.int .u64 ni, .int .i64 si] w (MadeB w (numB n s)) := by
  subst hni
  subst hsi
  exact (number_any n s w hn hs).mono fun _ _ h => by
    obtain ⟨v, he, ho, hb⟩ := h
    exact ⟨v, he, Has.of_row8 hb ho⟩

theorem valRef_s (v : Value) (xs : List UInt8) (w : World) (hv : Bs w v xs) (h8 : xs.length ≤ 8) :
    Calls Tryd.prog 48 #[v] w fun e w' => e = .returned (.int .u64 (val xs : Nat)) ∧ Has w w' [] :=
  (value_any v xs w hv h8).mono fun _ _ h => ⟨h.1, by rw [← h.2]; exact Has.start w⟩
end Go.Proofs.YtioonimpobcglaaDoor
