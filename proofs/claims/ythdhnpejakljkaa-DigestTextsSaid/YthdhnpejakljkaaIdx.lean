/- The place of a byte among the sixteen digits: strings.IndexByte and the specification's digit. No condition. -/
import Derived.Test.YthdhnpejakljkaaPut
import Derived.Lib.Bytealg
import Derived.Laws.Externs
namespace Go.Proofs.Ythdhnpejakljkaa
open Go.RowKit

/-- A digit's byte. -/
def dig (k : Nat) : UInt8 := [48, 49, 50, 51, 52, 53, 54, 55, 56, 57, 97, 98, 99, 100, 101, 102].getD k 0

/-- The place of a byte among the digits, or -1. -/
def digV (c : UInt8) : Int := Lib.indexByte [48, 49, 50, 51, 52, 53, 54, 55, 56, 57, 97, 98, 99, 100, 101, 102] c

/-- The same, with 16 for -1. -/
def digN (c : UInt8) : Int := if digV c < 0 then 16 else digV c

theorem all_u8 (p : UInt8 → Prop) [∀ c, Decidable (p c)] (h : ∀ n : Fin 256, p (UInt8.ofNat n.val)) (c : UInt8) : p c := by
  have := h ⟨c.toNat, c.toNat_lt⟩
  simpa using this

set_option maxRecDepth 100000 in
theorem digV_bounds (c : UInt8) : -1 ≤ digV c ∧ digV c ≤ 15 := all_u8 (fun c => -1 ≤ digV c ∧ digV c ≤ 15) (by decide +kernel) c

theorem digN_bounds (c : UInt8) : 0 ≤ digN c ∧ digN c ≤ 16 := by
  have := digV_bounds c
  unfold digN; split <;> omega

theorem digN_dig (k : Nat) (hk : k < 16) : digN (dig k) = (k : Int) := by
  have : ∀ k : Fin 16, digN (dig k.val) = (k.val : Int) := by decide +kernel
  exact this ⟨k, hk⟩

set_option maxRecDepth 100000 in
theorem digN_out (c : UInt8) (h : ∀ j, j < 16 → dig j ≠ c) : digN c = 16 := by
  have := all_u8 (fun c => (∀ j : Fin 16, dig j.val ≠ c) → digN c = 16) (by decide +kernel) c
  exact this fun j => h j.val j.isLt

theorem indexByte_any (c : UInt8) (w : World) :
    Calls Try.prog 16 #[.string { data := #[48, 49, 50, 51, 52, 53, 54, 55, 56, 57, 97, 98, 99, 100, 101, 102] }, .int .u8 (c.toNat : Int)] w fun e w' => e = .returned (.int .i64 (digV c)) ∧ w' = w := by
  have hx : ∀ w, (callFunc 26 #[.string { data := #[48, 49, 50, 51, 52, 53, 54, 55, 56, 57, 97, 98, 99, 100, 101, 102] }, .int .u8 (c.toNat : Int)]).run Try.prog w = .ok (.value (.int .i64 (digV c))) w := fun w => by
    rw [run_callFunc_extern Try.func26 (by kernel_rfl) (by kernel_rfl) (by kernel_rfl) (e := Extern.BytealgIndexByte.indexByte) (by kernel_rfl), Lib.run_indexByteString]
    simp [Result.andThen, digV]
  go_enter Try.func16, Try.ntmps16
  go_wp2
  go_ret
  exact ⟨rfl, rfl⟩

theorem dig_at64 (k : Nat) (hk : k < 16) (w : World) :
    (Instr.index 9 (.string { data := #[48, 49, 50, 51, 52, 53, 54, 55, 56, 57, 97, 98, 99, 100, 101, 102] }) (.int .i64 (k : Int))).run Try.prog w = .ok (.int .u8 ((dig k).toNat : Int)) w := by
  rcases (by omega : k = 0 ∨ k = 1 ∨ k = 2 ∨ k = 3 ∨ k = 4 ∨ k = 5 ∨ k = 6 ∨ k = 7 ∨ k = 8 ∨ k = 9 ∨ k = 10 ∨ k = 11 ∨ k = 12 ∨ k = 13 ∨ k = 14 ∨ k = 15) with rfl | rfl | rfl | rfl | rfl | rfl | rfl | rfl | rfl | rfl | rfl | rfl | rfl | rfl | rfl | rfl
  all_goals kernel_rfl

set_option maxHeartbeats 400000 in
theorem digit_any (c : UInt8) (w : World) :
    Calls Try.prog 25 #[.int .u8 (c.toNat : Int)] w fun e w' => e = .returned (.int .i64 (digN c)) ∧ w' = w := by
  go_enter Try.func25, Try.ntmps25
  go_wp2
  go_loop [3] (fun i => ∃ k : Nat, k ≤ 16 ∧ i = .int .i64 (k : Int) ∧ ∀ j, j < k → dig j ≠ c) (fun i => 16 - (intOf i).toNat)
  case atStart => exact ⟨0, by omega, rfl, fun j h => by omega⟩
  case round =>
    obtain ⟨k, hk, rfl, hne⟩ := hrel
    have HN := Lib.hid hne; clear hne
    by_cases hlt : k < 16
    · have hi := dig_at64 k hlt w
      by_cases hd : dig k = c
      · have HD := Lib.hid hd
        have ht : (((dig k).toNat : Int) == (c.toNat : Int)) = true := by rw [hd]; simp
        clear hd
        go_wp2
        go_ret
        exact ⟨ret_int (by rw [← HD.out, digN_dig k hlt]), rfl⟩
      · have HD := Lib.hid hd
        have ht : (((dig k).toNat : Int) == (c.toNat : Int)) = false := by
          rw [beq_eq_false_iff_ne]
          intro h
          exact hd (UInt8.toNat_inj.1 (by omega))
        clear hd
        go_wp2
        go_round
        case rel => exact ⟨k + 1, by omega, by go_num, fun j hj => by
          by_cases h : j = k
          · subst h; exact HD.out
          · exact HN.out j (by omega)⟩
        case measure => simp [intOf]; omega
    · obtain rfl : k = 16 := by omega
      go_wp2
      go_ret
      exact ⟨ret_int (digN_out c HN.out).symm, rfl⟩
end Go.Proofs.Ythdhnpejakljkaa
