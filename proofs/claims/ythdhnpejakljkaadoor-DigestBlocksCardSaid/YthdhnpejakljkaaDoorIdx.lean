/- The place of a byte among the sixteen digits: strings.IndexByte and the specification's digit. No condition. -/
import Derived.Test.YthdhnpejakljkaaDoorPut
import Derived.Lib.Bytealg
import Derived.Laws.Externs
set_option linter.unusedSimpArgs false
set_option linter.unusedVariables false
namespace Go.Proofs.YthdhnpejakljkaaDoor
open Go.RowKit

/-- A digit's byte. -/
def dig (k : Nat) : UInt8 := [48, 49, 50, 51, 52, 53, 54, 55, 56, 57, 97, 98, 99, 100, 101, 102].getD k 0

/-- The place of a byte among the digits, or -1. -/
def digV (c : UInt8) : Int := Lib.indexByte [48, 49, 50, 51, 52, 53, 54, 55, 56, 57, 97, 98, 99, 100, 101, 102] c

/-- The same, with 16 for -1. -/
def digN (c : UInt8) : Int := if digV c < 0 then 16 else digV c

theorem all_u8 (p : UInt8 → Prop) [∀ c, Decidable (p c)] (h : ∀ n : Fin 256, p (UInt8.ofNat n.val)) (c : UInt8) : p c := by
  have := h ⟨c.toNat, c.toNat_lt⟩
  simpa using this

set_option maxRecDepth 100000 in
theorem digV_bounds (c : UInt8) : -1 ≤ digV c ∧ digV c ≤ 15 := all_u8 (fun c => -1 ≤ digV c ∧ digV c ≤ 15) (by decide +kernel) c

theorem digN_bounds (c : UInt8) : 0 ≤ digN c ∧ digN c ≤ 16 := by
  have := digV_bounds c
  unfold digN; split <;> omega

theorem digN_dig (k : Nat) (hk : k < 16) : digN (dig k) = (k : Int) := by
  have : ∀ k : Fin 16, digN (dig k.val) = (k.val : Int) := by decide +kernel
  exact this ⟨k, hk⟩

set_option maxRecDepth 100000 in
theorem digN_out (c : UInt8) (h : ∀ j, j < 16 → dig j ≠ c) : digN c = 16 := by
  have := all_u8 (fun c => (∀ j : Fin 16, dig j.val ≠ c) → digN c = 16) (by decide +kernel) c
  exact this fun j => h j.val j.isLt

theorem indexByte_any (c : UInt8) (w : World) :
    Calls Tryd.prog 58 #[.string { data := #[48, 49, 50, 51, 52, 53, 54, 55, 56, 57, 97, 98, 99, 100, 101, 102] }, .int .u8 (c.toNat : Int)] w fun e w' => e = .returned (.int .i64 (digV c)) ∧ w' = w := by
  have hx : ∀ w, (callFunc 68 #[.string { data := #[48, 49, 50, 51, 52, 53, 54, 55, 56, 57, 97, 98, 99, 100, 101, 102] }, .int .u8 (c.toNat : Int)]).run Tryd.prog w = .ok (.value (.int .i64 (digV c))) w := fun w => by
    rw [run_callFunc_extern Tryd.func68 (by kernel_rfl) (by kernel_rfl) (by kernel_rfl) (e := Extern.BytealgIndexByte.indexByte) (by kernel_rfl), Lib.run_indexByteString]
    simp [Result.andThen, digV]
  go_enter Tryd.func58, Tryd.ntmps58
  go_wp2
  go_ret
  exact ⟨rfl, rfl⟩

theorem dig_at64 (k : Nat) (hk : k < 16) (w : World) :
    (Instr.index 9 (.string { data := #[48, 49, 50, 51, 52, 53, 54, 55, 56, 57, 97, 98, 99, 100, 101, 102] }) (.int .i64 (k : Int))).run Tryd.prog w = .ok (.int .u8 ((dig k).toNat : Int)) w := by
  rcases (by omega : k = 0 ∨ k = 1 ∨ k = 2 ∨ k = 3 ∨ k = 4 ∨ k = 5 ∨ k = 6 ∨ k = 7 ∨ k = 8 ∨ k = 9 ∨ k = 10 ∨ k = 11 ∨ k = 12 ∨ k = 13 ∨ k = 14 ∨ k = 15) with rfl | rfl | rfl | rfl | rfl | rfl | rfl | rfl | rfl | rfl | rfl | rfl | rfl | rfl | rfl | rfl
  all_goals kernel_rfl

end Go.Proofs.YthdhnpejakljkaaDoor
