/- Words as values (U32), kept closed in the walk: what the operations on them give. No condition. -/
import Derived.Test.YtioonimpobcglaaDoorSha
import Derived.Laws.BitsAllLaws
import Derived.Laws.DeepBits32
set_option linter.unusedSimpArgs false
set_option linter.unusedVariables false
namespace Go.Proofs.YtioonimpobcglaaDoor
open Go.RowKit

theorem wrap32u (n : Int) : IntKind.u32.wrap n = n % 4294967296 := IntKind.wrap_u32' n

theorem u32_lt (x : UInt32) : x.toNat < 4294967296 := x.toNat_lt

@[go_sem] theorem U32_guard (op : BinOp) (t : TypeId) (x y : Operand) (a : UInt32) (v : Value) : eqGuard op t x y (U32 a) v = pure () := by unfold U32; cases op <;> rfl

@[go_sem] theorem U32_add (t : TypeId) (x y : UInt32) : binOp .add t (U32 x) (U32 y) = pure (U32 (x + y)) := by
  unfold U32
  have h : ((x.toNat : Int) + (y.toNat : Int)) % 4294967296 = ((x + y).toNat : Int) := by rw [UInt32.toNat_add]; omega
  rw [binOp_add]
  simp only [Op.intArith, wrap32u, h]

@[go_sem] theorem U32_and (t : TypeId) (x y : UInt32) : binOp .and t (U32 x) (U32 y) = pure (U32 (x &&& y)) := by
  unfold U32
  rw [binOp_and, intBits_and, u32_and_nat _ _ (u32_lt x) (u32_lt y), UInt32.toNat_and]

@[go_sem] theorem U32_xor (t : TypeId) (x y : UInt32) : binOp .xor t (U32 x) (U32 y) = pure (U32 (x ^^^ y)) := by
  unfold U32
  rw [binOp_xor, intBits_xor, u32_xor_nat _ _ (u32_lt x) (u32_lt y), UInt32.toNat_xor]

@[go_sem] theorem U32_shr3 (t : TypeId) (x : UInt32) : binOp .shr t (U32 x) (.int .u64 3) = pure (U32 (x >>> 3)) := by
  unfold U32
  rw [binOp_shr, shift_shr _ _ _ _ (by decide) (by decide), UInt32.toNat_shiftRight, Nat.shiftRight_eq_div_pow]
  rfl

@[go_sem] theorem U32_shr10 (t : TypeId) (x : UInt32) : binOp .shr t (U32 x) (.int .u64 10) = pure (U32 (x >>> 10)) := by
  unfold U32
  rw [binOp_shr, shift_shr _ _ _ _ (by decide) (by decide), UInt32.toNat_shiftRight, Nat.shiftRight_eq_div_pow]
  rfl

theorem not_nat (x : UInt32) : (4294967295 ^^^ x.toNat : Nat) = (~~~x).toNat := by
  have h : (~~~x).toNat = (BitVec.allOnes 32 ^^^ x.toBitVec).toNat := by rw [BitVec.allOnes_xor]; rfl
  rw [h, BitVec.toNat_xor]
  rfl

@[go_sem] theorem U32_not (x : UInt32) : Op.unary .xor (U32 x) = pure (U32 (~~~x)) := by
  unfold U32
  have h := u32_xor_nat 4294967295 x.toNat (by decide) (u32_lt x)
  rw [not_nat] at h
  rw [← h]
  rfl

@[go_sem high] theorem U32_store {P : Program} (w : World) (a : Addr) (m : Mode) (x : UInt32) : (store a (U32 x) m).run P w = stored P w a (U32 x) m := run_store_int _ _ _ _ _ _

@[go_sem] theorem U32_mul (t : TypeId) (x y : UInt32) : binOp .mul t (U32 x) (U32 y) = pure (U32 (x * y)) := by
  unfold U32
  have h : ((x.toNat : Int) * (y.toNat : Int)) % 4294967296 = ((x * y).toNat : Int) := by rw [UInt32.toNat_mul, Int.natCast_emod, Int.natCast_mul]; rfl
  rw [binOp_mul]
  simp only [Op.intArith, wrap32u, h]

@[go_sem] theorem U32_quo (t : TypeId) (x y : UInt32) (hy : y.toNat ≠ 0) : binOp .quo t (U32 x) (U32 y) = pure (U32 (x / y)) := by
  unfold U32
  have hy' : (y.toNat : Int) ≠ 0 := by omega
  have hx := u32_lt x
  have hq : (x.toNat : Int) / (y.toNat : Int) = ((x / y).toNat : Int) := by rw [UInt32.toNat_div]; norm_cast
  have hle : (x / y).toNat < 4294967296 := u32_lt _
  rw [binOp_quo]
  simp only [Op.intDiv, hy', if_false, wrap32u, Int.tdiv_eq_ediv_of_nonneg (Int.natCast_nonneg _), hq]
  congr 2
  omega

@[go_sem] theorem U32_rem (t : TypeId) (x y : UInt32) (hy : y.toNat ≠ 0) : binOp .rem t (U32 x) (U32 y) = pure (U32 (x % y)) := by
  unfold U32
  have hy' : (y.toNat : Int) ≠ 0 := by omega
  have hq : (x.toNat : Int) % (y.toNat : Int) = ((x % y).toNat : Int) := by rw [UInt32.toNat_mod]; norm_cast
  have hle : (x % y).toNat < 4294967296 := u32_lt _
  rw [binOp_rem]
  simp only [Op.intDiv, hy', if_false, wrap32u, Int.tmod_eq_emod_of_nonneg (Int.natCast_nonneg _), hq]

theorem ret_U32 {a b : UInt32} (h : a = b) : Ending.returned (U32 a) = .returned (U32 b) := by rw [h]

@[go_sem] theorem U32_one (x : UInt32) : (U32 x).oneCell' = true := rfl
@[go_sem ↓] theorem U32_cells (x : UInt32) : (U32 x).cells = #[U32 x] := rfl

@[go_sem] theorem U32_match (x : UInt32) : Value.cells.match_1 (fun _ => Array Value) (U32 x) (fun cs => cs) (fun v => #[v]) = #[U32 x] := rfl

theorem andThen_unit (r : Result Unit) : (r.andThen fun _ w => (Result.ok () w : Result Unit)) = r := by cases r <;> rfl

@[go_sem high] theorem U32_storeCells {P : Program} (w : World) (a : Addr) (x : UInt32) : (storeCells a [U32 x]).run P w = stored P w a (U32 x) .plain := by
  rw [← U32_store (P := P) w a .plain x, ← andThen_unit ((store a (U32 x) .plain).run P w)]
  simp only [storeCells, Sem.run_bind, show a.add 0 = a by simp [Addr.add], Sem.run_pure]
end Go.Proofs.YtioonimpobcglaaDoor
