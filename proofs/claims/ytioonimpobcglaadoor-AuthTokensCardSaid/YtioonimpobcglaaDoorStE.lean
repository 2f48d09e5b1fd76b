/- Equality of structs, field by field. No condition. -/
import Derived.Test.YtioonimpobcglaaDoorStR
import Derived.Laws.StructEq
set_option linter.unusedSimpArgs false
set_option linter.unusedVariables false
namespace Go.Proofs.YtioonimpobcglaaDoor
open Go.RowKit

section
variable {P : Program}

theorem run_part1 (w : World) (t : TypeId) (cs : Array Value) (off : Nat) (v : Value) (d : TypeDesc) (hu : P.underlying t = some d) (hd : (match d with | .struct _ | .array _ _ => false | _ => true) = true) (hv : cs[off]? = some v) : (part t cs off).run P w = .ok v w := by
  have hagg : (isAgg t).run P w = .ok false w := by
    unfold isAgg
    rw [Sem.run_bind, run_underlying hu w]
    cases d <;> simp_all
  simp [part, hagg, hv]

theorem run_partA (w : World) (t : TypeId) (cs : Array Value) (off n : Nat) (sub : Array Value) (d : TypeDesc) (hu : P.underlying t = some d) (hd : (match d with | .struct _ | .array _ _ => true | _ => false) = true) (hs : (P.info? t).map (·.size) = some n) (hc : cs.extract off (off + n) = sub) : (part t cs off).run P w = .ok (.agg sub) w := by
  have hagg : (isAgg t).run P w = .ok true w := by
    unfold isAgg
    rw [Sem.run_bind, run_underlying hu w]
    cases d <;> simp_all
  cases hq : P.info? t with
  | none => simp [hq] at hs
  | some i =>
    have h1 : i.size = n := by simpa [hq] using hs
    simp [part, hagg, sizeOf, typeInfo, hq, h1, hc]

theorem eqFields_step (w : World) (d : Nat) (xs ys : Array Value) (f : Field) (fs : List Field) (hn : (f.name == "_") = false) (a b : Value) (ha : (part f.type xs f.offset).run P w = .ok a w) (hb : (part f.type ys f.offset).run P w = .ok b w)
    (r q : Bool) (hr : (Op.equalIn d f.type a b).run P w = .ok r w) (hq : (Op.eqFields d xs ys fs).run P w = .ok q w) : (Op.eqFields d xs ys (f :: fs)).run P w = .ok (r && q) w := by
  have hn' : f.name ≠ "_" := by simpa using hn
  simp only [Op.eqFields, if_pos hn', Sem.run_bind, ha, hb, hr, Result.andThen_ok]
  cases r
  · simp
  · simp [hq]

theorem eqFields_nil (w : World) (d : Nat) (xs ys : Array Value) : (Op.eqFields d xs ys []).run P w = .ok true w := by simp [Op.eqFields]
end

theorem beqU8 (a b : UInt8) : ((a.toNat : Int) == (b.toNat : Int)) = decide (a = b) := by
  rw [Bool.eq_iff_iff]
  simp only [decide_eq_true_eq, beq_iff_eq, ← UInt8.toNat_inj]
  omega
theorem beqU32 (a b : UInt32) : ((a.toNat : Int) == (b.toNat : Int)) = decide (a = b) := by
  rw [Bool.eq_iff_iff]
  simp only [decide_eq_true_eq, beq_iff_eq, ← UInt32.toNat_inj]
  omega
theorem beqU64 (a b : UInt64) : ((a.toNat : Int) == (b.toNat : Int)) = decide (a = b) := by
  rw [Bool.eq_iff_iff]
  simp only [decide_eq_true_eq, beq_iff_eq, ← UInt64.toNat_inj]
  omega
end Go.Proofs.YtioonimpobcglaaDoor
