/- Function values that a call makes: closures, structs that hold them, slices of such structs, and the call of one. No condition. -/
import Derived.Test.YtfhkmmagpnojmaaZBd
set_option linter.unusedSimpArgs false
set_option linter.unusedVariables false
namespace Go.Proofs.Ytfhkmmagpnojmaa
open Go.RowKit

section
variable {P : Program} {ops : Array Oper} {rest : List Oper} {a : Act} {w0 w : World} {l F : List Res} {Q : Exit → Act → World → Prop} {dst : Option Tmp} {ty : TypeId} {pos : String} {after : Array Edge} {gd : Option (Nat × Bool)} {Post : Value → World → Prop}

/-- A closure is made. -/
theorem step_makeF (f : FuncId) (xs : List Operand) (vs : List Value) (hx : xs.map a.eval = vs)
    (hw : Region.wanted ⟨dst, .makeFunc (.func f) #[] xs.toArray, ty, pos, after, gd⟩ (yielded ops a.tmps) = true)
    (h : wpList P ops Q rest (a.put dst (.func (.func f) #[] vs.toArray)) w) : wpList P ops Q (⟨dst, .makeFunc (.func f) #[] xs.toArray, ty, pos, after, gd⟩ :: rest) a w := by
  subst hx
  refine step_val (v := .func (.func f) #[] (xs.map a.eval).toArray) hw ?_ h
  simp [execOp, Instr.makeFunc, Result.andThen]
end

end Go.Proofs.Ytfhkmmagpnojmaa
