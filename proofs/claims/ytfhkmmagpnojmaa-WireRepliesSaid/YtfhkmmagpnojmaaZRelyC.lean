/- A region that draws its order: an operation whose guard is shut; one that calls a function that may panic. No condition. -/
import Derived.Test.YtfhkmmagpnojmaaZBg
set_option linter.unusedSimpArgs false
set_option linter.unusedVariables false
namespace Go.Proofs.Ytfhkmmagpnojmaa
open Go.RowKit

theorem step_of_x {P : Program} {ops : Array Oper} {sp : List RSpec} {w0 : World} {l : List Res} {A : (Nat → Value) → Act} {i : Nat} {o : Oper} {deps eats keeps : List Nat} {val : (Nat → Value) → Value → Prop} {res : (Nat → Value) → Value → List Res}
    (hs : spec sp i = ⟨deps, eats, keeps, val, res⟩) (ho : ops[i]? = some o)
    (h : ∀ (u : Nat → Value) (G : List Res) (w : World), (∀ j ∈ deps, (spec sp j).valAt u j) → Has w0 w (resOf sp u eats ++ (resOf sp u keeps ++ (l ++ G))) →
      Region.wanted o (yielded ops (A u).tmps) = false ∧ (val (mask deps u) undef ∧ Has w0 w (res (mask deps u) undef ++ (resOf sp u keeps ++ (l ++ G))))) : StepOK P ops sp w0 l A i := by
  unfold StepOK StepOK2
  rw [ho, hs]
  intro u G w hf S
  obtain ⟨h1, h2⟩ := h u G w hf S
  dsimp only
  rw [if_neg (by rw [h1]; decide)]
  exact h2
theorem doesB_fn {P : Program} {Bad : List PanicEntry → World → Prop} {a : Act} {w : World} {dst : Option Tmp} {ty : TypeId} {pos : String} {after : Array Edge} {guard : Option (Nat × Bool)} {f : FuncId} {fn : Func} {xs : List Operand} {ts : Array TypeId} {args : List Value} {R : Ending → World → Prop} {Post : Value → World → Prop}
    (hf : P.funcs[f]? = some fn) (hn : (fn.name == "runtime.NumGoroutine") = false) (hb : fn.body.isNone = false) (hc : Calls P f args.toArray w R) (hx : xs.map a.eval = args)
    (h : ∀ e w'', R e w'' → (∃ v, e = .returned v ∧ Post v w'') ∨ ∃ c, e = .panicked c ∧ Bad c w'') : doesB P Bad a.eval ⟨dst, .call { callee := .value (.func f), args := xs.toArray, argTypes := ts }, ty, pos, after, guard⟩ w Post :=
  doesB_call (run_fn hf hn hb hx) hc h
end Go.Proofs.Ytfhkmmagpnojmaa
