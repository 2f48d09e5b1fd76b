/- A region that draws its order: an operation whose guard is shut; one that calls a function that may panic. No condition. -/
import Derived.Test.YtfhkmmagpnojmaaDoorZBg
set_option linter.unusedSimpArgs false
set_option linter.unusedVariables false
namespace Go.Proofs.YtfhkmmagpnojmaaDoor
open Go.RowKit

theorem step_of_x {P : Program} {ops : Array Oper} {sp : List RSpec} {w0 : World} {l : List Res} {A : (Nat → Value) → Act} {i : Nat} {o : Oper} {deps eats keeps : List Nat} {val : (Nat → Value) → Value → Prop} {res : (Nat → Value) → Value → List Res}
    (hs : spec sp i = ⟨deps, eats, keeps, val, res⟩) (ho : ops[i]? = some o)
    (h : ∀ (u : Nat → Value) (G : List Res) (w : World), (∀ j ∈ deps, (spec sp j).valAt u j) → Has w0 w (resOf sp u eats ++ (resOf sp u keeps ++ (l ++ G))) →
      Region.wanted o (yielded ops (A u).tmps) = false ∧ (val (mask deps u) undef ∧ Has w0 w (res (mask deps u) undef ++ (resOf sp u keeps ++ (l ++ G))))) : StepOK P ops sp w0 l A i := by
  unfold StepOK StepOK2
  rw [ho, hs]
  intro u G w hf S
  obtain ⟨h1, h2⟩ := h u G w hf S
  dsimp only
  rw [if_neg (by rw [h1]; decide)]
  exact h2
end Go.Proofs.YtfhkmmagpnojmaaDoor
