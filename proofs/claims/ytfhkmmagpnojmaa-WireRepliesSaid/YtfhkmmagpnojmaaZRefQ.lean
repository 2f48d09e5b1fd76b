/- Requests as the specification has them: their errors, the request of some bytes. No condition but the reach. -/
import Derived.Test.YtfhkmmagpnojmaaZBd
import Derived.Test.YtfhkmmagpnojmaaZRefR
import Derived.Test.YtfhkmmagpnojmaaZRefE
set_option linter.unusedSimpArgs false
set_option linter.unusedVariables false
namespace Go.Proofs.Ytfhkmmagpnojmaa
open Go.RowKit

theorem Bs.cell {w : World} {b off n c : Nat} {xs : List UInt8} (h : Bs w (.slice (some ⟨b, off, none⟩) n c) xs) (hn : n = xs.length) (i : Nat) (hi : i < xs.length) : w.cell? ⟨b, off + i, none⟩ = some (by8 (xs.getD i 0)) := by
  subst hn
  obtain ⟨b', off', e, hc⟩ := h.atA (by omega)
  simp only [Option.some.injEq, Addr.mk.injEq, and_true] at e
  obtain ⟨rfl, rfl⟩ := e
  exact hc i _ (by simp [List.getD, hi])
end Go.Proofs.Ytfhkmmagpnojmaa
