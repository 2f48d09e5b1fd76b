/-
  DERIVED. GIVEN WITH THE SEED: THE CARDS: each row of YtmcefinhmihmnaaDoorRows.lean that lists a variable, with what it lists TIED to the program's text (the seventh form; the later family's looks); each row that meets fmt, with fmt's text TOLD by the authors' own Lean function (tested against real Go, not proved from fmt's source: count such statements apart). THE CARD IS WHAT COUNTS. Prove the row's statement (the work); the ties are given (YtmcefinhmihmnaaDoorTie.lean); close each card by the builder's one call (the guide's Derived/Test/ToyasCard.lean, 'card_holds'). Laid BY PROGRAM, IN A SANDBOX (cutbox-door.mjs). By AI agents, Wed Nov 11 2026. No macro, syntax, notation, axiom, sorry.
-/
import Derived.Test.YtmcefinhmihmnaaDoorRows
import GoSem.ClaimSeven
namespace Go.Proofs.YtmcefinhmihmnaaDoor
namespace Rows

/-- THE TIED CARD OF 'dunnagetop.TopWired'. -/
def topWiredCard : Claim7 := { stood := { row := topWiredRow, standIns := [], harness := (true, "d3787e436f2cd109a4577af5e23e3e1cf06c7f549e55f2abd1bcd704c5ea7cdb"), looks := true }, kinds := [], alts := [], laidByText := true, laidKinds := [.data, .widerDeep], laidTests := true, laidLooks := .later }
def TopWiredCardSaid : Prop := Claim7.holds Tryd.pinned (.plain (OpenSpec.ofChange topWiredSpec)) topWiredCard

/-- THE SECOND FORM's CARD OF 'dunnagetop.TopWired'. -/
def topWiredUptoCard : Claim7 := { stood := { row := topWiredUptoRow, standIns := [], harness := (true, "d3787e436f2cd109a4577af5e23e3e1cf06c7f549e55f2abd1bcd704c5ea7cdb"), looks := true }, kinds := [], alts := [], laidByText := true, laidKinds := [.data, .widerDeep], laidTests := true, laidLooks := .later }
def TopWiredUptoCardSaid : Prop := Claim7.holds Tryd.pinned (.plain (OpenSpec.upto topWiredSpec)) topWiredUptoCard
end Rows
end Go.Proofs.YtmcefinhmihmnaaDoor
