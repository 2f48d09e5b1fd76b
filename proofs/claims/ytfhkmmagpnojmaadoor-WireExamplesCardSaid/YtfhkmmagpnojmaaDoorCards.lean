/-
  DERIVED. GIVEN WITH THE SEED: THE CARDS: each row of YtfhkmmagpnojmaaDoorRows.lean that lists a variable, with what it lists TIED to the program's text (the seventh form; the later family's looks); each row that meets fmt, with fmt's text TOLD by the authors' own Lean function (tested against real Go, not proved from fmt's source: count such statements apart). THE CARD IS WHAT COUNTS. Prove the row's statement (the work); the ties are given (YtfhkmmagpnojmaaDoorTie.lean); close each card by the builder's one call (the guide's Derived/Test/ToyasCard.lean, 'card_holds'). Laid BY PROGRAM, IN A SANDBOX (cutbox-door.mjs). By AI agents, Wed Nov 11 2026. No macro, syntax, notation, axiom, sorry.
-/
import Derived.Test.YtfhkmmagpnojmaaDoorRows
import GoSem.ClaimSeven
namespace Go.Proofs.YtfhkmmagpnojmaaDoor
namespace Rows

/-- THE TIED CARD OF 'dunnagelaw07.WireLinks'. -/
def wireLinksCard : Claim7 := { stood := { row := wireLinksRow, standIns := [], harness := (true, "4609f53c79f9355b61b0341d92f5a0d036b86dc493c57ddcfdfb4bdaf2d4027f"), looks := true }, kinds := [], alts := [], laidByText := true, laidKinds := [.data], laidTests := true, laidLooks := .later }
def WireLinksCardSaid : Prop := Claim7.holds Tryd.pinned (.plain (OpenSpec.ofChange wireLinksSpec)) wireLinksCard

/-- THE TIED CARD OF 'dunnagelaw07.WireVerifies'. -/
def wireVerifiesCard : Claim7 := { stood := { row := wireVerifiesRow, standIns := [], harness := (true, "4609f53c79f9355b61b0341d92f5a0d036b86dc493c57ddcfdfb4bdaf2d4027f"), looks := true }, kinds := [], alts := [], laidByText := true, laidKinds := [.data], laidTests := true, laidLooks := .later }
def WireVerifiesCardSaid : Prop := Claim7.holds Tryd.pinned (.plain (OpenSpec.ofChange wireVerifiesSpec)) wireVerifiesCard

/-- THE TIED CARD OF 'dunnagelaw07.WireLogs'. -/
def wireLogsCard : Claim7 := { stood := { row := wireLogsRow, standIns := [], harness := (true, "4609f53c79f9355b61b0341d92f5a0d036b86dc493c57ddcfdfb4bdaf2d4027f"), looks := true }, kinds := [], alts := [], laidByText := true, laidKinds := [.data], laidTests := true, laidLooks := .later }
def WireLogsCardSaid : Prop := Claim7.holds Tryd.pinned (.plain (OpenSpec.ofChange wireLogsSpec)) wireLogsCard

/-- THE TIED CARD OF 'dunnagelaw07.WireWhole'. -/
def wireWholeCard : Claim7 := { stood := { row := wireWholeRow, standIns := [], harness := (true, "4609f53c79f9355b61b0341d92f5a0d036b86dc493c57ddcfdfb4bdaf2d4027f"), looks := true }, kinds := [], alts := [], laidByText := true, laidKinds := [.data], laidTests := true, laidLooks := .later }
def WireWholeCardSaid : Prop := Claim7.holds Tryd.pinned (.plain (OpenSpec.ofChange wireWholeSpec)) wireWholeCard

/-- THE TIED CARD OF 'dunnagelaw07.WireStream'. -/
def wireStreamCard : Claim7 := { stood := { row := wireStreamRow, standIns := [], harness := (true, "4609f53c79f9355b61b0341d92f5a0d036b86dc493c57ddcfdfb4bdaf2d4027f"), looks := true }, kinds := [], alts := [], laidByText := true, laidKinds := [.data], laidTests := true, laidLooks := .later }
def WireStreamCardSaid : Prop := Claim7.holds Tryd.pinned (.plain (OpenSpec.ofChange wireStreamSpec)) wireStreamCard

/-- THE TIED CARD OF 'dunnagelaw07.WireFrames'. -/
def wireFramesCard : Claim7 := { stood := { row := wireFramesRow, standIns := [], harness := (true, "4609f53c79f9355b61b0341d92f5a0d036b86dc493c57ddcfdfb4bdaf2d4027f"), looks := true }, kinds := [], alts := [], laidByText := true, laidKinds := [.data], laidTests := true, laidLooks := .later }
def WireFramesCardSaid : Prop := Claim7.holds Tryd.pinned (.plain (OpenSpec.ofChange wireFramesSpec)) wireFramesCard

/-- THE TIED CARD OF 'dunnagelaw07.WireRequestBack'. -/
def wireRequestBackCard : Claim7 := { stood := { row := wireRequestBackRow, standIns := [], harness := (true, "4609f53c79f9355b61b0341d92f5a0d036b86dc493c57ddcfdfb4bdaf2d4027f"), looks := true }, kinds := [], alts := [], laidByText := true, laidKinds := [.data], laidTests := true, laidLooks := .later }
def WireRequestBackCardSaid : Prop := Claim7.holds Tryd.pinned (.plain (OpenSpec.ofChange wireRequestBackSpec)) wireRequestBackCard

/-- THE TIED CARD OF 'dunnagelaw07.WireReplyBack'. -/
def wireReplyBackCard : Claim7 := { stood := { row := wireReplyBackRow, standIns := [], harness := (true, "4609f53c79f9355b61b0341d92f5a0d036b86dc493c57ddcfdfb4bdaf2d4027f"), looks := true }, kinds := [], alts := [], laidByText := true, laidKinds := [.data], laidTests := true, laidLooks := .later }
def WireReplyBackCardSaid : Prop := Claim7.holds Tryd.pinned (.plain (OpenSpec.ofChange wireReplyBackSpec)) wireReplyBackCard

/-- THE TIED CARD OF 'dunnagelaw07.WireLink'. -/
def wireLinkCard : Claim7 := { stood := { row := wireLinkRow, standIns := [], harness := (true, "4609f53c79f9355b61b0341d92f5a0d036b86dc493c57ddcfdfb4bdaf2d4027f"), looks := true }, kinds := [], alts := [], laidByText := true, laidKinds := [.data], laidTests := true, laidLooks := .later }
def WireLinkCardSaid : Prop := Claim7.holds Tryd.pinned (.plain (OpenSpec.ofChange wireLinkSpec)) wireLinkCard

/-- THE TIED CARD OF 'dunnagelaw07.WireProof'. -/
def wireProofCard : Claim7 := { stood := { row := wireProofRow, standIns := [], harness := (true, "4609f53c79f9355b61b0341d92f5a0d036b86dc493c57ddcfdfb4bdaf2d4027f"), looks := true }, kinds := [], alts := [], laidByText := true, laidKinds := [.data], laidTests := true, laidLooks := .later }
def WireProofCardSaid : Prop := Claim7.holds Tryd.pinned (.plain (OpenSpec.ofChange wireProofSpec)) wireProofCard

/-- THE TIED CARD OF 'dunnagelaw07.WireFull'. -/
def wireFullCard : Claim7 := { stood := { row := wireFullRow, standIns := [], harness := (true, "4609f53c79f9355b61b0341d92f5a0d036b86dc493c57ddcfdfb4bdaf2d4027f"), looks := true }, kinds := [], alts := [], laidByText := true, laidKinds := [.data], laidTests := true, laidLooks := .later }
def WireFullCardSaid : Prop := Claim7.holds Tryd.pinned (.plain (OpenSpec.ofChange wireFullSpec)) wireFullCard

/-- THE TIED CARD OF 'dunnagelaw07.WireExamples'. -/
def wireExamplesCard : Claim7 := { stood := { row := wireExamplesRow, standIns := [], harness := (true, "4609f53c79f9355b61b0341d92f5a0d036b86dc493c57ddcfdfb4bdaf2d4027f"), looks := true }, kinds := [], alts := [], laidByText := true, laidKinds := [.data], laidTests := true, laidLooks := .later }
def WireExamplesCardSaid : Prop := Claim7.holds Tryd.pinned (.plain (OpenSpec.ofChange wireExamplesSpec)) wireExamplesCard

/-- THE TIED CARD OF 'dunnagelaw07.WireChain'. -/
def wireChainCard : Claim7 := { stood := { row := wireChainRow, standIns := [], harness := (true, "4609f53c79f9355b61b0341d92f5a0d036b86dc493c57ddcfdfb4bdaf2d4027f"), looks := true }, kinds := [], alts := [], laidByText := true, laidKinds := [.data], laidTests := true, laidLooks := .later }
def WireChainCardSaid : Prop := Claim7.holds Tryd.pinned (.plain (OpenSpec.ofChange wireChainSpec)) wireChainCard

/-- THE SECOND FORM's CARD OF 'dunnagelaw07.WireLinks'. -/
def wireLinksUptoCard : Claim7 := { stood := { row := wireLinksUptoRow, standIns := [], harness := (true, "4609f53c79f9355b61b0341d92f5a0d036b86dc493c57ddcfdfb4bdaf2d4027f"), looks := true }, kinds := [], alts := [], laidByText := true, laidKinds := [.data], laidTests := true, laidLooks := .later }
def WireLinksUptoCardSaid : Prop := Claim7.holds Tryd.pinned (.plain (OpenSpec.upto wireLinksSpec)) wireLinksUptoCard

/-- THE SECOND FORM's CARD OF 'dunnagelaw07.WireVerifies'. -/
def wireVerifiesUptoCard : Claim7 := { stood := { row := wireVerifiesUptoRow, standIns := [], harness := (true, "4609f53c79f9355b61b0341d92f5a0d036b86dc493c57ddcfdfb4bdaf2d4027f"), looks := true }, kinds := [], alts := [], laidByText := true, laidKinds := [.data], laidTests := true, laidLooks := .later }
def WireVerifiesUptoCardSaid : Prop := Claim7.holds Tryd.pinned (.plain (OpenSpec.upto wireVerifiesSpec)) wireVerifiesUptoCard

/-- THE SECOND FORM's CARD OF 'dunnagelaw07.WireLogs'. -/
def wireLogsUptoCard : Claim7 := { stood := { row := wireLogsUptoRow, standIns := [], harness := (true, "4609f53c79f9355b61b0341d92f5a0d036b86dc493c57ddcfdfb4bdaf2d4027f"), looks := true }, kinds := [], alts := [], laidByText := true, laidKinds := [.data], laidTests := true, laidLooks := .later }
def WireLogsUptoCardSaid : Prop := Claim7.holds Tryd.pinned (.plain (OpenSpec.upto wireLogsSpec)) wireLogsUptoCard

/-- THE SECOND FORM's CARD OF 'dunnagelaw07.WireWhole'. -/
def wireWholeUptoCard : Claim7 := { stood := { row := wireWholeUptoRow, standIns := [], harness := (true, "4609f53c79f9355b61b0341d92f5a0d036b86dc493c57ddcfdfb4bdaf2d4027f"), looks := true }, kinds := [], alts := [], laidByText := true, laidKinds := [.data], laidTests := true, laidLooks := .later }
def WireWholeUptoCardSaid : Prop := Claim7.holds Tryd.pinned (.plain (OpenSpec.upto wireWholeSpec)) wireWholeUptoCard

/-- THE SECOND FORM's CARD OF 'dunnagelaw07.WireStream'. -/
def wireStreamUptoCard : Claim7 := { stood := { row := wireStreamUptoRow, standIns := [], harness := (true, "4609f53c79f9355b61b0341d92f5a0d036b86dc493c57ddcfdfb4bdaf2d4027f"), looks := true }, kinds := [], alts := [], laidByText := true, laidKinds := [.data], laidTests := true, laidLooks := .later }
def WireStreamUptoCardSaid : Prop := Claim7.holds Tryd.pinned (.plain (OpenSpec.upto wireStreamSpec)) wireStreamUptoCard

/-- THE SECOND FORM's CARD OF 'dunnagelaw07.WireFrames'. -/
def wireFramesUptoCard : Claim7 := { stood := { row := wireFramesUptoRow, standIns := [], harness := (true, "4609f53c79f9355b61b0341d92f5a0d036b86dc493c57ddcfdfb4bdaf2d4027f"), looks := true }, kinds := [], alts := [], laidByText := true, laidKinds := [.data], laidTests := true, laidLooks := .later }
def WireFramesUptoCardSaid : Prop := Claim7.holds Tryd.pinned (.plain (OpenSpec.upto wireFramesSpec)) wireFramesUptoCard

/-- THE SECOND FORM's CARD OF 'dunnagelaw07.WireRequestBack'. -/
def wireRequestBackUptoCard : Claim7 := { stood := { row := wireRequestBackUptoRow, standIns := [], harness := (true, "4609f53c79f9355b61b0341d92f5a0d036b86dc493c57ddcfdfb4bdaf2d4027f"), looks := true }, kinds := [], alts := [], laidByText := true, laidKinds := [.data], laidTests := true, laidLooks := .later }
def WireRequestBackUptoCardSaid : Prop := Claim7.holds Tryd.pinned (.plain (OpenSpec.upto wireRequestBackSpec)) wireRequestBackUptoCard

/-- THE SECOND FORM's CARD OF 'dunnagelaw07.WireReplyBack'. -/
def wireReplyBackUptoCard : Claim7 := { stood := { row := wireReplyBackUptoRow, standIns := [], harness := (true, "4609f53c79f9355b61b0341d92f5a0d036b86dc493c57ddcfdfb4bdaf2d4027f"), looks := true }, kinds := [], alts := [], laidByText := true, laidKinds := [.data], laidTests := true, laidLooks := .later }
def WireReplyBackUptoCardSaid : Prop := Claim7.holds Tryd.pinned (.plain (OpenSpec.upto wireReplyBackSpec)) wireReplyBackUptoCard

/-- THE SECOND FORM's CARD OF 'dunnagelaw07.WireLink'. -/
def wireLinkUptoCard : Claim7 := { stood := { row := wireLinkUptoRow, standIns := [], harness := (true, "4609f53c79f9355b61b0341d92f5a0d036b86dc493c57ddcfdfb4bdaf2d4027f"), looks := true }, kinds := [], alts := [], laidByText := true, laidKinds := [.data], laidTests := true, laidLooks := .later }
def WireLinkUptoCardSaid : Prop := Claim7.holds Tryd.pinned (.plain (OpenSpec.upto wireLinkSpec)) wireLinkUptoCard

/-- THE SECOND FORM's CARD OF 'dunnagelaw07.WireProof'. -/
def wireProofUptoCard : Claim7 := { stood := { row := wireProofUptoRow, standIns := [], harness := (true, "4609f53c79f9355b61b0341d92f5a0d036b86dc493c57ddcfdfb4bdaf2d4027f"), looks := true }, kinds := [], alts := [], laidByText := true, laidKinds := [.data], laidTests := true, laidLooks := .later }
def WireProofUptoCardSaid : Prop := Claim7.holds Tryd.pinned (.plain (OpenSpec.upto wireProofSpec)) wireProofUptoCard

/-- THE SECOND FORM's CARD OF 'dunnagelaw07.WireFull'. -/
def wireFullUptoCard : Claim7 := { stood := { row := wireFullUptoRow, standIns := [], harness := (true, "4609f53c79f9355b61b0341d92f5a0d036b86dc493c57ddcfdfb4bdaf2d4027f"), looks := true }, kinds := [], alts := [], laidByText := true, laidKinds := [.data], laidTests := true, laidLooks := .later }
def WireFullUptoCardSaid : Prop := Claim7.holds Tryd.pinned (.plain (OpenSpec.upto wireFullSpec)) wireFullUptoCard

/-- THE SECOND FORM's CARD OF 'dunnagelaw07.WireExamples'. -/
def wireExamplesUptoCard : Claim7 := { stood := { row := wireExamplesUptoRow, standIns := [], harness := (true, "4609f53c79f9355b61b0341d92f5a0d036b86dc493c57ddcfdfb4bdaf2d4027f"), looks := true }, kinds := [], alts := [], laidByText := true, laidKinds := [.data], laidTests := true, laidLooks := .later }
def WireExamplesUptoCardSaid : Prop := Claim7.holds Tryd.pinned (.plain (OpenSpec.upto wireExamplesSpec)) wireExamplesUptoCard

/-- THE SECOND FORM's CARD OF 'dunnagelaw07.WireChain'. -/
def wireChainUptoCard : Claim7 := { stood := { row := wireChainUptoRow, standIns := [], harness := (true, "4609f53c79f9355b61b0341d92f5a0d036b86dc493c57ddcfdfb4bdaf2d4027f"), looks := true }, kinds := [], alts := [], laidByText := true, laidKinds := [.data], laidTests := true, laidLooks := .later }
def WireChainUptoCardSaid : Prop := Claim7.holds Tryd.pinned (.plain (OpenSpec.upto wireChainSpec)) wireChainUptoCard
end Rows
end Go.Proofs.YtfhkmmagpnojmaaDoor
