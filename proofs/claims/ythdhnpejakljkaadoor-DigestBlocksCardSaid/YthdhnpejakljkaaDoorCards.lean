/-
  DERIVED. GIVEN WITH THE SEED: THE CARDS: each row of YthdhnpejakljkaaDoorRows.lean that lists a variable, with what it lists TIED to the program's text (the seventh form; the later family's looks); each row that meets fmt, with fmt's text TOLD by the authors' own Lean function (tested against real Go, not proved from fmt's source: count such statements apart). THE CARD IS WHAT COUNTS. Prove the row's statement (the work); the ties are given (YthdhnpejakljkaaDoorTie.lean); close each card by the builder's one call (the guide's Derived/Test/ToyasCard.lean, 'card_holds'). Laid BY PROGRAM, IN A SANDBOX (cutbox-door.mjs). By AI agents, Wed Nov 11 2026. No macro, syntax, notation, axiom, sorry.
-/
import Derived.Test.YthdhnpejakljkaaDoorRows
import GoSem.ClaimSeven
namespace Go.Proofs.YthdhnpejakljkaaDoor
namespace Rows

/-- THE TIED CARD OF 'dunnagelaw01.DigestCompresses'. -/
def digestCompressesCard : Claim7 := { stood := { row := digestCompressesRow, standIns := [], harness := (true, "4babd5a12925cbf59c18c1f6b48fbfd26b58a61487c9a7c4361379ee1b2df4ad"), looks := false }, kinds := [], alts := [], laidByText := true, laidKinds := [.data], laidTests := true, laidLooks := .later }
def DigestCompressesCardSaid : Prop := Claim7.holds Tryd.pinned (.plain (OpenSpec.ofChange digestCompressesSpec)) digestCompressesCard

/-- THE TIED CARD OF 'dunnagelaw01.DigestHashes'. -/
def digestHashesCard : Claim7 := { stood := { row := digestHashesRow, standIns := [], harness := (true, "4babd5a12925cbf59c18c1f6b48fbfd26b58a61487c9a7c4361379ee1b2df4ad"), looks := false }, kinds := [], alts := [], laidByText := true, laidKinds := [.data], laidTests := true, laidLooks := .later }
def DigestHashesCardSaid : Prop := Claim7.holds Tryd.pinned (.plain (OpenSpec.ofChange digestHashesSpec)) digestHashesCard

/-- THE TIED CARD OF 'dunnagelaw01.DigestSums'. -/
def digestSumsCard : Claim7 := { stood := { row := digestSumsRow, standIns := [], harness := (true, "4babd5a12925cbf59c18c1f6b48fbfd26b58a61487c9a7c4361379ee1b2df4ad"), looks := false }, kinds := [], alts := [], laidByText := true, laidKinds := [.data], laidTests := true, laidLooks := .later }
def DigestSumsCardSaid : Prop := Claim7.holds Tryd.pinned (.plain (OpenSpec.ofChange digestSumsSpec)) digestSumsCard

/-- THE TIED CARD OF 'dunnagelaw01.DigestTags'. -/
def digestTagsCard : Claim7 := { stood := { row := digestTagsRow, standIns := [], harness := (true, "4babd5a12925cbf59c18c1f6b48fbfd26b58a61487c9a7c4361379ee1b2df4ad"), looks := false }, kinds := [], alts := [], laidByText := true, laidKinds := [.data], laidTests := true, laidLooks := .later }
def DigestTagsCardSaid : Prop := Claim7.holds Tryd.pinned (.plain (OpenSpec.ofChange digestTagsSpec)) digestTagsCard

/-- THE TIED CARD OF 'dunnagelaw01.DigestExamples'. -/
def digestExamplesCard : Claim7 := { stood := { row := digestExamplesRow, standIns := [], harness := (true, "4babd5a12925cbf59c18c1f6b48fbfd26b58a61487c9a7c4361379ee1b2df4ad"), looks := false }, kinds := [], alts := [], laidByText := true, laidKinds := [.data], laidTests := true, laidLooks := .later }
def DigestExamplesCardSaid : Prop := Claim7.holds Tryd.pinned (.plain (OpenSpec.ofChange digestExamplesSpec)) digestExamplesCard

/-- THE TIED CARD OF 'dunnagelaw01.DigestFields'. -/
def digestFieldsCard : Claim7 := { stood := { row := digestFieldsRow, standIns := [], harness := (true, "4babd5a12925cbf59c18c1f6b48fbfd26b58a61487c9a7c4361379ee1b2df4ad"), looks := false }, kinds := [], alts := [], laidByText := true, laidKinds := [.data], laidTests := true, laidLooks := .later }
def DigestFieldsCardSaid : Prop := Claim7.holds Tryd.pinned (.plain (OpenSpec.ofChange digestFieldsSpec)) digestFieldsCard

/-- THE TIED CARD OF 'dunnagelaw01.DigestOrders'. -/
def digestOrdersCard : Claim7 := { stood := { row := digestOrdersRow, standIns := [], harness := (true, "4babd5a12925cbf59c18c1f6b48fbfd26b58a61487c9a7c4361379ee1b2df4ad"), looks := false }, kinds := [], alts := [], laidByText := true, laidKinds := [.data], laidTests := true, laidLooks := .later }
def DigestOrdersCardSaid : Prop := Claim7.holds Tryd.pinned (.plain (OpenSpec.ofChange digestOrdersSpec)) digestOrdersCard

/-- THE TIED CARD OF 'dunnagelaw01.DigestPieces'. -/
def digestPiecesCard : Claim7 := { stood := { row := digestPiecesRow, standIns := [], harness := (true, "4babd5a12925cbf59c18c1f6b48fbfd26b58a61487c9a7c4361379ee1b2df4ad"), looks := false }, kinds := [], alts := [], laidByText := true, laidKinds := [.data], laidTests := true, laidLooks := .later }
def DigestPiecesCardSaid : Prop := Claim7.holds Tryd.pinned (.plain (OpenSpec.ofChange digestPiecesSpec)) digestPiecesCard

/-- THE TIED CARD OF 'dunnagelaw01.DigestBlocks'. -/
def digestBlocksCard : Claim7 := { stood := { row := digestBlocksRow, standIns := [], harness := (true, "4babd5a12925cbf59c18c1f6b48fbfd26b58a61487c9a7c4361379ee1b2df4ad"), looks := false }, kinds := [], alts := [], laidByText := true, laidKinds := [.data], laidTests := true, laidLooks := .later }
def DigestBlocksCardSaid : Prop := Claim7.holds Tryd.pinned (.plain (OpenSpec.ofChange digestBlocksSpec)) digestBlocksCard

/-- THE TIED CARD OF 'dunnagelaw01.DigestTextBack'. -/
def digestTextBackCard : Claim7 := { stood := { row := digestTextBackRow, standIns := [], harness := (true, "4babd5a12925cbf59c18c1f6b48fbfd26b58a61487c9a7c4361379ee1b2df4ad"), looks := false }, kinds := [], alts := [], laidByText := true, laidKinds := [.data], laidTests := true, laidLooks := .later }
def DigestTextBackCardSaid : Prop := Claim7.holds Tryd.pinned (.plain (OpenSpec.ofChange digestTextBackSpec)) digestTextBackCard

/-- THE TIED CARD OF 'dunnagelaw01.DigestKeyed'. -/
def digestKeyedCard : Claim7 := { stood := { row := digestKeyedRow, standIns := [], harness := (true, "4babd5a12925cbf59c18c1f6b48fbfd26b58a61487c9a7c4361379ee1b2df4ad"), looks := false }, kinds := [], alts := [], laidByText := true, laidKinds := [.data], laidTests := true, laidLooks := .later }
def DigestKeyedCardSaid : Prop := Claim7.holds Tryd.pinned (.plain (OpenSpec.ofChange digestKeyedSpec)) digestKeyedCard

/-- THE SECOND FORM's CARD OF 'dunnagelaw01.DigestCompresses'. -/
def digestCompressesUptoCard : Claim7 := { stood := { row := digestCompressesUptoRow, standIns := [], harness := (true, "4babd5a12925cbf59c18c1f6b48fbfd26b58a61487c9a7c4361379ee1b2df4ad"), looks := false }, kinds := [], alts := [], laidByText := true, laidKinds := [.data], laidTests := true, laidLooks := .later }
def DigestCompressesUptoCardSaid : Prop := Claim7.holds Tryd.pinned (.plain (OpenSpec.upto digestCompressesSpec)) digestCompressesUptoCard

/-- THE SECOND FORM's CARD OF 'dunnagelaw01.DigestHashes'. -/
def digestHashesUptoCard : Claim7 := { stood := { row := digestHashesUptoRow, standIns := [], harness := (true, "4babd5a12925cbf59c18c1f6b48fbfd26b58a61487c9a7c4361379ee1b2df4ad"), looks := false }, kinds := [], alts := [], laidByText := true, laidKinds := [.data], laidTests := true, laidLooks := .later }
def DigestHashesUptoCardSaid : Prop := Claim7.holds Tryd.pinned (.plain (OpenSpec.upto digestHashesSpec)) digestHashesUptoCard

/-- THE SECOND FORM's CARD OF 'dunnagelaw01.DigestSums'. -/
def digestSumsUptoCard : Claim7 := { stood := { row := digestSumsUptoRow, standIns := [], harness := (true, "4babd5a12925cbf59c18c1f6b48fbfd26b58a61487c9a7c4361379ee1b2df4ad"), looks := false }, kinds := [], alts := [], laidByText := true, laidKinds := [.data], laidTests := true, laidLooks := .later }
def DigestSumsUptoCardSaid : Prop := Claim7.holds Tryd.pinned (.plain (OpenSpec.upto digestSumsSpec)) digestSumsUptoCard

/-- THE SECOND FORM's CARD OF 'dunnagelaw01.DigestTags'. -/
def digestTagsUptoCard : Claim7 := { stood := { row := digestTagsUptoRow, standIns := [], harness := (true, "4babd5a12925cbf59c18c1f6b48fbfd26b58a61487c9a7c4361379ee1b2df4ad"), looks := false }, kinds := [], alts := [], laidByText := true, laidKinds := [.data], laidTests := true, laidLooks := .later }
def DigestTagsUptoCardSaid : Prop := Claim7.holds Tryd.pinned (.plain (OpenSpec.upto digestTagsSpec)) digestTagsUptoCard

/-- THE SECOND FORM's CARD OF 'dunnagelaw01.DigestExamples'. -/
def digestExamplesUptoCard : Claim7 := { stood := { row := digestExamplesUptoRow, standIns := [], harness := (true, "4babd5a12925cbf59c18c1f6b48fbfd26b58a61487c9a7c4361379ee1b2df4ad"), looks := false }, kinds := [], alts := [], laidByText := true, laidKinds := [.data], laidTests := true, laidLooks := .later }
def DigestExamplesUptoCardSaid : Prop := Claim7.holds Tryd.pinned (.plain (OpenSpec.upto digestExamplesSpec)) digestExamplesUptoCard

/-- THE SECOND FORM's CARD OF 'dunnagelaw01.DigestFields'. -/
def digestFieldsUptoCard : Claim7 := { stood := { row := digestFieldsUptoRow, standIns := [], harness := (true, "4babd5a12925cbf59c18c1f6b48fbfd26b58a61487c9a7c4361379ee1b2df4ad"), looks := false }, kinds := [], alts := [], laidByText := true, laidKinds := [.data], laidTests := true, laidLooks := .later }
def DigestFieldsUptoCardSaid : Prop := Claim7.holds Tryd.pinned (.plain (OpenSpec.upto digestFieldsSpec)) digestFieldsUptoCard

/-- THE SECOND FORM's CARD OF 'dunnagelaw01.DigestOrders'. -/
def digestOrdersUptoCard : Claim7 := { stood := { row := digestOrdersUptoRow, standIns := [], harness := (true, "4babd5a12925cbf59c18c1f6b48fbfd26b58a61487c9a7c4361379ee1b2df4ad"), looks := false }, kinds := [], alts := [], laidByText := true, laidKinds := [.data], laidTests := true, laidLooks := .later }
def DigestOrdersUptoCardSaid : Prop := Claim7.holds Tryd.pinned (.plain (OpenSpec.upto digestOrdersSpec)) digestOrdersUptoCard

/-- THE SECOND FORM's CARD OF 'dunnagelaw01.DigestPieces'. -/
def digestPiecesUptoCard : Claim7 := { stood := { row := digestPiecesUptoRow, standIns := [], harness := (true, "4babd5a12925cbf59c18c1f6b48fbfd26b58a61487c9a7c4361379ee1b2df4ad"), looks := false }, kinds := [], alts := [], laidByText := true, laidKinds := [.data], laidTests := true, laidLooks := .later }
def DigestPiecesUptoCardSaid : Prop := Claim7.holds Tryd.pinned (.plain (OpenSpec.upto digestPiecesSpec)) digestPiecesUptoCard

/-- THE SECOND FORM's CARD OF 'dunnagelaw01.DigestBlocks'. -/
def digestBlocksUptoCard : Claim7 := { stood := { row := digestBlocksUptoRow, standIns := [], harness := (true, "4babd5a12925cbf59c18c1f6b48fbfd26b58a61487c9a7c4361379ee1b2df4ad"), looks := false }, kinds := [], alts := [], laidByText := true, laidKinds := [.data], laidTests := true, laidLooks := .later }
def DigestBlocksUptoCardSaid : Prop := Claim7.holds Tryd.pinned (.plain (OpenSpec.upto digestBlocksSpec)) digestBlocksUptoCard

/-- THE SECOND FORM's CARD OF 'dunnagelaw01.DigestTextBack'. -/
def digestTextBackUptoCard : Claim7 := { stood := { row := digestTextBackUptoRow, standIns := [], harness := (true, "4babd5a12925cbf59c18c1f6b48fbfd26b58a61487c9a7c4361379ee1b2df4ad"), looks := false }, kinds := [], alts := [], laidByText := true, laidKinds := [.data], laidTests := true, laidLooks := .later }
def DigestTextBackUptoCardSaid : Prop := Claim7.holds Tryd.pinned (.plain (OpenSpec.upto digestTextBackSpec)) digestTextBackUptoCard

/-- THE SECOND FORM's CARD OF 'dunnagelaw01.DigestKeyed'. -/
def digestKeyedUptoCard : Claim7 := { stood := { row := digestKeyedUptoRow, standIns := [], harness := (true, "4babd5a12925cbf59c18c1f6b48fbfd26b58a61487c9a7c4361379ee1b2df4ad"), looks := false }, kinds := [], alts := [], laidByText := true, laidKinds := [.data], laidTests := true, laidLooks := .later }
def DigestKeyedUptoCardSaid : Prop := Claim7.holds Tryd.pinned (.plain (OpenSpec.upto digestKeyedSpec)) digestKeyedUptoCard
end Rows
end Go.Proofs.YthdhnpejakljkaaDoor
