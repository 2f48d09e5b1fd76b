/-
  DERIVED. GIVEN WITH THE SEED: THE CARDS: each row of YtioonimpobcglaaDoorRows.lean that lists a variable, with what it lists TIED to the program's text (the seventh form; the later family's looks); each row that meets fmt, with fmt's text TOLD by the authors' own Lean function (tested against real Go, not proved from fmt's source: count such statements apart). THE CARD IS WHAT COUNTS. Prove the row's statement (the work); the ties are given (YtioonimpobcglaaDoorTie.lean); close each card by the builder's one call (the guide's Derived/Test/ToyasCard.lean, 'card_holds'). Laid BY PROGRAM, IN A SANDBOX (cutbox-door.mjs). By AI agents, Wed Nov 11 2026. No macro, syntax, notation, axiom, sorry.
-/
import Derived.Test.YtioonimpobcglaaDoorRows
import GoSem.ClaimSeven
namespace Go.Proofs.YtioonimpobcglaaDoor
namespace Rows

/-- THE TIED CARD OF 'dunnagelaw06.AuthTokens'. -/
def authTokensCard : Claim7 := { stood := { row := authTokensRow, standIns := [], harness := (true, "976e7870a00c318edb1e3061d8b65473806d85cf8b97f3b1a7a89a8e0ec6778a"), looks := false }, kinds := [], alts := [], laidByText := true, laidKinds := [.data], laidTests := true, laidLooks := .later }
def AuthTokensCardSaid : Prop := Claim7.holds Tryd.pinned (.plain (OpenSpec.ofChange authTokensSpec)) authTokensCard

/-- THE TIED CARD OF 'dunnagelaw06.AuthIssues'. -/
def authIssuesCard : Claim7 := { stood := { row := authIssuesRow, standIns := [], harness := (true, "976e7870a00c318edb1e3061d8b65473806d85cf8b97f3b1a7a89a8e0ec6778a"), looks := false }, kinds := [], alts := [], laidByText := true, laidKinds := [.data], laidTests := true, laidLooks := .later }
def AuthIssuesCardSaid : Prop := Claim7.holds Tryd.pinned (.plain (OpenSpec.ofChange authIssuesSpec)) authIssuesCard

/-- THE TIED CARD OF 'dunnagelaw06.AuthDecides'. -/
def authDecidesCard : Claim7 := { stood := { row := authDecidesRow, standIns := [], harness := (true, "976e7870a00c318edb1e3061d8b65473806d85cf8b97f3b1a7a89a8e0ec6778a"), looks := false }, kinds := [], alts := [], laidByText := true, laidKinds := [.data, .widerDeep], laidTests := true, laidLooks := .later }
def AuthDecidesCardSaid : Prop := Claim7.holds Tryd.pinned (.plain (OpenSpec.ofChange authDecidesSpec)) authDecidesCard

/-- THE TIED CARD OF 'dunnagelaw06.AuthSigned'. -/
def authSignedCard : Claim7 := { stood := { row := authSignedRow, standIns := [], harness := (true, "976e7870a00c318edb1e3061d8b65473806d85cf8b97f3b1a7a89a8e0ec6778a"), looks := false }, kinds := [], alts := [], laidByText := true, laidKinds := [.data, .widerDeep], laidTests := true, laidLooks := .later }
def AuthSignedCardSaid : Prop := Claim7.holds Tryd.pinned (.plain (OpenSpec.ofChange authSignedSpec)) authSignedCard

/-- THE TIED CARD OF 'dunnagelaw06.AuthGrows'. -/
def authGrowsCard : Claim7 := { stood := { row := authGrowsRow, standIns := [], harness := (true, "976e7870a00c318edb1e3061d8b65473806d85cf8b97f3b1a7a89a8e0ec6778a"), looks := false }, kinds := [], alts := [], laidByText := true, laidKinds := [.data, .widerDeep], laidTests := true, laidLooks := .later }
def AuthGrowsCardSaid : Prop := Claim7.holds Tryd.pinned (.plain (OpenSpec.ofChange authGrowsSpec)) authGrowsCard

/-- THE TIED CARD OF 'dunnagelaw06.AuthExact'. -/
def authExactCard : Claim7 := { stood := { row := authExactRow, standIns := [], harness := (true, "976e7870a00c318edb1e3061d8b65473806d85cf8b97f3b1a7a89a8e0ec6778a"), looks := false }, kinds := [], alts := [], laidByText := true, laidKinds := [.data, .widerDeep], laidTests := true, laidLooks := .later }
def AuthExactCardSaid : Prop := Claim7.holds Tryd.pinned (.plain (OpenSpec.ofChange authExactSpec)) authExactCard

/-- THE TIED CARD OF 'dunnagelaw06.AuthLifetime'. -/
def authLifetimeCard : Claim7 := { stood := { row := authLifetimeRow, standIns := [], harness := (true, "976e7870a00c318edb1e3061d8b65473806d85cf8b97f3b1a7a89a8e0ec6778a"), looks := false }, kinds := [], alts := [], laidByText := true, laidKinds := [.data, .widerDeep], laidTests := true, laidLooks := .later }
def AuthLifetimeCardSaid : Prop := Claim7.holds Tryd.pinned (.plain (OpenSpec.ofChange authLifetimeSpec)) authLifetimeCard

/-- THE TIED CARD OF 'dunnagelaw06.AuthOthers'. -/
def authOthersCard : Claim7 := { stood := { row := authOthersRow, standIns := [], harness := (true, "976e7870a00c318edb1e3061d8b65473806d85cf8b97f3b1a7a89a8e0ec6778a"), looks := false }, kinds := [], alts := [], laidByText := true, laidKinds := [.data, .widerDeep], laidTests := true, laidLooks := .later }
def AuthOthersCardSaid : Prop := Claim7.holds Tryd.pinned (.plain (OpenSpec.ofChange authOthersSpec)) authOthersCard

/-- THE TIED CARD OF 'dunnagelaw06.AuthNever'. -/
def authNeverCard : Claim7 := { stood := { row := authNeverRow, standIns := [], harness := (true, "976e7870a00c318edb1e3061d8b65473806d85cf8b97f3b1a7a89a8e0ec6778a"), looks := false }, kinds := [], alts := [], laidByText := true, laidKinds := [.data, .widerDeep], laidTests := true, laidLooks := .later }
def AuthNeverCardSaid : Prop := Claim7.holds Tryd.pinned (.plain (OpenSpec.ofChange authNeverSpec)) authNeverCard

/-- THE TIED CARD OF 'dunnagelaw06.AuthPlays'. -/
def authPlaysCard : Claim7 := { stood := { row := authPlaysRow, standIns := [], harness := (true, "976e7870a00c318edb1e3061d8b65473806d85cf8b97f3b1a7a89a8e0ec6778a"), looks := false }, kinds := [], alts := [], laidByText := true, laidKinds := [.data, .widerDeep], laidTests := true, laidLooks := .later }
def AuthPlaysCardSaid : Prop := Claim7.holds Tryd.pinned (.plain (OpenSpec.ofChange authPlaysSpec)) authPlaysCard

/-- THE TIED CARD OF 'dunnagelaw06.AuthLive'. -/
def authLiveCard : Claim7 := { stood := { row := authLiveRow, standIns := [], harness := (true, "976e7870a00c318edb1e3061d8b65473806d85cf8b97f3b1a7a89a8e0ec6778a"), looks := false }, kinds := [], alts := [], laidByText := true, laidKinds := [.data, .widerDeep], laidTests := true, laidLooks := .later }
def AuthLiveCardSaid : Prop := Claim7.holds Tryd.pinned (.plain (OpenSpec.ofChange authLiveSpec)) authLiveCard

/-- THE TIED CARD OF 'dunnagelaw06.AuthEncoding'. -/
def authEncodingCard : Claim7 := { stood := { row := authEncodingRow, standIns := [], harness := (true, "976e7870a00c318edb1e3061d8b65473806d85cf8b97f3b1a7a89a8e0ec6778a"), looks := false }, kinds := [], alts := [], laidByText := true, laidKinds := [.data, .widerDeep], laidTests := true, laidLooks := .later }
def AuthEncodingCardSaid : Prop := Claim7.holds Tryd.pinned (.plain (OpenSpec.ofChange authEncodingSpec)) authEncodingCard

/-- THE TIED CARD OF 'dunnagelaw06.AuthExamples'. -/
def authExamplesCard : Claim7 := { stood := { row := authExamplesRow, standIns := [], harness := (true, "976e7870a00c318edb1e3061d8b65473806d85cf8b97f3b1a7a89a8e0ec6778a"), looks := false }, kinds := [], alts := [], laidByText := true, laidKinds := [.data, .widerDeep], laidTests := true, laidLooks := .later }
def AuthExamplesCardSaid : Prop := Claim7.holds Tryd.pinned (.plain (OpenSpec.ofChange authExamplesSpec)) authExamplesCard

/-- THE SECOND FORM's CARD OF 'dunnagelaw06.AuthTokens'. -/
def authTokensUptoCard : Claim7 := { stood := { row := authTokensUptoRow, standIns := [], harness := (true, "976e7870a00c318edb1e3061d8b65473806d85cf8b97f3b1a7a89a8e0ec6778a"), looks := false }, kinds := [], alts := [], laidByText := true, laidKinds := [.data], laidTests := true, laidLooks := .later }
def AuthTokensUptoCardSaid : Prop := Claim7.holds Tryd.pinned (.plain (OpenSpec.upto authTokensSpec)) authTokensUptoCard

/-- THE SECOND FORM's CARD OF 'dunnagelaw06.AuthIssues'. -/
def authIssuesUptoCard : Claim7 := { stood := { row := authIssuesUptoRow, standIns := [], harness := (true, "976e7870a00c318edb1e3061d8b65473806d85cf8b97f3b1a7a89a8e0ec6778a"), looks := false }, kinds := [], alts := [], laidByText := true, laidKinds := [.data], laidTests := true, laidLooks := .later }
def AuthIssuesUptoCardSaid : Prop := Claim7.holds Tryd.pinned (.plain (OpenSpec.upto authIssuesSpec)) authIssuesUptoCard

/-- THE SECOND FORM's CARD OF 'dunnagelaw06.AuthDecides'. -/
def authDecidesUptoCard : Claim7 := { stood := { row := authDecidesUptoRow, standIns := [], harness := (true, "976e7870a00c318edb1e3061d8b65473806d85cf8b97f3b1a7a89a8e0ec6778a"), looks := false }, kinds := [], alts := [], laidByText := true, laidKinds := [.data, .widerDeep], laidTests := true, laidLooks := .later }
def AuthDecidesUptoCardSaid : Prop := Claim7.holds Tryd.pinned (.plain (OpenSpec.upto authDecidesSpec)) authDecidesUptoCard

/-- THE SECOND FORM's CARD OF 'dunnagelaw06.AuthSigned'. -/
def authSignedUptoCard : Claim7 := { stood := { row := authSignedUptoRow, standIns := [], harness := (true, "976e7870a00c318edb1e3061d8b65473806d85cf8b97f3b1a7a89a8e0ec6778a"), looks := false }, kinds := [], alts := [], laidByText := true, laidKinds := [.data, .widerDeep], laidTests := true, laidLooks := .later }
def AuthSignedUptoCardSaid : Prop := Claim7.holds Tryd.pinned (.plain (OpenSpec.upto authSignedSpec)) authSignedUptoCard

/-- THE SECOND FORM's CARD OF 'dunnagelaw06.AuthGrows'. -/
def authGrowsUptoCard : Claim7 := { stood := { row := authGrowsUptoRow, standIns := [], harness := (true, "976e7870a00c318edb1e3061d8b65473806d85cf8b97f3b1a7a89a8e0ec6778a"), looks := false }, kinds := [], alts := [], laidByText := true, laidKinds := [.data, .widerDeep], laidTests := true, laidLooks := .later }
def AuthGrowsUptoCardSaid : Prop := Claim7.holds Tryd.pinned (.plain (OpenSpec.upto authGrowsSpec)) authGrowsUptoCard

/-- THE SECOND FORM's CARD OF 'dunnagelaw06.AuthExact'. -/
def authExactUptoCard : Claim7 := { stood := { row := authExactUptoRow, standIns := [], harness := (true, "976e7870a00c318edb1e3061d8b65473806d85cf8b97f3b1a7a89a8e0ec6778a"), looks := false }, kinds := [], alts := [], laidByText := true, laidKinds := [.data, .widerDeep], laidTests := true, laidLooks := .later }
def AuthExactUptoCardSaid : Prop := Claim7.holds Tryd.pinned (.plain (OpenSpec.upto authExactSpec)) authExactUptoCard

/-- THE SECOND FORM's CARD OF 'dunnagelaw06.AuthLifetime'. -/
def authLifetimeUptoCard : Claim7 := { stood := { row := authLifetimeUptoRow, standIns := [], harness := (true, "976e7870a00c318edb1e3061d8b65473806d85cf8b97f3b1a7a89a8e0ec6778a"), looks := false }, kinds := [], alts := [], laidByText := true, laidKinds := [.data, .widerDeep], laidTests := true, laidLooks := .later }
def AuthLifetimeUptoCardSaid : Prop := Claim7.holds Tryd.pinned (.plain (OpenSpec.upto authLifetimeSpec)) authLifetimeUptoCard

/-- THE SECOND FORM's CARD OF 'dunnagelaw06.AuthOthers'. -/
def authOthersUptoCard : Claim7 := { stood := { row := authOthersUptoRow, standIns := [], harness := (true, "976e7870a00c318edb1e3061d8b65473806d85cf8b97f3b1a7a89a8e0ec6778a"), looks := false }, kinds := [], alts := [], laidByText := true, laidKinds := [.data, .widerDeep], laidTests := true, laidLooks := .later }
def AuthOthersUptoCardSaid : Prop := Claim7.holds Tryd.pinned (.plain (OpenSpec.upto authOthersSpec)) authOthersUptoCard

/-- THE SECOND FORM's CARD OF 'dunnagelaw06.AuthNever'. -/
def authNeverUptoCard : Claim7 := { stood := { row := authNeverUptoRow, standIns := [], harness := (true, "976e7870a00c318edb1e3061d8b65473806d85cf8b97f3b1a7a89a8e0ec6778a"), looks := false }, kinds := [], alts := [], laidByText := true, laidKinds := [.data, .widerDeep], laidTests := true, laidLooks := .later }
def AuthNeverUptoCardSaid : Prop := Claim7.holds Tryd.pinned (.plain (OpenSpec.upto authNeverSpec)) authNeverUptoCard

/-- THE SECOND FORM's CARD OF 'dunnagelaw06.AuthPlays'. -/
def authPlaysUptoCard : Claim7 := { stood := { row := authPlaysUptoRow, standIns := [], harness := (true, "976e7870a00c318edb1e3061d8b65473806d85cf8b97f3b1a7a89a8e0ec6778a"), looks := false }, kinds := [], alts := [], laidByText := true, laidKinds := [.data, .widerDeep], laidTests := true, laidLooks := .later }
def AuthPlaysUptoCardSaid : Prop := Claim7.holds Tryd.pinned (.plain (OpenSpec.upto authPlaysSpec)) authPlaysUptoCard

/-- THE SECOND FORM's CARD OF 'dunnagelaw06.AuthLive'. -/
def authLiveUptoCard : Claim7 := { stood := { row := authLiveUptoRow, standIns := [], harness := (true, "976e7870a00c318edb1e3061d8b65473806d85cf8b97f3b1a7a89a8e0ec6778a"), looks := false }, kinds := [], alts := [], laidByText := true, laidKinds := [.data, .widerDeep], laidTests := true, laidLooks := .later }
def AuthLiveUptoCardSaid : Prop := Claim7.holds Tryd.pinned (.plain (OpenSpec.upto authLiveSpec)) authLiveUptoCard

/-- THE SECOND FORM's CARD OF 'dunnagelaw06.AuthEncoding'. -/
def authEncodingUptoCard : Claim7 := { stood := { row := authEncodingUptoRow, standIns := [], harness := (true, "976e7870a00c318edb1e3061d8b65473806d85cf8b97f3b1a7a89a8e0ec6778a"), looks := false }, kinds := [], alts := [], laidByText := true, laidKinds := [.data, .widerDeep], laidTests := true, laidLooks := .later }
def AuthEncodingUptoCardSaid : Prop := Claim7.holds Tryd.pinned (.plain (OpenSpec.upto authEncodingSpec)) authEncodingUptoCard

/-- THE SECOND FORM's CARD OF 'dunnagelaw06.AuthExamples'. -/
def authExamplesUptoCard : Claim7 := { stood := { row := authExamplesUptoRow, standIns := [], harness := (true, "976e7870a00c318edb1e3061d8b65473806d85cf8b97f3b1a7a89a8e0ec6778a"), looks := false }, kinds := [], alts := [], laidByText := true, laidKinds := [.data, .widerDeep], laidTests := true, laidLooks := .later }
def AuthExamplesUptoCardSaid : Prop := Claim7.holds Tryd.pinned (.plain (OpenSpec.upto authExamplesSpec)) authExamplesUptoCard
end Rows
end Go.Proofs.YtioonimpobcglaaDoor
