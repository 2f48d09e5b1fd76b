/-
  NARROWER THAN 'FOR EVERY INPUT', by the rows' own cells (each row's printed sentence says how): AuthTokens: laid · AuthIssues: laid · AuthDecides: laid · AuthSigned: laid · AuthGrows: laid · AuthExact: laid · AuthLifetime: laid · AuthOthers: laid · AuthNever: laid · AuthPlays: laid · AuthLive: laid · AuthEncoding: laid · AuthExamples: laid.
  DERIVED. THE GIVEN ROWS OF THIS SEAT. 13 by the template 'for every input the law returns true; each argument reads behind the call as it read before'; 0 by the template 'total and deterministic' (their statements: YtioonimpobcglaaDoorTotals.lean).
  GIVEN WITH THE SEED: the statements are not yours to turn. If you find one false, say at which input.
  Laid BY PROGRAM, IN A SANDBOX (cutbox-rows.mjs): the forced cells as the released guide's own fill.sh prints them over the translation b1b80d8a9cd38d28… (all of the seat's roots in one cut). By AI agents, Wed Nov 11 2026. No macro, syntax, notation, axiom, sorry.
-/
import Derived.Test.YtioonimpobcglaaDoorChecked
import GoSem.Claim
import GoSem.ClaimJoined
import GoSem.ClaimMapViews
import Derived.JoinedTies
import Derived.KernelRfl
namespace Go.Proofs.YtioonimpobcglaaDoor
/- THE CELL 'sum', in the pinned program and in every row, IS THE sha256 OF THE DUMP (.gsa) THAT YtioonimpobcglaaDoorProg.lean LOADS. Nothing in Lean hashes anything: it is a label: what it is worth is what the hold of that sum in a sandbox is worth. -/
noncomputable def Tryd.pinned : Pinned := { name := "ytioonimpobcglaadoor", sum := "b1b80d8a9cd38d28f3bc3d3151245cd2b0d787009e40f43d34bd5fe1043cd577", checked := Tryd.checked }
namespace Rows
def none {H : Type} : Left H := { results := [], args := [] }

/- WHAT THE LISTED PACKAGE-LEVEL VARIABLES READ AS WHEN THE CALL BEGINS. Each datum BY PROGRAM (the guide's laid-datum.mjs) off the statement by which the dump's own 'gosem.cut.vars' lays the variable. In a bare row this is a premise. The card (YtioonimpobcglaaDoorCards.lean) ties it to the program's text. -/
def laid_dunnage_digest_constants {H : Type} : DataW H := .agg [.lit (.int .u32 1116352408), .lit (.int .u32 1899447441), .lit (.int .u32 3049323471), .lit (.int .u32 3921009573), .lit (.int .u32 961987163), .lit (.int .u32 1508970993), .lit (.int .u32 2453635748), .lit (.int .u32 2870763221), .lit (.int .u32 3624381080), .lit (.int .u32 310598401), .lit (.int .u32 607225278), .lit (.int .u32 1426881987), .lit (.int .u32 1925078388), .lit (.int .u32 2162078206), .lit (.int .u32 2614888103), .lit (.int .u32 3248222580), .lit (.int .u32 3835390401), .lit (.int .u32 4022224774), .lit (.int .u32 264347078), .lit (.int .u32 604807628), .lit (.int .u32 770255983), .lit (.int .u32 1249150122), .lit (.int .u32 1555081692), .lit (.int .u32 1996064986), .lit (.int .u32 2554220882), .lit (.int .u32 2821834349), .lit (.int .u32 2952996808), .lit (.int .u32 3210313671), .lit (.int .u32 3336571891), .lit (.int .u32 3584528711), .lit (.int .u32 113926993), .lit (.int .u32 338241895), .lit (.int .u32 666307205), .lit (.int .u32 773529912), .lit (.int .u32 1294757372), .lit (.int .u32 1396182291), .lit (.int .u32 1695183700), .lit (.int .u32 1986661051), .lit (.int .u32 2177026350), .lit (.int .u32 2456956037), .lit (.int .u32 2730485921), .lit (.int .u32 2820302411), .lit (.int .u32 3259730800), .lit (.int .u32 3345764771), .lit (.int .u32 3516065817), .lit (.int .u32 3600352804), .lit (.int .u32 4094571909), .lit (.int .u32 275423344), .lit (.int .u32 430227734), .lit (.int .u32 506948616), .lit (.int .u32 659060556), .lit (.int .u32 883997877), .lit (.int .u32 958139571), .lit (.int .u32 1322822218), .lit (.int .u32 1537002063), .lit (.int .u32 1747873779), .lit (.int .u32 1955562222), .lit (.int .u32 2024104815), .lit (.int .u32 2227730452), .lit (.int .u32 2361852424), .lit (.int .u32 2428436474), .lit (.int .u32 2756734187), .lit (.int .u32 3204031479), .lit (.int .u32 3329325298)]
def laid_dunnage_auth_permissions {H : Type} : DataW H := .agg [.slice [] [], .slice [.lit (.int .u8 3), .lit (.int .u8 4), .lit (.int .u8 5)] [], .slice [.lit (.int .u8 3), .lit (.int .u8 4), .lit (.int .u8 5), .lit (.int .u8 1), .lit (.int .u8 2)] [], .slice [.lit (.int .u8 3), .lit (.int .u8 4), .lit (.int .u8 5), .lit (.int .u8 1), .lit (.int .u8 2), .lit (.int .u8 6)] []]

/-- 'dunnagelaw06.AuthTokens': WHATEVER THE INPUT: true; the input reads as it did. -/
def authTokensSpec : ChangeSpec := { name := "authTokens", fn := fun _ => fun
  | [d1, d2, d3] => { results := [.lit (.bool true)], args := [d1, d2, d3] }
  | _ => none }
def authTokensRow : OpenClaim := { program := "ytioonimpobcglaadoor", sum := "b1b80d8a9cd38d28f3bc3d3151245cd2b0d787009e40f43d34bd5fe1043cd577", func := "dunnage/dunnagelaw06.AuthTokens", spec := "authTokens", unfollowed := true, recurses := true, named := ["dunnage/digest.constants"], apart := false, laid := [("dunnage/digest.constants", laid_dunnage_digest_constants)] }
def AuthTokensSaid : Prop := authTokensRow.holds Tryd.pinned (OpenSpec.ofChange authTokensSpec)

/-- ITS FALSE NEIGHBOUR: 'it returns false'. Refute it at one input. -/
def authTokensWrong : ChangeSpec := { name := "authTokens", fn := fun _ => fun
  | [d1, d2, d3] => { results := [.lit (.bool false)], args := [d1, d2, d3] }
  | _ => none }
def AuthTokensWrongFalsely : Prop := authTokensRow.holds Tryd.pinned (OpenSpec.ofChange authTokensWrong)

/-- 'dunnagelaw06.AuthIssues': WHATEVER THE INPUT: true; the input reads as it did. -/
def authIssuesSpec : ChangeSpec := { name := "authIssues", fn := fun _ => fun
  | [d1, d2, d3, d4, d5, d6] => { results := [.lit (.bool true)], args := [d1, d2, d3, d4, d5, d6] }
  | _ => none }
def authIssuesRow : OpenClaim := { program := "ytioonimpobcglaadoor", sum := "b1b80d8a9cd38d28f3bc3d3151245cd2b0d787009e40f43d34bd5fe1043cd577", func := "dunnage/dunnagelaw06.AuthIssues", spec := "authIssues", unfollowed := true, recurses := true, named := ["dunnage/digest.constants"], apart := false, laid := [("dunnage/digest.constants", laid_dunnage_digest_constants)] }
def AuthIssuesSaid : Prop := authIssuesRow.holds Tryd.pinned (OpenSpec.ofChange authIssuesSpec)

/-- ITS FALSE NEIGHBOUR: 'it returns false'. Refute it at one input. -/
def authIssuesWrong : ChangeSpec := { name := "authIssues", fn := fun _ => fun
  | [d1, d2, d3, d4, d5, d6] => { results := [.lit (.bool false)], args := [d1, d2, d3, d4, d5, d6] }
  | _ => none }
def AuthIssuesWrongFalsely : Prop := authIssuesRow.holds Tryd.pinned (OpenSpec.ofChange authIssuesWrong)

/-- 'dunnagelaw06.AuthDecides': WHATEVER THE INPUT: true; the input reads as it did. -/
def authDecidesSpec : ChangeSpec := { name := "authDecides", fn := fun _ => fun
  | [d1, d2, d3, d4, d5, d6] => { results := [.lit (.bool true)], args := [d1, d2, d3, d4, d5, d6] }
  | _ => none }
def authDecidesRow : OpenClaim := { program := "ytioonimpobcglaadoor", sum := "b1b80d8a9cd38d28f3bc3d3151245cd2b0d787009e40f43d34bd5fe1043cd577", func := "dunnage/dunnagelaw06.AuthDecides", spec := "authDecides", unfollowed := true, recurses := true, named := ["dunnage/auth.permissions", "dunnage/digest.constants"], apart := false, laid := [("dunnage/digest.constants", laid_dunnage_digest_constants), ("dunnage/auth.permissions", laid_dunnage_auth_permissions)] }
def AuthDecidesSaid : Prop := authDecidesRow.holds Tryd.pinned (OpenSpec.ofChange authDecidesSpec)

/-- ITS FALSE NEIGHBOUR: 'it returns false'. Refute it at one input. -/
def authDecidesWrong : ChangeSpec := { name := "authDecides", fn := fun _ => fun
  | [d1, d2, d3, d4, d5, d6] => { results := [.lit (.bool false)], args := [d1, d2, d3, d4, d5, d6] }
  | _ => none }
def AuthDecidesWrongFalsely : Prop := authDecidesRow.holds Tryd.pinned (OpenSpec.ofChange authDecidesWrong)

/-- 'dunnagelaw06.AuthSigned': WHATEVER THE INPUT: true; the input reads as it did. -/
def authSignedSpec : ChangeSpec := { name := "authSigned", fn := fun _ => fun
  | [d1, d2, d3] => { results := [.lit (.bool true)], args := [d1, d2, d3] }
  | _ => none }
def authSignedRow : OpenClaim := { program := "ytioonimpobcglaadoor", sum := "b1b80d8a9cd38d28f3bc3d3151245cd2b0d787009e40f43d34bd5fe1043cd577", func := "dunnage/dunnagelaw06.AuthSigned", spec := "authSigned", unfollowed := true, recurses := true, named := ["dunnage/digest.constants", "dunnage/auth.permissions"], apart := false, laid := [("dunnage/digest.constants", laid_dunnage_digest_constants), ("dunnage/auth.permissions", laid_dunnage_auth_permissions)] }
def AuthSignedSaid : Prop := authSignedRow.holds Tryd.pinned (OpenSpec.ofChange authSignedSpec)

/-- ITS FALSE NEIGHBOUR: 'it returns false'. Refute it at one input. -/
def authSignedWrong : ChangeSpec := { name := "authSigned", fn := fun _ => fun
  | [d1, d2, d3] => { results := [.lit (.bool false)], args := [d1, d2, d3] }
  | _ => none }
def AuthSignedWrongFalsely : Prop := authSignedRow.holds Tryd.pinned (OpenSpec.ofChange authSignedWrong)

/-- 'dunnagelaw06.AuthGrows': WHATEVER THE INPUT: true; the input reads as it did. -/
def authGrowsSpec : ChangeSpec := { name := "authGrows", fn := fun _ => fun
  | [d1, d2] => { results := [.lit (.bool true)], args := [d1, d2] }
  | _ => none }
def authGrowsRow : OpenClaim := { program := "ytioonimpobcglaadoor", sum := "b1b80d8a9cd38d28f3bc3d3151245cd2b0d787009e40f43d34bd5fe1043cd577", func := "dunnage/dunnagelaw06.AuthGrows", spec := "authGrows", unfollowed := true, recurses := true, named := ["dunnage/digest.constants", "dunnage/auth.permissions"], apart := false, laid := [("dunnage/digest.constants", laid_dunnage_digest_constants), ("dunnage/auth.permissions", laid_dunnage_auth_permissions)] }
def AuthGrowsSaid : Prop := authGrowsRow.holds Tryd.pinned (OpenSpec.ofChange authGrowsSpec)

/-- ITS FALSE NEIGHBOUR: 'it returns false'. Refute it at one input. -/
def authGrowsWrong : ChangeSpec := { name := "authGrows", fn := fun _ => fun
  | [d1, d2] => { results := [.lit (.bool false)], args := [d1, d2] }
  | _ => none }
def AuthGrowsWrongFalsely : Prop := authGrowsRow.holds Tryd.pinned (OpenSpec.ofChange authGrowsWrong)

/-- 'dunnagelaw06.AuthExact': WHATEVER THE INPUT: true; the input reads as it did. -/
def authExactSpec : ChangeSpec := { name := "authExact", fn := fun _ => fun
  | [d1, d2, d3, d4, d5, d6] => { results := [.lit (.bool true)], args := [d1, d2, d3, d4, d5, d6] }
  | _ => none }
def authExactRow : OpenClaim := { program := "ytioonimpobcglaadoor", sum := "b1b80d8a9cd38d28f3bc3d3151245cd2b0d787009e40f43d34bd5fe1043cd577", func := "dunnage/dunnagelaw06.AuthExact", spec := "authExact", unfollowed := true, recurses := true, named := ["dunnage/digest.constants", "dunnage/auth.permissions"], apart := false, laid := [("dunnage/digest.constants", laid_dunnage_digest_constants), ("dunnage/auth.permissions", laid_dunnage_auth_permissions)] }
def AuthExactSaid : Prop := authExactRow.holds Tryd.pinned (OpenSpec.ofChange authExactSpec)

/-- ITS FALSE NEIGHBOUR: 'it returns false'. Refute it at one input. -/
def authExactWrong : ChangeSpec := { name := "authExact", fn := fun _ => fun
  | [d1, d2, d3, d4, d5, d6] => { results := [.lit (.bool false)], args := [d1, d2, d3, d4, d5, d6] }
  | _ => none }
def AuthExactWrongFalsely : Prop := authExactRow.holds Tryd.pinned (OpenSpec.ofChange authExactWrong)

/-- 'dunnagelaw06.AuthLifetime': WHATEVER THE INPUT: true; the input reads as it did. -/
def authLifetimeSpec : ChangeSpec := { name := "authLifetime", fn := fun _ => fun
  | [d1, d2, d3, d4, d5, d6, d7, d8] => { results := [.lit (.bool true)], args := [d1, d2, d3, d4, d5, d6, d7, d8] }
  | _ => none }
def authLifetimeRow : OpenClaim := { program := "ytioonimpobcglaadoor", sum := "b1b80d8a9cd38d28f3bc3d3151245cd2b0d787009e40f43d34bd5fe1043cd577", func := "dunnage/dunnagelaw06.AuthLifetime", spec := "authLifetime", unfollowed := true, recurses := true, named := ["dunnage/digest.constants", "dunnage/auth.permissions"], apart := false, laid := [("dunnage/digest.constants", laid_dunnage_digest_constants), ("dunnage/auth.permissions", laid_dunnage_auth_permissions)] }
def AuthLifetimeSaid : Prop := authLifetimeRow.holds Tryd.pinned (OpenSpec.ofChange authLifetimeSpec)

/-- ITS FALSE NEIGHBOUR: 'it returns false'. Refute it at one input. -/
def authLifetimeWrong : ChangeSpec := { name := "authLifetime", fn := fun _ => fun
  | [d1, d2, d3, d4, d5, d6, d7, d8] => { results := [.lit (.bool false)], args := [d1, d2, d3, d4, d5, d6, d7, d8] }
  | _ => none }
def AuthLifetimeWrongFalsely : Prop := authLifetimeRow.holds Tryd.pinned (OpenSpec.ofChange authLifetimeWrong)

/-- 'dunnagelaw06.AuthOthers': WHATEVER THE INPUT: true; the input reads as it did. -/
def authOthersSpec : ChangeSpec := { name := "authOthers", fn := fun _ => fun
  | [d1, d2, d3, d4, d5, d6, d7, d8] => { results := [.lit (.bool true)], args := [d1, d2, d3, d4, d5, d6, d7, d8] }
  | _ => none }
def authOthersRow : OpenClaim := { program := "ytioonimpobcglaadoor", sum := "b1b80d8a9cd38d28f3bc3d3151245cd2b0d787009e40f43d34bd5fe1043cd577", func := "dunnage/dunnagelaw06.AuthOthers", spec := "authOthers", unfollowed := true, recurses := true, named := ["dunnage/digest.constants", "dunnage/auth.permissions"], apart := false, laid := [("dunnage/digest.constants", laid_dunnage_digest_constants), ("dunnage/auth.permissions", laid_dunnage_auth_permissions)] }
def AuthOthersSaid : Prop := authOthersRow.holds Tryd.pinned (OpenSpec.ofChange authOthersSpec)

/-- ITS FALSE NEIGHBOUR: 'it returns false'. Refute it at one input. -/
def authOthersWrong : ChangeSpec := { name := "authOthers", fn := fun _ => fun
  | [d1, d2, d3, d4, d5, d6, d7, d8] => { results := [.lit (.bool false)], args := [d1, d2, d3, d4, d5, d6, d7, d8] }
  | _ => none }
def AuthOthersWrongFalsely : Prop := authOthersRow.holds Tryd.pinned (OpenSpec.ofChange authOthersWrong)

/-- 'dunnagelaw06.AuthNever': WHATEVER THE INPUT: true; the input reads as it did. -/
def authNeverSpec : ChangeSpec := { name := "authNever", fn := fun _ => fun
  | [d1, d2, d3, d4, d5, d6, d7, d8] => { results := [.lit (.bool true)], args := [d1, d2, d3, d4, d5, d6, d7, d8] }
  | _ => none }
def authNeverRow : OpenClaim := { program := "ytioonimpobcglaadoor", sum := "b1b80d8a9cd38d28f3bc3d3151245cd2b0d787009e40f43d34bd5fe1043cd577", func := "dunnage/dunnagelaw06.AuthNever", spec := "authNever", unfollowed := true, recurses := true, named := ["dunnage/digest.constants", "dunnage/auth.permissions"], apart := false, laid := [("dunnage/digest.constants", laid_dunnage_digest_constants), ("dunnage/auth.permissions", laid_dunnage_auth_permissions)] }
def AuthNeverSaid : Prop := authNeverRow.holds Tryd.pinned (OpenSpec.ofChange authNeverSpec)

/-- ITS FALSE NEIGHBOUR: 'it returns false'. Refute it at one input. -/
def authNeverWrong : ChangeSpec := { name := "authNever", fn := fun _ => fun
  | [d1, d2, d3, d4, d5, d6, d7, d8] => { results := [.lit (.bool false)], args := [d1, d2, d3, d4, d5, d6, d7, d8] }
  | _ => none }
def AuthNeverWrongFalsely : Prop := authNeverRow.holds Tryd.pinned (OpenSpec.ofChange authNeverWrong)

/-- 'dunnagelaw06.AuthPlays': WHATEVER THE INPUT: true; the input reads as it did. -/
def authPlaysSpec : ChangeSpec := { name := "authPlays", fn := fun _ => fun
  | [d1, d2, d3] => { results := [.lit (.bool true)], args := [d1, d2, d3] }
  | _ => none }
def authPlaysRow : OpenClaim := { program := "ytioonimpobcglaadoor", sum := "b1b80d8a9cd38d28f3bc3d3151245cd2b0d787009e40f43d34bd5fe1043cd577", func := "dunnage/dunnagelaw06.AuthPlays", spec := "authPlays", unfollowed := true, recurses := true, named := ["dunnage/digest.constants", "dunnage/auth.permissions"], apart := false, laid := [("dunnage/digest.constants", laid_dunnage_digest_constants), ("dunnage/auth.permissions", laid_dunnage_auth_permissions)] }
def AuthPlaysSaid : Prop := authPlaysRow.holds Tryd.pinned (OpenSpec.ofChange authPlaysSpec)

/-- ITS FALSE NEIGHBOUR: 'it returns false'. Refute it at one input. -/
def authPlaysWrong : ChangeSpec := { name := "authPlays", fn := fun _ => fun
  | [d1, d2, d3] => { results := [.lit (.bool false)], args := [d1, d2, d3] }
  | _ => none }
def AuthPlaysWrongFalsely : Prop := authPlaysRow.holds Tryd.pinned (OpenSpec.ofChange authPlaysWrong)

/-- 'dunnagelaw06.AuthLive': WHATEVER THE INPUT: true; the input reads as it did. -/
def authLiveSpec : ChangeSpec := { name := "authLive", fn := fun _ => fun
  | [d1, d2, d3, d4] => { results := [.lit (.bool true)], args := [d1, d2, d3, d4] }
  | _ => none }
def authLiveRow : OpenClaim := { program := "ytioonimpobcglaadoor", sum := "b1b80d8a9cd38d28f3bc3d3151245cd2b0d787009e40f43d34bd5fe1043cd577", func := "dunnage/dunnagelaw06.AuthLive", spec := "authLive", unfollowed := true, recurses := true, named := ["dunnage/digest.constants", "dunnage/auth.permissions"], apart := false, laid := [("dunnage/digest.constants", laid_dunnage_digest_constants), ("dunnage/auth.permissions", laid_dunnage_auth_permissions)] }
def AuthLiveSaid : Prop := authLiveRow.holds Tryd.pinned (OpenSpec.ofChange authLiveSpec)

/-- ITS FALSE NEIGHBOUR: 'it returns false'. Refute it at one input. -/
def authLiveWrong : ChangeSpec := { name := "authLive", fn := fun _ => fun
  | [d1, d2, d3, d4] => { results := [.lit (.bool false)], args := [d1, d2, d3, d4] }
  | _ => none }
def AuthLiveWrongFalsely : Prop := authLiveRow.holds Tryd.pinned (OpenSpec.ofChange authLiveWrong)

/-- 'dunnagelaw06.AuthEncoding': WHATEVER THE INPUT: true; the input reads as it did. -/
def authEncodingSpec : ChangeSpec := { name := "authEncoding", fn := fun _ => fun
  | [d1, d2] => { results := [.lit (.bool true)], args := [d1, d2] }
  | _ => none }
def authEncodingRow : OpenClaim := { program := "ytioonimpobcglaadoor", sum := "b1b80d8a9cd38d28f3bc3d3151245cd2b0d787009e40f43d34bd5fe1043cd577", func := "dunnage/dunnagelaw06.AuthEncoding", spec := "authEncoding", unfollowed := true, recurses := true, named := ["dunnage/digest.constants", "dunnage/auth.permissions"], apart := false, laid := [("dunnage/digest.constants", laid_dunnage_digest_constants), ("dunnage/auth.permissions", laid_dunnage_auth_permissions)] }
def AuthEncodingSaid : Prop := authEncodingRow.holds Tryd.pinned (OpenSpec.ofChange authEncodingSpec)

/-- ITS FALSE NEIGHBOUR: 'it returns false'. Refute it at one input. -/
def authEncodingWrong : ChangeSpec := { name := "authEncoding", fn := fun _ => fun
  | [d1, d2] => { results := [.lit (.bool false)], args := [d1, d2] }
  | _ => none }
def AuthEncodingWrongFalsely : Prop := authEncodingRow.holds Tryd.pinned (OpenSpec.ofChange authEncodingWrong)

/-- 'dunnagelaw06.AuthExamples': WHATEVER THE INPUT: true; the input reads as it did. -/
def authExamplesSpec : ChangeSpec := { name := "authExamples", fn := fun _ => fun
  | [] => { results := [.lit (.bool true)], args := [] }
  | _ => none }
def authExamplesRow : OpenClaim := { program := "ytioonimpobcglaadoor", sum := "b1b80d8a9cd38d28f3bc3d3151245cd2b0d787009e40f43d34bd5fe1043cd577", func := "dunnage/dunnagelaw06.AuthExamples", spec := "authExamples", unfollowed := true, recurses := true, named := ["dunnage/digest.constants", "dunnage/auth.permissions"], apart := false, laid := [("dunnage/digest.constants", laid_dunnage_digest_constants), ("dunnage/auth.permissions", laid_dunnage_auth_permissions)] }
def AuthExamplesSaid : Prop := authExamplesRow.holds Tryd.pinned (OpenSpec.ofChange authExamplesSpec)

/-- ITS FALSE NEIGHBOUR: 'it returns false'. Refute it at one input. -/
def authExamplesWrong : ChangeSpec := { name := "authExamples", fn := fun _ => fun
  | [] => { results := [.lit (.bool false)], args := [] }
  | _ => none }
def AuthExamplesWrongFalsely : Prop := authExamplesRow.holds Tryd.pinned (OpenSpec.ofChange authExamplesWrong)

/- THE SECOND FORM. 'bulk': how many values and letters a reading holds, each counted each time it is reached (what is shared counts as often as it is met; a slice's spare places count too). A statement '..UptoSaid' is the law's where the arguments, and the package variables that the reading takes, are together of bulk at most 1048576: NARROWER than '..Said'. Prove '..Said' where nothing that the law and all that it calls make is longer than what came in: it says more and counts as full. Else prove '..UptoSaid'. A law counts once. -/
mutual
def uptoBulk {H : Type} : DataW H → Nat
  | .lit (.string bytes) => bytes.length + 1
  | .lit _ => 1
  | .nil => 1
  | .ptr d => uptoBulk d + 1
  | .slice elems spare => uptoBulkAll elems + uptoBulkAll spare + 1
  | .agg parts => uptoBulkAll parts + 1
  | .iface _ d => uptoBulk d + 1
  | .map entries => uptoBulkEntries entries + 1
  | .held _ => 1
def uptoBulkAll {H : Type} : List (DataW H) → Nat
  | [] => 0
  | d :: r => uptoBulk d + uptoBulkAll r
def uptoBulkEntries {H : Type} : List (Lit × DataW H) → Nat
  | [] => 0
  | x :: r => uptoBulkEntry x + uptoBulkEntries r
def uptoBulkEntry {H : Type} : Lit × DataW H → Nat
  | (.string bytes, d) => bytes.length + uptoBulk d + 1
  | (_, d) => uptoBulk d + 1
 end
def uptoSmall : (H : Type) → List (DataW H) → Bool := fun _ ds => decide (uptoBulkAll ds ≤ 1048576)
def OpenSpec.upto (s : _root_.Go.ChangeSpec) : _root_.Go.OpenSpec := { _root_.Go.OpenSpec.ofChange s with cond := some uptoSmall }

/-- 'dunnagelaw06.AuthTokens', WHERE WHAT IT READS IS OF BULK AT MOST 1048576: true; the input reads as it did. -/
def authTokensUptoRow : OpenClaim := { program := "ytioonimpobcglaadoor", sum := "b1b80d8a9cd38d28f3bc3d3151245cd2b0d787009e40f43d34bd5fe1043cd577", func := "dunnage/dunnagelaw06.AuthTokens", spec := "authTokens", unfollowed := true, recurses := true, named := ["dunnage/digest.constants"], apart := false, laid := [("dunnage/digest.constants", laid_dunnage_digest_constants)], narrowed := true }
def AuthTokensUptoSaid : Prop := authTokensUptoRow.holds Tryd.pinned (OpenSpec.upto authTokensSpec)

/-- 'dunnagelaw06.AuthIssues', WHERE WHAT IT READS IS OF BULK AT MOST 1048576: true; the input reads as it did. -/
def authIssuesUptoRow : OpenClaim := { program := "ytioonimpobcglaadoor", sum := "b1b80d8a9cd38d28f3bc3d3151245cd2b0d787009e40f43d34bd5fe1043cd577", func := "dunnage/dunnagelaw06.AuthIssues", spec := "authIssues", unfollowed := true, recurses := true, named := ["dunnage/digest.constants"], apart := false, laid := [("dunnage/digest.constants", laid_dunnage_digest_constants)], narrowed := true }
def AuthIssuesUptoSaid : Prop := authIssuesUptoRow.holds Tryd.pinned (OpenSpec.upto authIssuesSpec)

/-- 'dunnagelaw06.AuthDecides', WHERE WHAT IT READS IS OF BULK AT MOST 1048576: true; the input reads as it did. -/
def authDecidesUptoRow : OpenClaim := { program := "ytioonimpobcglaadoor", sum := "b1b80d8a9cd38d28f3bc3d3151245cd2b0d787009e40f43d34bd5fe1043cd577", func := "dunnage/dunnagelaw06.AuthDecides", spec := "authDecides", unfollowed := true, recurses := true, named := ["dunnage/auth.permissions", "dunnage/digest.constants"], apart := false, laid := [("dunnage/digest.constants", laid_dunnage_digest_constants), ("dunnage/auth.permissions", laid_dunnage_auth_permissions)], narrowed := true }
def AuthDecidesUptoSaid : Prop := authDecidesUptoRow.holds Tryd.pinned (OpenSpec.upto authDecidesSpec)

/-- 'dunnagelaw06.AuthSigned', WHERE WHAT IT READS IS OF BULK AT MOST 1048576: true; the input reads as it did. -/
def authSignedUptoRow : OpenClaim := { program := "ytioonimpobcglaadoor", sum := "b1b80d8a9cd38d28f3bc3d3151245cd2b0d787009e40f43d34bd5fe1043cd577", func := "dunnage/dunnagelaw06.AuthSigned", spec := "authSigned", unfollowed := true, recurses := true, named := ["dunnage/digest.constants", "dunnage/auth.permissions"], apart := false, laid := [("dunnage/digest.constants", laid_dunnage_digest_constants), ("dunnage/auth.permissions", laid_dunnage_auth_permissions)], narrowed := true }
def AuthSignedUptoSaid : Prop := authSignedUptoRow.holds Tryd.pinned (OpenSpec.upto authSignedSpec)

/-- 'dunnagelaw06.AuthGrows', WHERE WHAT IT READS IS OF BULK AT MOST 1048576: true; the input reads as it did. -/
def authGrowsUptoRow : OpenClaim := { program := "ytioonimpobcglaadoor", sum := "b1b80d8a9cd38d28f3bc3d3151245cd2b0d787009e40f43d34bd5fe1043cd577", func := "dunnage/dunnagelaw06.AuthGrows", spec := "authGrows", unfollowed := true, recurses := true, named := ["dunnage/digest.constants", "dunnage/auth.permissions"], apart := false, laid := [("dunnage/digest.constants", laid_dunnage_digest_constants), ("dunnage/auth.permissions", laid_dunnage_auth_permissions)], narrowed := true }
def AuthGrowsUptoSaid : Prop := authGrowsUptoRow.holds Tryd.pinned (OpenSpec.upto authGrowsSpec)

/-- 'dunnagelaw06.AuthExact', WHERE WHAT IT READS IS OF BULK AT MOST 1048576: true; the input reads as it did. -/
def authExactUptoRow : OpenClaim := { program := "ytioonimpobcglaadoor", sum := "b1b80d8a9cd38d28f3bc3d3151245cd2b0d787009e40f43d34bd5fe1043cd577", func := "dunnage/dunnagelaw06.AuthExact", spec := "authExact", unfollowed := true, recurses := true, named := ["dunnage/digest.constants", "dunnage/auth.permissions"], apart := false, laid := [("dunnage/digest.constants", laid_dunnage_digest_constants), ("dunnage/auth.permissions", laid_dunnage_auth_permissions)], narrowed := true }
def AuthExactUptoSaid : Prop := authExactUptoRow.holds Tryd.pinned (OpenSpec.upto authExactSpec)

/-- 'dunnagelaw06.AuthLifetime', WHERE WHAT IT READS IS OF BULK AT MOST 1048576: true; the input reads as it did. -/
def authLifetimeUptoRow : OpenClaim := { program := "ytioonimpobcglaadoor", sum := "b1b80d8a9cd38d28f3bc3d3151245cd2b0d787009e40f43d34bd5fe1043cd577", func := "dunnage/dunnagelaw06.AuthLifetime", spec := "authLifetime", unfollowed := true, recurses := true, named := ["dunnage/digest.constants", "dunnage/auth.permissions"], apart := false, laid := [("dunnage/digest.constants", laid_dunnage_digest_constants), ("dunnage/auth.permissions", laid_dunnage_auth_permissions)], narrowed := true }
def AuthLifetimeUptoSaid : Prop := authLifetimeUptoRow.holds Tryd.pinned (OpenSpec.upto authLifetimeSpec)

/-- 'dunnagelaw06.AuthOthers', WHERE WHAT IT READS IS OF BULK AT MOST 1048576: true; the input reads as it did. -/
def authOthersUptoRow : OpenClaim := { program := "ytioonimpobcglaadoor", sum := "b1b80d8a9cd38d28f3bc3d3151245cd2b0d787009e40f43d34bd5fe1043cd577", func := "dunnage/dunnagelaw06.AuthOthers", spec := "authOthers", unfollowed := true, recurses := true, named := ["dunnage/digest.constants", "dunnage/auth.permissions"], apart := false, laid := [("dunnage/digest.constants", laid_dunnage_digest_constants), ("dunnage/auth.permissions", laid_dunnage_auth_permissions)], narrowed := true }
def AuthOthersUptoSaid : Prop := authOthersUptoRow.holds Tryd.pinned (OpenSpec.upto authOthersSpec)

/-- 'dunnagelaw06.AuthNever', WHERE WHAT IT READS IS OF BULK AT MOST 1048576: true; the input reads as it did. -/
def authNeverUptoRow : OpenClaim := { program := "ytioonimpobcglaadoor", sum := "b1b80d8a9cd38d28f3bc3d3151245cd2b0d787009e40f43d34bd5fe1043cd577", func := "dunnage/dunnagelaw06.AuthNever", spec := "authNever", unfollowed := true, recurses := true, named := ["dunnage/digest.constants", "dunnage/auth.permissions"], apart := false, laid := [("dunnage/digest.constants", laid_dunnage_digest_constants), ("dunnage/auth.permissions", laid_dunnage_auth_permissions)], narrowed := true }
def AuthNeverUptoSaid : Prop := authNeverUptoRow.holds Tryd.pinned (OpenSpec.upto authNeverSpec)

/-- 'dunnagelaw06.AuthPlays', WHERE WHAT IT READS IS OF BULK AT MOST 1048576: true; the input reads as it did. -/
def authPlaysUptoRow : OpenClaim := { program := "ytioonimpobcglaadoor", sum := "b1b80d8a9cd38d28f3bc3d3151245cd2b0d787009e40f43d34bd5fe1043cd577", func := "dunnage/dunnagelaw06.AuthPlays", spec := "authPlays", unfollowed := true, recurses := true, named := ["dunnage/digest.constants", "dunnage/auth.permissions"], apart := false, laid := [("dunnage/digest.constants", laid_dunnage_digest_constants), ("dunnage/auth.permissions", laid_dunnage_auth_permissions)], narrowed := true }
def AuthPlaysUptoSaid : Prop := authPlaysUptoRow.holds Tryd.pinned (OpenSpec.upto authPlaysSpec)

/-- 'dunnagelaw06.AuthLive', WHERE WHAT IT READS IS OF BULK AT MOST 1048576: true; the input reads as it did. -/
def authLiveUptoRow : OpenClaim := { program := "ytioonimpobcglaadoor", sum := "b1b80d8a9cd38d28f3bc3d3151245cd2b0d787009e40f43d34bd5fe1043cd577", func := "dunnage/dunnagelaw06.AuthLive", spec := "authLive", unfollowed := true, recurses := true, named := ["dunnage/digest.constants", "dunnage/auth.permissions"], apart := false, laid := [("dunnage/digest.constants", laid_dunnage_digest_constants), ("dunnage/auth.permissions", laid_dunnage_auth_permissions)], narrowed := true }
def AuthLiveUptoSaid : Prop := authLiveUptoRow.holds Tryd.pinned (OpenSpec.upto authLiveSpec)

/-- 'dunnagelaw06.AuthEncoding', WHERE WHAT IT READS IS OF BULK AT MOST 1048576: true; the input reads as it did. -/
def authEncodingUptoRow : OpenClaim := { program := "ytioonimpobcglaadoor", sum := "b1b80d8a9cd38d28f3bc3d3151245cd2b0d787009e40f43d34bd5fe1043cd577", func := "dunnage/dunnagelaw06.AuthEncoding", spec := "authEncoding", unfollowed := true, recurses := true, named := ["dunnage/digest.constants", "dunnage/auth.permissions"], apart := false, laid := [("dunnage/digest.constants", laid_dunnage_digest_constants), ("dunnage/auth.permissions", laid_dunnage_auth_permissions)], narrowed := true }
def AuthEncodingUptoSaid : Prop := authEncodingUptoRow.holds Tryd.pinned (OpenSpec.upto authEncodingSpec)

/-- 'dunnagelaw06.AuthExamples', WHERE WHAT IT READS IS OF BULK AT MOST 1048576: true; the input reads as it did. -/
def authExamplesUptoRow : OpenClaim := { program := "ytioonimpobcglaadoor", sum := "b1b80d8a9cd38d28f3bc3d3151245cd2b0d787009e40f43d34bd5fe1043cd577", func := "dunnage/dunnagelaw06.AuthExamples", spec := "authExamples", unfollowed := true, recurses := true, named := ["dunnage/digest.constants", "dunnage/auth.permissions"], apart := false, laid := [("dunnage/digest.constants", laid_dunnage_digest_constants), ("dunnage/auth.permissions", laid_dunnage_auth_permissions)], narrowed := true }
def AuthExamplesUptoSaid : Prop := authExamplesUptoRow.holds Tryd.pinned (OpenSpec.upto authExamplesSpec)

end Rows
end Go.Proofs.YtioonimpobcglaaDoor
