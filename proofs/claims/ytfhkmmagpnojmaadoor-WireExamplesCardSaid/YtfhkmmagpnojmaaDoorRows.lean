/-
  NARROWER THAN 'FOR EVERY INPUT', by the rows' own cells (each row's printed sentence says how): WireLinks: laid · WireVerifies: laid · WireLogs: laid · WireWhole: laid · WireStream: laid · WireFrames: laid · WireRequestBack: laid · WireReplyBack: laid · WireLink: laid · WireProof: laid · WireFull: laid · WireExamples: laid · WireChain: laid.
  DERIVED. THE GIVEN ROWS OF THIS SEAT. 13 by the template 'for every input the law returns true; each argument reads behind the call as it read before'; 0 by the template 'total and deterministic' (their statements: YtfhkmmagpnojmaaDoorTotals.lean).
  GIVEN WITH THE SEED: the statements are not yours to turn. If you find one false, say at which input.
  Laid BY PROGRAM, IN A SANDBOX (cutbox-rows.mjs): the forced cells as the released guide's own fill.sh prints them over the translation f1b32e67f1b781ce… (all of the seat's roots in one cut). By AI agents, Wed Nov 11 2026. No macro, syntax, notation, axiom, sorry.
-/
import Derived.Test.YtfhkmmagpnojmaaDoorChecked
import GoSem.Claim
import GoSem.ClaimJoined
import GoSem.ClaimMapViews
import Derived.JoinedTies
import Derived.KernelRfl
namespace Go.Proofs.YtfhkmmagpnojmaaDoor
/- THE CELL 'sum', in the pinned program and in every row, IS THE sha256 OF THE DUMP (.gsa) THAT YtfhkmmagpnojmaaDoorProg.lean LOADS. Nothing in Lean hashes anything: it is a label: what it is worth is what the hold of that sum in a sandbox is worth. -/
noncomputable def Tryd.pinned : Pinned := { name := "ytfhkmmagpnojmaadoor", sum := "f1b32e67f1b781ce1b35cb9e09fecaa01accd56b3a49d31c852e6297d5d6c406", checked := Tryd.checked }
namespace Rows
def none {H : Type} : Left H := { results := [], args := [] }

/- WHAT THE LISTED PACKAGE-LEVEL VARIABLES READ AS WHEN THE CALL BEGINS. Each datum BY PROGRAM (the guide's laid-datum.mjs) off the statement by which the dump's own 'gosem.cut.vars' lays the variable. In a bare row this is a premise. The card (YtfhkmmagpnojmaaDoorCards.lean) ties it to the program's text. -/
def laid_dunnage_digest_constants {H : Type} : DataW H := .agg [.lit (.int .u32 1116352408), .lit (.int .u32 1899447441), .lit (.int .u32 3049323471), .lit (.int .u32 3921009573), .lit (.int .u32 961987163), .lit (.int .u32 1508970993), .lit (.int .u32 2453635748), .lit (.int .u32 2870763221), .lit (.int .u32 3624381080), .lit (.int .u32 310598401), .lit (.int .u32 607225278), .lit (.int .u32 1426881987), .lit (.int .u32 1925078388), .lit (.int .u32 2162078206), .lit (.int .u32 2614888103), .lit (.int .u32 3248222580), .lit (.int .u32 3835390401), .lit (.int .u32 4022224774), .lit (.int .u32 264347078), .lit (.int .u32 604807628), .lit (.int .u32 770255983), .lit (.int .u32 1249150122), .lit (.int .u32 1555081692), .lit (.int .u32 1996064986), .lit (.int .u32 2554220882), .lit (.int .u32 2821834349), .lit (.int .u32 2952996808), .lit (.int .u32 3210313671), .lit (.int .u32 3336571891), .lit (.int .u32 3584528711), .lit (.int .u32 113926993), .lit (.int .u32 338241895), .lit (.int .u32 666307205), .lit (.int .u32 773529912), .lit (.int .u32 1294757372), .lit (.int .u32 1396182291), .lit (.int .u32 1695183700), .lit (.int .u32 1986661051), .lit (.int .u32 2177026350), .lit (.int .u32 2456956037), .lit (.int .u32 2730485921), .lit (.int .u32 2820302411), .lit (.int .u32 3259730800), .lit (.int .u32 3345764771), .lit (.int .u32 3516065817), .lit (.int .u32 3600352804), .lit (.int .u32 4094571909), .lit (.int .u32 275423344), .lit (.int .u32 430227734), .lit (.int .u32 506948616), .lit (.int .u32 659060556), .lit (.int .u32 883997877), .lit (.int .u32 958139571), .lit (.int .u32 1322822218), .lit (.int .u32 1537002063), .lit (.int .u32 1747873779), .lit (.int .u32 1955562222), .lit (.int .u32 2024104815), .lit (.int .u32 2227730452), .lit (.int .u32 2361852424), .lit (.int .u32 2428436474), .lit (.int .u32 2756734187), .lit (.int .u32 3204031479), .lit (.int .u32 3329325298)]

/-- 'dunnagelaw07.WireLinks': WHATEVER THE INPUT: true; the input reads as it did. -/
def wireLinksSpec : ChangeSpec := { name := "wireLinks", fn := fun _ => fun
  | [d1, d2, d3, d4, d5] => { results := [.lit (.bool true)], args := [d1, d2, d3, d4, d5] }
  | _ => none }
def wireLinksRow : OpenClaim := { program := "ytfhkmmagpnojmaadoor", sum := "f1b32e67f1b781ce1b35cb9e09fecaa01accd56b3a49d31c852e6297d5d6c406", func := "dunnage/dunnagelaw07.WireLinks", spec := "wireLinks", unfollowed := true, recurses := true, named := ["dunnage/digest.constants"], apart := false, laid := [("dunnage/digest.constants", laid_dunnage_digest_constants)] }
def WireLinksSaid : Prop := wireLinksRow.holds Tryd.pinned (OpenSpec.ofChange wireLinksSpec)

/-- ITS FALSE NEIGHBOUR: 'it returns false'. Refute it at one input. -/
def wireLinksWrong : ChangeSpec := { name := "wireLinks", fn := fun _ => fun
  | [d1, d2, d3, d4, d5] => { results := [.lit (.bool false)], args := [d1, d2, d3, d4, d5] }
  | _ => none }
def WireLinksWrongFalsely : Prop := wireLinksRow.holds Tryd.pinned (OpenSpec.ofChange wireLinksWrong)

/-- 'dunnagelaw07.WireVerifies': WHATEVER THE INPUT: true; the input reads as it did. -/
def wireVerifiesSpec : ChangeSpec := { name := "wireVerifies", fn := fun _ => fun
  | [d1, d2, d3] => { results := [.lit (.bool true)], args := [d1, d2, d3] }
  | _ => none }
def wireVerifiesRow : OpenClaim := { program := "ytfhkmmagpnojmaadoor", sum := "f1b32e67f1b781ce1b35cb9e09fecaa01accd56b3a49d31c852e6297d5d6c406", func := "dunnage/dunnagelaw07.WireVerifies", spec := "wireVerifies", unfollowed := true, recurses := true, named := ["dunnage/digest.constants"], apart := false, laid := [("dunnage/digest.constants", laid_dunnage_digest_constants)] }
def WireVerifiesSaid : Prop := wireVerifiesRow.holds Tryd.pinned (OpenSpec.ofChange wireVerifiesSpec)

/-- ITS FALSE NEIGHBOUR: 'it returns false'. Refute it at one input. -/
def wireVerifiesWrong : ChangeSpec := { name := "wireVerifies", fn := fun _ => fun
  | [d1, d2, d3] => { results := [.lit (.bool false)], args := [d1, d2, d3] }
  | _ => none }
def WireVerifiesWrongFalsely : Prop := wireVerifiesRow.holds Tryd.pinned (OpenSpec.ofChange wireVerifiesWrong)

/-- 'dunnagelaw07.WireLogs': WHATEVER THE INPUT: true; the input reads as it did. -/
def wireLogsSpec : ChangeSpec := { name := "wireLogs", fn := fun _ => fun
  | [d1, d2, d3, d4, d5, d6] => { results := [.lit (.bool true)], args := [d1, d2, d3, d4, d5, d6] }
  | _ => none }
def wireLogsRow : OpenClaim := { program := "ytfhkmmagpnojmaadoor", sum := "f1b32e67f1b781ce1b35cb9e09fecaa01accd56b3a49d31c852e6297d5d6c406", func := "dunnage/dunnagelaw07.WireLogs", spec := "wireLogs", unfollowed := true, recurses := true, named := ["dunnage/digest.constants"], apart := false, laid := [("dunnage/digest.constants", laid_dunnage_digest_constants)] }
def WireLogsSaid : Prop := wireLogsRow.holds Tryd.pinned (OpenSpec.ofChange wireLogsSpec)

/-- ITS FALSE NEIGHBOUR: 'it returns false'. Refute it at one input. -/
def wireLogsWrong : ChangeSpec := { name := "wireLogs", fn := fun _ => fun
  | [d1, d2, d3, d4, d5, d6] => { results := [.lit (.bool false)], args := [d1, d2, d3, d4, d5, d6] }
  | _ => none }
def WireLogsWrongFalsely : Prop := wireLogsRow.holds Tryd.pinned (OpenSpec.ofChange wireLogsWrong)

/-- 'dunnagelaw07.WireWhole': WHATEVER THE INPUT: true; the input reads as it did. -/
def wireWholeSpec : ChangeSpec := { name := "wireWhole", fn := fun _ => fun
  | [d] => { results := [.lit (.bool true)], args := [d] }
  | _ => none }
def wireWholeRow : OpenClaim := { program := "ytfhkmmagpnojmaadoor", sum := "f1b32e67f1b781ce1b35cb9e09fecaa01accd56b3a49d31c852e6297d5d6c406", func := "dunnage/dunnagelaw07.WireWhole", spec := "wireWhole", unfollowed := true, recurses := true, named := ["dunnage/digest.constants"], apart := false, laid := [("dunnage/digest.constants", laid_dunnage_digest_constants)] }
def WireWholeSaid : Prop := wireWholeRow.holds Tryd.pinned (OpenSpec.ofChange wireWholeSpec)

/-- ITS FALSE NEIGHBOUR: 'it returns false'. Refute it at one input. -/
def wireWholeWrong : ChangeSpec := { name := "wireWhole", fn := fun _ => fun
  | [d] => { results := [.lit (.bool false)], args := [d] }
  | _ => none }
def WireWholeWrongFalsely : Prop := wireWholeRow.holds Tryd.pinned (OpenSpec.ofChange wireWholeWrong)

/-- 'dunnagelaw07.WireStream': WHATEVER THE INPUT: true; the input reads as it did. -/
def wireStreamSpec : ChangeSpec := { name := "wireStream", fn := fun _ => fun
  | [d] => { results := [.lit (.bool true)], args := [d] }
  | _ => none }
def wireStreamRow : OpenClaim := { program := "ytfhkmmagpnojmaadoor", sum := "f1b32e67f1b781ce1b35cb9e09fecaa01accd56b3a49d31c852e6297d5d6c406", func := "dunnage/dunnagelaw07.WireStream", spec := "wireStream", unfollowed := true, recurses := true, named := ["dunnage/digest.constants"], apart := false, laid := [("dunnage/digest.constants", laid_dunnage_digest_constants)] }
def WireStreamSaid : Prop := wireStreamRow.holds Tryd.pinned (OpenSpec.ofChange wireStreamSpec)

/-- ITS FALSE NEIGHBOUR: 'it returns false'. Refute it at one input. -/
def wireStreamWrong : ChangeSpec := { name := "wireStream", fn := fun _ => fun
  | [d] => { results := [.lit (.bool false)], args := [d] }
  | _ => none }
def WireStreamWrongFalsely : Prop := wireStreamRow.holds Tryd.pinned (OpenSpec.ofChange wireStreamWrong)

/-- 'dunnagelaw07.WireFrames': WHATEVER THE INPUT: true; the input reads as it did. -/
def wireFramesSpec : ChangeSpec := { name := "wireFrames", fn := fun _ => fun
  | [d1, d2] => { results := [.lit (.bool true)], args := [d1, d2] }
  | _ => none }
def wireFramesRow : OpenClaim := { program := "ytfhkmmagpnojmaadoor", sum := "f1b32e67f1b781ce1b35cb9e09fecaa01accd56b3a49d31c852e6297d5d6c406", func := "dunnage/dunnagelaw07.WireFrames", spec := "wireFrames", unfollowed := true, recurses := true, named := ["dunnage/digest.constants"], apart := false, laid := [("dunnage/digest.constants", laid_dunnage_digest_constants)] }
def WireFramesSaid : Prop := wireFramesRow.holds Tryd.pinned (OpenSpec.ofChange wireFramesSpec)

/-- ITS FALSE NEIGHBOUR: 'it returns false'. Refute it at one input. -/
def wireFramesWrong : ChangeSpec := { name := "wireFrames", fn := fun _ => fun
  | [d1, d2] => { results := [.lit (.bool false)], args := [d1, d2] }
  | _ => none }
def WireFramesWrongFalsely : Prop := wireFramesRow.holds Tryd.pinned (OpenSpec.ofChange wireFramesWrong)

/-- 'dunnagelaw07.WireRequestBack': WHATEVER THE INPUT: true; the input reads as it did. -/
def wireRequestBackSpec : ChangeSpec := { name := "wireRequestBack", fn := fun _ => fun
  | [d1, d2, d3] => { results := [.lit (.bool true)], args := [d1, d2, d3] }
  | _ => none }
def wireRequestBackRow : OpenClaim := { program := "ytfhkmmagpnojmaadoor", sum := "f1b32e67f1b781ce1b35cb9e09fecaa01accd56b3a49d31c852e6297d5d6c406", func := "dunnage/dunnagelaw07.WireRequestBack", spec := "wireRequestBack", unfollowed := true, recurses := true, named := ["dunnage/digest.constants"], apart := false, laid := [("dunnage/digest.constants", laid_dunnage_digest_constants)] }
def WireRequestBackSaid : Prop := wireRequestBackRow.holds Tryd.pinned (OpenSpec.ofChange wireRequestBackSpec)

/-- ITS FALSE NEIGHBOUR: 'it returns false'. Refute it at one input. -/
def wireRequestBackWrong : ChangeSpec := { name := "wireRequestBack", fn := fun _ => fun
  | [d1, d2, d3] => { results := [.lit (.bool false)], args := [d1, d2, d3] }
  | _ => none }
def WireRequestBackWrongFalsely : Prop := wireRequestBackRow.holds Tryd.pinned (OpenSpec.ofChange wireRequestBackWrong)

/-- 'dunnagelaw07.WireReplyBack': WHATEVER THE INPUT: true; the input reads as it did. -/
def wireReplyBackSpec : ChangeSpec := { name := "wireReplyBack", fn := fun _ => fun
  | [d1, d2, d3] => { results := [.lit (.bool true)], args := [d1, d2, d3] }
  | _ => none }
def wireReplyBackRow : OpenClaim := { program := "ytfhkmmagpnojmaadoor", sum := "f1b32e67f1b781ce1b35cb9e09fecaa01accd56b3a49d31c852e6297d5d6c406", func := "dunnage/dunnagelaw07.WireReplyBack", spec := "wireReplyBack", unfollowed := true, recurses := true, named := ["dunnage/digest.constants"], apart := false, laid := [("dunnage/digest.constants", laid_dunnage_digest_constants)] }
def WireReplyBackSaid : Prop := wireReplyBackRow.holds Tryd.pinned (OpenSpec.ofChange wireReplyBackSpec)

/-- ITS FALSE NEIGHBOUR: 'it returns false'. Refute it at one input. -/
def wireReplyBackWrong : ChangeSpec := { name := "wireReplyBack", fn := fun _ => fun
  | [d1, d2, d3] => { results := [.lit (.bool false)], args := [d1, d2, d3] }
  | _ => none }
def WireReplyBackWrongFalsely : Prop := wireReplyBackRow.holds Tryd.pinned (OpenSpec.ofChange wireReplyBackWrong)

/-- 'dunnagelaw07.WireLink': WHATEVER THE INPUT: true; the input reads as it did. -/
def wireLinkSpec : ChangeSpec := { name := "wireLink", fn := fun _ => fun
  | [d1, d2, d3, d4, d5] => { results := [.lit (.bool true)], args := [d1, d2, d3, d4, d5] }
  | _ => none }
def wireLinkRow : OpenClaim := { program := "ytfhkmmagpnojmaadoor", sum := "f1b32e67f1b781ce1b35cb9e09fecaa01accd56b3a49d31c852e6297d5d6c406", func := "dunnage/dunnagelaw07.WireLink", spec := "wireLink", unfollowed := true, recurses := true, named := ["dunnage/digest.constants"], apart := false, laid := [("dunnage/digest.constants", laid_dunnage_digest_constants)] }
def WireLinkSaid : Prop := wireLinkRow.holds Tryd.pinned (OpenSpec.ofChange wireLinkSpec)

/-- ITS FALSE NEIGHBOUR: 'it returns false'. Refute it at one input. -/
def wireLinkWrong : ChangeSpec := { name := "wireLink", fn := fun _ => fun
  | [d1, d2, d3, d4, d5] => { results := [.lit (.bool false)], args := [d1, d2, d3, d4, d5] }
  | _ => none }
def WireLinkWrongFalsely : Prop := wireLinkRow.holds Tryd.pinned (OpenSpec.ofChange wireLinkWrong)

/-- 'dunnagelaw07.WireProof': WHATEVER THE INPUT: true; the input reads as it did. -/
def wireProofSpec : ChangeSpec := { name := "wireProof", fn := fun _ => fun
  | [d1, d2, d3] => { results := [.lit (.bool true)], args := [d1, d2, d3] }
  | _ => none }
def wireProofRow : OpenClaim := { program := "ytfhkmmagpnojmaadoor", sum := "f1b32e67f1b781ce1b35cb9e09fecaa01accd56b3a49d31c852e6297d5d6c406", func := "dunnage/dunnagelaw07.WireProof", spec := "wireProof", unfollowed := true, recurses := true, named := ["dunnage/digest.constants"], apart := false, laid := [("dunnage/digest.constants", laid_dunnage_digest_constants)] }
def WireProofSaid : Prop := wireProofRow.holds Tryd.pinned (OpenSpec.ofChange wireProofSpec)

/-- ITS FALSE NEIGHBOUR: 'it returns false'. Refute it at one input. -/
def wireProofWrong : ChangeSpec := { name := "wireProof", fn := fun _ => fun
  | [d1, d2, d3] => { results := [.lit (.bool false)], args := [d1, d2, d3] }
  | _ => none }
def WireProofWrongFalsely : Prop := wireProofRow.holds Tryd.pinned (OpenSpec.ofChange wireProofWrong)

/-- 'dunnagelaw07.WireFull': WHATEVER THE INPUT: true; the input reads as it did. -/
def wireFullSpec : ChangeSpec := { name := "wireFull", fn := fun _ => fun
  | [d1, d2, d3, d4, d5] => { results := [.lit (.bool true)], args := [d1, d2, d3, d4, d5] }
  | _ => none }
def wireFullRow : OpenClaim := { program := "ytfhkmmagpnojmaadoor", sum := "f1b32e67f1b781ce1b35cb9e09fecaa01accd56b3a49d31c852e6297d5d6c406", func := "dunnage/dunnagelaw07.WireFull", spec := "wireFull", unfollowed := true, recurses := true, named := ["dunnage/digest.constants"], apart := false, laid := [("dunnage/digest.constants", laid_dunnage_digest_constants)] }
def WireFullSaid : Prop := wireFullRow.holds Tryd.pinned (OpenSpec.ofChange wireFullSpec)

/-- ITS FALSE NEIGHBOUR: 'it returns false'. Refute it at one input. -/
def wireFullWrong : ChangeSpec := { name := "wireFull", fn := fun _ => fun
  | [d1, d2, d3, d4, d5] => { results := [.lit (.bool false)], args := [d1, d2, d3, d4, d5] }
  | _ => none }
def WireFullWrongFalsely : Prop := wireFullRow.holds Tryd.pinned (OpenSpec.ofChange wireFullWrong)

/-- 'dunnagelaw07.WireExamples': WHATEVER THE INPUT: true; the input reads as it did. -/
def wireExamplesSpec : ChangeSpec := { name := "wireExamples", fn := fun _ => fun
  | [] => { results := [.lit (.bool true)], args := [] }
  | _ => none }
def wireExamplesRow : OpenClaim := { program := "ytfhkmmagpnojmaadoor", sum := "f1b32e67f1b781ce1b35cb9e09fecaa01accd56b3a49d31c852e6297d5d6c406", func := "dunnage/dunnagelaw07.WireExamples", spec := "wireExamples", unfollowed := true, recurses := true, named := ["dunnage/digest.constants"], apart := false, laid := [("dunnage/digest.constants", laid_dunnage_digest_constants)] }
def WireExamplesSaid : Prop := wireExamplesRow.holds Tryd.pinned (OpenSpec.ofChange wireExamplesSpec)

/-- ITS FALSE NEIGHBOUR: 'it returns false'. Refute it at one input. -/
def wireExamplesWrong : ChangeSpec := { name := "wireExamples", fn := fun _ => fun
  | [] => { results := [.lit (.bool false)], args := [] }
  | _ => none }
def WireExamplesWrongFalsely : Prop := wireExamplesRow.holds Tryd.pinned (OpenSpec.ofChange wireExamplesWrong)

/-- 'dunnagelaw07.WireChain': WHATEVER THE INPUT: true; the input reads as it did. -/
def wireChainSpec : ChangeSpec := { name := "wireChain", fn := fun _ => fun
  | [d1, d2] => { results := [.lit (.bool true)], args := [d1, d2] }
  | _ => none }
def wireChainRow : OpenClaim := { program := "ytfhkmmagpnojmaadoor", sum := "f1b32e67f1b781ce1b35cb9e09fecaa01accd56b3a49d31c852e6297d5d6c406", func := "dunnage/dunnagelaw07.WireChain", spec := "wireChain", unfollowed := true, recurses := true, named := ["dunnage/digest.constants"], apart := false, laid := [("dunnage/digest.constants", laid_dunnage_digest_constants)] }
def WireChainSaid : Prop := wireChainRow.holds Tryd.pinned (OpenSpec.ofChange wireChainSpec)

/-- ITS FALSE NEIGHBOUR: 'it returns false'. Refute it at one input. -/
def wireChainWrong : ChangeSpec := { name := "wireChain", fn := fun _ => fun
  | [d1, d2] => { results := [.lit (.bool false)], args := [d1, d2] }
  | _ => none }
def WireChainWrongFalsely : Prop := wireChainRow.holds Tryd.pinned (OpenSpec.ofChange wireChainWrong)

/- THE SECOND FORM. 'bulk': how many values and letters a reading holds, each counted each time it is reached (what is shared counts as often as it is met; a slice's spare places count too). A statement '..UptoSaid' is the law's where the arguments, and the package variables that the reading takes, are together of bulk at most 1048576: NARROWER than '..Said'. Prove '..Said' where nothing that the law and all that it calls make is longer than what came in: it says more and counts as full. Else prove '..UptoSaid'. A law counts once. -/
mutual
def uptoBulk {H : Type} : DataW H → Nat
  | .lit (.string bytes) => bytes.length + 1
  | .lit _ => 1
  | .nil => 1
  | .ptr d => uptoBulk d + 1
  | .slice elems spare => uptoBulkAll elems + uptoBulkAll spare + 1
  | .agg parts => uptoBulkAll parts + 1
  | .iface _ d => uptoBulk d + 1
  | .map entries => uptoBulkEntries entries + 1
  | .held _ => 1
def uptoBulkAll {H : Type} : List (DataW H) → Nat
  | [] => 0
  | d :: r => uptoBulk d + uptoBulkAll r
def uptoBulkEntries {H : Type} : List (Lit × DataW H) → Nat
  | [] => 0
  | x :: r => uptoBulkEntry x + uptoBulkEntries r
def uptoBulkEntry {H : Type} : Lit × DataW H → Nat
  | (.string bytes, d) => bytes.length + uptoBulk d + 1
  | (_, d) => uptoBulk d + 1
 end
def uptoSmall : (H : Type) → List (DataW H) → Bool := fun _ ds => decide (uptoBulkAll ds ≤ 1048576)
def OpenSpec.upto (s : _root_.Go.ChangeSpec) : _root_.Go.OpenSpec := { _root_.Go.OpenSpec.ofChange s with cond := some uptoSmall }

/-- 'dunnagelaw07.WireLinks', WHERE WHAT IT READS IS OF BULK AT MOST 1048576: true; the input reads as it did. -/
def wireLinksUptoRow : OpenClaim := { program := "ytfhkmmagpnojmaadoor", sum := "f1b32e67f1b781ce1b35cb9e09fecaa01accd56b3a49d31c852e6297d5d6c406", func := "dunnage/dunnagelaw07.WireLinks", spec := "wireLinks", unfollowed := true, recurses := true, named := ["dunnage/digest.constants"], apart := false, laid := [("dunnage/digest.constants", laid_dunnage_digest_constants)], narrowed := true }
def WireLinksUptoSaid : Prop := wireLinksUptoRow.holds Tryd.pinned (OpenSpec.upto wireLinksSpec)

/-- 'dunnagelaw07.WireVerifies', WHERE WHAT IT READS IS OF BULK AT MOST 1048576: true; the input reads as it did. -/
def wireVerifiesUptoRow : OpenClaim := { program := "ytfhkmmagpnojmaadoor", sum := "f1b32e67f1b781ce1b35cb9e09fecaa01accd56b3a49d31c852e6297d5d6c406", func := "dunnage/dunnagelaw07.WireVerifies", spec := "wireVerifies", unfollowed := true, recurses := true, named := ["dunnage/digest.constants"], apart := false, laid := [("dunnage/digest.constants", laid_dunnage_digest_constants)], narrowed := true }
def WireVerifiesUptoSaid : Prop := wireVerifiesUptoRow.holds Tryd.pinned (OpenSpec.upto wireVerifiesSpec)

/-- 'dunnagelaw07.WireLogs', WHERE WHAT IT READS IS OF BULK AT MOST 1048576: true; the input reads as it did. -/
def wireLogsUptoRow : OpenClaim := { program := "ytfhkmmagpnojmaadoor", sum := "f1b32e67f1b781ce1b35cb9e09fecaa01accd56b3a49d31c852e6297d5d6c406", func := "dunnage/dunnagelaw07.WireLogs", spec := "wireLogs", unfollowed := true, recurses := true, named := ["dunnage/digest.constants"], apart := false, laid := [("dunnage/digest.constants", laid_dunnage_digest_constants)], narrowed := true }
def WireLogsUptoSaid : Prop := wireLogsUptoRow.holds Tryd.pinned (OpenSpec.upto wireLogsSpec)

/-- 'dunnagelaw07.WireWhole', WHERE WHAT IT READS IS OF BULK AT MOST 1048576: true; the input reads as it did. -/
def wireWholeUptoRow : OpenClaim := { program := "ytfhkmmagpnojmaadoor", sum := "f1b32e67f1b781ce1b35cb9e09fecaa01accd56b3a49d31c852e6297d5d6c406", func := "dunnage/dunnagelaw07.WireWhole", spec := "wireWhole", unfollowed := true, recurses := true, named := ["dunnage/digest.constants"], apart := false, laid := [("dunnage/digest.constants", laid_dunnage_digest_constants)], narrowed := true }
def WireWholeUptoSaid : Prop := wireWholeUptoRow.holds Tryd.pinned (OpenSpec.upto wireWholeSpec)

/-- 'dunnagelaw07.WireStream', WHERE WHAT IT READS IS OF BULK AT MOST 1048576: true; the input reads as it did. -/
def wireStreamUptoRow : OpenClaim := { program := "ytfhkmmagpnojmaadoor", sum := "f1b32e67f1b781ce1b35cb9e09fecaa01accd56b3a49d31c852e6297d5d6c406", func := "dunnage/dunnagelaw07.WireStream", spec := "wireStream", unfollowed := true, recurses := true, named := ["dunnage/digest.constants"], apart := false, laid := [("dunnage/digest.constants", laid_dunnage_digest_constants)], narrowed := true }
def WireStreamUptoSaid : Prop := wireStreamUptoRow.holds Tryd.pinned (OpenSpec.upto wireStreamSpec)

/-- 'dunnagelaw07.WireFrames', WHERE WHAT IT READS IS OF BULK AT MOST 1048576: true; the input reads as it did. -/
def wireFramesUptoRow : OpenClaim := { program := "ytfhkmmagpnojmaadoor", sum := "f1b32e67f1b781ce1b35cb9e09fecaa01accd56b3a49d31c852e6297d5d6c406", func := "dunnage/dunnagelaw07.WireFrames", spec := "wireFrames", unfollowed := true, recurses := true, named := ["dunnage/digest.constants"], apart := false, laid := [("dunnage/digest.constants", laid_dunnage_digest_constants)], narrowed := true }
def WireFramesUptoSaid : Prop := wireFramesUptoRow.holds Tryd.pinned (OpenSpec.upto wireFramesSpec)

/-- 'dunnagelaw07.WireRequestBack', WHERE WHAT IT READS IS OF BULK AT MOST 1048576: true; the input reads as it did. -/
def wireRequestBackUptoRow : OpenClaim := { program := "ytfhkmmagpnojmaadoor", sum := "f1b32e67f1b781ce1b35cb9e09fecaa01accd56b3a49d31c852e6297d5d6c406", func := "dunnage/dunnagelaw07.WireRequestBack", spec := "wireRequestBack", unfollowed := true, recurses := true, named := ["dunnage/digest.constants"], apart := false, laid := [("dunnage/digest.constants", laid_dunnage_digest_constants)], narrowed := true }
def WireRequestBackUptoSaid : Prop := wireRequestBackUptoRow.holds Tryd.pinned (OpenSpec.upto wireRequestBackSpec)

/-- 'dunnagelaw07.WireReplyBack', WHERE WHAT IT READS IS OF BULK AT MOST 1048576: true; the input reads as it did. -/
def wireReplyBackUptoRow : OpenClaim := { program := "ytfhkmmagpnojmaadoor", sum := "f1b32e67f1b781ce1b35cb9e09fecaa01accd56b3a49d31c852e6297d5d6c406", func := "dunnage/dunnagelaw07.WireReplyBack", spec := "wireReplyBack", unfollowed := true, recurses := true, named := ["dunnage/digest.constants"], apart := false, laid := [("dunnage/digest.constants", laid_dunnage_digest_constants)], narrowed := true }
def WireReplyBackUptoSaid : Prop := wireReplyBackUptoRow.holds Tryd.pinned (OpenSpec.upto wireReplyBackSpec)

/-- 'dunnagelaw07.WireLink', WHERE WHAT IT READS IS OF BULK AT MOST 1048576: true; the input reads as it did. -/
def wireLinkUptoRow : OpenClaim := { program := "ytfhkmmagpnojmaadoor", sum := "f1b32e67f1b781ce1b35cb9e09fecaa01accd56b3a49d31c852e6297d5d6c406", func := "dunnage/dunnagelaw07.WireLink", spec := "wireLink", unfollowed := true, recurses := true, named := ["dunnage/digest.constants"], apart := false, laid := [("dunnage/digest.constants", laid_dunnage_digest_constants)], narrowed := true }
def WireLinkUptoSaid : Prop := wireLinkUptoRow.holds Tryd.pinned (OpenSpec.upto wireLinkSpec)

/-- 'dunnagelaw07.WireProof', WHERE WHAT IT READS IS OF BULK AT MOST 1048576: true; the input reads as it did. -/
def wireProofUptoRow : OpenClaim := { program := "ytfhkmmagpnojmaadoor", sum := "f1b32e67f1b781ce1b35cb9e09fecaa01accd56b3a49d31c852e6297d5d6c406", func := "dunnage/dunnagelaw07.WireProof", spec := "wireProof", unfollowed := true, recurses := true, named := ["dunnage/digest.constants"], apart := false, laid := [("dunnage/digest.constants", laid_dunnage_digest_constants)], narrowed := true }
def WireProofUptoSaid : Prop := wireProofUptoRow.holds Tryd.pinned (OpenSpec.upto wireProofSpec)

/-- 'dunnagelaw07.WireFull', WHERE WHAT IT READS IS OF BULK AT MOST 1048576: true; the input reads as it did. -/
def wireFullUptoRow : OpenClaim := { program := "ytfhkmmagpnojmaadoor", sum := "f1b32e67f1b781ce1b35cb9e09fecaa01accd56b3a49d31c852e6297d5d6c406", func := "dunnage/dunnagelaw07.WireFull", spec := "wireFull", unfollowed := true, recurses := true, named := ["dunnage/digest.constants"], apart := false, laid := [("dunnage/digest.constants", laid_dunnage_digest_constants)], narrowed := true }
def WireFullUptoSaid : Prop := wireFullUptoRow.holds Tryd.pinned (OpenSpec.upto wireFullSpec)

/-- 'dunnagelaw07.WireExamples', WHERE WHAT IT READS IS OF BULK AT MOST 1048576: true; the input reads as it did. -/
def wireExamplesUptoRow : OpenClaim := { program := "ytfhkmmagpnojmaadoor", sum := "f1b32e67f1b781ce1b35cb9e09fecaa01accd56b3a49d31c852e6297d5d6c406", func := "dunnage/dunnagelaw07.WireExamples", spec := "wireExamples", unfollowed := true, recurses := true, named := ["dunnage/digest.constants"], apart := false, laid := [("dunnage/digest.constants", laid_dunnage_digest_constants)], narrowed := true }
def WireExamplesUptoSaid : Prop := wireExamplesUptoRow.holds Tryd.pinned (OpenSpec.upto wireExamplesSpec)

/-- 'dunnagelaw07.WireChain', WHERE WHAT IT READS IS OF BULK AT MOST 1048576: true; the input reads as it did. -/
def wireChainUptoRow : OpenClaim := { program := "ytfhkmmagpnojmaadoor", sum := "f1b32e67f1b781ce1b35cb9e09fecaa01accd56b3a49d31c852e6297d5d6c406", func := "dunnage/dunnagelaw07.WireChain", spec := "wireChain", unfollowed := true, recurses := true, named := ["dunnage/digest.constants"], apart := false, laid := [("dunnage/digest.constants", laid_dunnage_digest_constants)], narrowed := true }
def WireChainUptoSaid : Prop := wireChainUptoRow.holds Tryd.pinned (OpenSpec.upto wireChainSpec)

end Rows
end Go.Proofs.YtfhkmmagpnojmaaDoor
