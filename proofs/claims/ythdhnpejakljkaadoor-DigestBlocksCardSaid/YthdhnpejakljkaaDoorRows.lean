/-
  NARROWER THAN 'FOR EVERY INPUT', by the rows' own cells (each row's printed sentence says how): DigestCompresses: laid · DigestHashes: laid · DigestSums: laid · DigestTags: laid · DigestExamples: laid · DigestFields: laid · DigestOrders: laid · DigestPieces: laid · DigestBlocks: laid · DigestTextBack: laid · DigestKeyed: laid.
  DERIVED. THE GIVEN ROWS OF THIS SEAT. 11 by the template 'for every input the law returns true; each argument reads behind the call as it read before'; 0 by the template 'total and deterministic' (their statements: YthdhnpejakljkaaDoorTotals.lean).
  GIVEN WITH THE SEED: the statements are not yours to turn. If you find one false, say at which input.
  Laid BY PROGRAM, IN A SANDBOX (cutbox-rows.mjs): the forced cells as the released guide's own fill.sh prints them over the translation a977bd54e96092c2… (all of the seat's roots in one cut). By AI agents, Wed Nov 11 2026. No macro, syntax, notation, axiom, sorry.
-/
import Derived.Test.YthdhnpejakljkaaDoorChecked
import GoSem.Claim
import GoSem.ClaimJoined
import GoSem.ClaimMapViews
import Derived.JoinedTies
import Derived.KernelRfl
namespace Go.Proofs.YthdhnpejakljkaaDoor
/- THE CELL 'sum', in the pinned program and in every row, IS THE sha256 OF THE DUMP (.gsa) THAT YthdhnpejakljkaaDoorProg.lean LOADS. Nothing in Lean hashes anything: it is a label: what it is worth is what the hold of that sum in a sandbox is worth. -/
noncomputable def Tryd.pinned : Pinned := { name := "ythdhnpejakljkaadoor", sum := "a977bd54e96092c241ed68e87a9fc44826fe5271ac331751c690164c1da95226", checked := Tryd.checked }
namespace Rows
def none {H : Type} : Left H := { results := [], args := [] }

/- WHAT THE LISTED PACKAGE-LEVEL VARIABLES READ AS WHEN THE CALL BEGINS. Each datum BY PROGRAM (the guide's laid-datum.mjs) off the statement by which the dump's own 'gosem.cut.vars' lays the variable. In a bare row this is a premise. The card (YthdhnpejakljkaaDoorCards.lean) ties it to the program's text. -/
def laid_dunnage_digest_constants {H : Type} : DataW H := .agg [.lit (.int .u32 1116352408), .lit (.int .u32 1899447441), .lit (.int .u32 3049323471), .lit (.int .u32 3921009573), .lit (.int .u32 961987163), .lit (.int .u32 1508970993), .lit (.int .u32 2453635748), .lit (.int .u32 2870763221), .lit (.int .u32 3624381080), .lit (.int .u32 310598401), .lit (.int .u32 607225278), .lit (.int .u32 1426881987), .lit (.int .u32 1925078388), .lit (.int .u32 2162078206), .lit (.int .u32 2614888103), .lit (.int .u32 3248222580), .lit (.int .u32 3835390401), .lit (.int .u32 4022224774), .lit (.int .u32 264347078), .lit (.int .u32 604807628), .lit (.int .u32 770255983), .lit (.int .u32 1249150122), .lit (.int .u32 1555081692), .lit (.int .u32 1996064986), .lit (.int .u32 2554220882), .lit (.int .u32 2821834349), .lit (.int .u32 2952996808), .lit (.int .u32 3210313671), .lit (.int .u32 3336571891), .lit (.int .u32 3584528711), .lit (.int .u32 113926993), .lit (.int .u32 338241895), .lit (.int .u32 666307205), .lit (.int .u32 773529912), .lit (.int .u32 1294757372), .lit (.int .u32 1396182291), .lit (.int .u32 1695183700), .lit (.int .u32 1986661051), .lit (.int .u32 2177026350), .lit (.int .u32 2456956037), .lit (.int .u32 2730485921), .lit (.int .u32 2820302411), .lit (.int .u32 3259730800), .lit (.int .u32 3345764771), .lit (.int .u32 3516065817), .lit (.int .u32 3600352804), .lit (.int .u32 4094571909), .lit (.int .u32 275423344), .lit (.int .u32 430227734), .lit (.int .u32 506948616), .lit (.int .u32 659060556), .lit (.int .u32 883997877), .lit (.int .u32 958139571), .lit (.int .u32 1322822218), .lit (.int .u32 1537002063), .lit (.int .u32 1747873779), .lit (.int .u32 1955562222), .lit (.int .u32 2024104815), .lit (.int .u32 2227730452), .lit (.int .u32 2361852424), .lit (.int .u32 2428436474), .lit (.int .u32 2756734187), .lit (.int .u32 3204031479), .lit (.int .u32 3329325298)]

/-- 'dunnagelaw01.DigestCompresses': WHATEVER THE INPUT: true; the input reads as it did. -/
def digestCompressesSpec : ChangeSpec := { name := "digestCompresses", fn := fun _ => fun
  | [d1, d2] => { results := [.lit (.bool true)], args := [d1, d2] }
  | _ => none }
def digestCompressesRow : OpenClaim := { program := "ythdhnpejakljkaadoor", sum := "a977bd54e96092c241ed68e87a9fc44826fe5271ac331751c690164c1da95226", func := "dunnage/dunnagelaw01.DigestCompresses", spec := "digestCompresses", unfollowed := true, recurses := true, named := ["dunnage/digest.constants"], apart := false, laid := [("dunnage/digest.constants", laid_dunnage_digest_constants)] }
def DigestCompressesSaid : Prop := digestCompressesRow.holds Tryd.pinned (OpenSpec.ofChange digestCompressesSpec)

/-- ITS FALSE NEIGHBOUR: 'it returns false'. Refute it at one input. -/
def digestCompressesWrong : ChangeSpec := { name := "digestCompresses", fn := fun _ => fun
  | [d1, d2] => { results := [.lit (.bool false)], args := [d1, d2] }
  | _ => none }
def DigestCompressesWrongFalsely : Prop := digestCompressesRow.holds Tryd.pinned (OpenSpec.ofChange digestCompressesWrong)

/-- 'dunnagelaw01.DigestHashes': WHATEVER THE INPUT: true; the input reads as it did. -/
def digestHashesSpec : ChangeSpec := { name := "digestHashes", fn := fun _ => fun
  | [d1, d2] => { results := [.lit (.bool true)], args := [d1, d2] }
  | _ => none }
def digestHashesRow : OpenClaim := { program := "ythdhnpejakljkaadoor", sum := "a977bd54e96092c241ed68e87a9fc44826fe5271ac331751c690164c1da95226", func := "dunnage/dunnagelaw01.DigestHashes", spec := "digestHashes", unfollowed := true, recurses := true, named := ["dunnage/digest.constants"], apart := false, laid := [("dunnage/digest.constants", laid_dunnage_digest_constants)] }
def DigestHashesSaid : Prop := digestHashesRow.holds Tryd.pinned (OpenSpec.ofChange digestHashesSpec)

/-- ITS FALSE NEIGHBOUR: 'it returns false'. Refute it at one input. -/
def digestHashesWrong : ChangeSpec := { name := "digestHashes", fn := fun _ => fun
  | [d1, d2] => { results := [.lit (.bool false)], args := [d1, d2] }
  | _ => none }
def DigestHashesWrongFalsely : Prop := digestHashesRow.holds Tryd.pinned (OpenSpec.ofChange digestHashesWrong)

/-- 'dunnagelaw01.DigestSums': WHATEVER THE INPUT: true; the input reads as it did. -/
def digestSumsSpec : ChangeSpec := { name := "digestSums", fn := fun _ => fun
  | [d] => { results := [.lit (.bool true)], args := [d] }
  | _ => none }
def digestSumsRow : OpenClaim := { program := "ythdhnpejakljkaadoor", sum := "a977bd54e96092c241ed68e87a9fc44826fe5271ac331751c690164c1da95226", func := "dunnage/dunnagelaw01.DigestSums", spec := "digestSums", unfollowed := true, recurses := true, named := ["dunnage/digest.constants"], apart := false, laid := [("dunnage/digest.constants", laid_dunnage_digest_constants)] }
def DigestSumsSaid : Prop := digestSumsRow.holds Tryd.pinned (OpenSpec.ofChange digestSumsSpec)

/-- ITS FALSE NEIGHBOUR: 'it returns false'. Refute it at one input. -/
def digestSumsWrong : ChangeSpec := { name := "digestSums", fn := fun _ => fun
  | [d] => { results := [.lit (.bool false)], args := [d] }
  | _ => none }
def DigestSumsWrongFalsely : Prop := digestSumsRow.holds Tryd.pinned (OpenSpec.ofChange digestSumsWrong)

/-- 'dunnagelaw01.DigestTags': WHATEVER THE INPUT: true; the input reads as it did. -/
def digestTagsSpec : ChangeSpec := { name := "digestTags", fn := fun _ => fun
  | [d1, d2, d3] => { results := [.lit (.bool true)], args := [d1, d2, d3] }
  | _ => none }
def digestTagsRow : OpenClaim := { program := "ythdhnpejakljkaadoor", sum := "a977bd54e96092c241ed68e87a9fc44826fe5271ac331751c690164c1da95226", func := "dunnage/dunnagelaw01.DigestTags", spec := "digestTags", unfollowed := true, recurses := true, named := ["dunnage/digest.constants"], apart := false, laid := [("dunnage/digest.constants", laid_dunnage_digest_constants)] }
def DigestTagsSaid : Prop := digestTagsRow.holds Tryd.pinned (OpenSpec.ofChange digestTagsSpec)

/-- ITS FALSE NEIGHBOUR: 'it returns false'. Refute it at one input. -/
def digestTagsWrong : ChangeSpec := { name := "digestTags", fn := fun _ => fun
  | [d1, d2, d3] => { results := [.lit (.bool false)], args := [d1, d2, d3] }
  | _ => none }
def DigestTagsWrongFalsely : Prop := digestTagsRow.holds Tryd.pinned (OpenSpec.ofChange digestTagsWrong)

/-- 'dunnagelaw01.DigestExamples': WHATEVER THE INPUT: true; the input reads as it did. -/
def digestExamplesSpec : ChangeSpec := { name := "digestExamples", fn := fun _ => fun
  | [] => { results := [.lit (.bool true)], args := [] }
  | _ => none }
def digestExamplesRow : OpenClaim := { program := "ythdhnpejakljkaadoor", sum := "a977bd54e96092c241ed68e87a9fc44826fe5271ac331751c690164c1da95226", func := "dunnage/dunnagelaw01.DigestExamples", spec := "digestExamples", inPlace := ["internal/bytealg.IndexByteString"], unfollowed := true, recurses := true, named := ["dunnage/digest.constants"], apart := false, laid := [("dunnage/digest.constants", laid_dunnage_digest_constants)] }
def DigestExamplesSaid : Prop := digestExamplesRow.holds Tryd.pinned (OpenSpec.ofChange digestExamplesSpec)

/-- ITS FALSE NEIGHBOUR: 'it returns false'. Refute it at one input. -/
def digestExamplesWrong : ChangeSpec := { name := "digestExamples", fn := fun _ => fun
  | [] => { results := [.lit (.bool false)], args := [] }
  | _ => none }
def DigestExamplesWrongFalsely : Prop := digestExamplesRow.holds Tryd.pinned (OpenSpec.ofChange digestExamplesWrong)

/-- 'dunnagelaw01.DigestFields': WHATEVER THE INPUT: true; the input reads as it did. -/
def digestFieldsSpec : ChangeSpec := { name := "digestFields", fn := fun _ => fun
  | [d1, d2] => { results := [.lit (.bool true)], args := [d1, d2] }
  | _ => none }
def digestFieldsRow : OpenClaim := { program := "ythdhnpejakljkaadoor", sum := "a977bd54e96092c241ed68e87a9fc44826fe5271ac331751c690164c1da95226", func := "dunnage/dunnagelaw01.DigestFields", spec := "digestFields", inPlace := ["internal/bytealg.IndexByteString"], unfollowed := true, recurses := true, named := ["dunnage/digest.constants"], apart := false, laid := [("dunnage/digest.constants", laid_dunnage_digest_constants)] }
def DigestFieldsSaid : Prop := digestFieldsRow.holds Tryd.pinned (OpenSpec.ofChange digestFieldsSpec)

/-- ITS FALSE NEIGHBOUR: 'it returns false'. Refute it at one input. -/
def digestFieldsWrong : ChangeSpec := { name := "digestFields", fn := fun _ => fun
  | [d1, d2] => { results := [.lit (.bool false)], args := [d1, d2] }
  | _ => none }
def DigestFieldsWrongFalsely : Prop := digestFieldsRow.holds Tryd.pinned (OpenSpec.ofChange digestFieldsWrong)

/-- 'dunnagelaw01.DigestOrders': WHATEVER THE INPUT: true; the input reads as it did. -/
def digestOrdersSpec : ChangeSpec := { name := "digestOrders", fn := fun _ => fun
  | [d1, d2, d3] => { results := [.lit (.bool true)], args := [d1, d2, d3] }
  | _ => none }
def digestOrdersRow : OpenClaim := { program := "ythdhnpejakljkaadoor", sum := "a977bd54e96092c241ed68e87a9fc44826fe5271ac331751c690164c1da95226", func := "dunnage/dunnagelaw01.DigestOrders", spec := "digestOrders", inPlace := ["internal/bytealg.IndexByteString"], unfollowed := true, recurses := true, named := ["dunnage/digest.constants"], apart := false, laid := [("dunnage/digest.constants", laid_dunnage_digest_constants)] }
def DigestOrdersSaid : Prop := digestOrdersRow.holds Tryd.pinned (OpenSpec.ofChange digestOrdersSpec)

/-- ITS FALSE NEIGHBOUR: 'it returns false'. Refute it at one input. -/
def digestOrdersWrong : ChangeSpec := { name := "digestOrders", fn := fun _ => fun
  | [d1, d2, d3] => { results := [.lit (.bool false)], args := [d1, d2, d3] }
  | _ => none }
def DigestOrdersWrongFalsely : Prop := digestOrdersRow.holds Tryd.pinned (OpenSpec.ofChange digestOrdersWrong)

/-- 'dunnagelaw01.DigestPieces': WHATEVER THE INPUT: true; the input reads as it did. -/
def digestPiecesSpec : ChangeSpec := { name := "digestPieces", fn := fun _ => fun
  | [d] => { results := [.lit (.bool true)], args := [d] }
  | _ => none }
def digestPiecesRow : OpenClaim := { program := "ythdhnpejakljkaadoor", sum := "a977bd54e96092c241ed68e87a9fc44826fe5271ac331751c690164c1da95226", func := "dunnage/dunnagelaw01.DigestPieces", spec := "digestPieces", inPlace := ["internal/bytealg.IndexByteString"], unfollowed := true, recurses := true, named := ["dunnage/digest.constants"], apart := false, laid := [("dunnage/digest.constants", laid_dunnage_digest_constants)] }
def DigestPiecesSaid : Prop := digestPiecesRow.holds Tryd.pinned (OpenSpec.ofChange digestPiecesSpec)

/-- ITS FALSE NEIGHBOUR: 'it returns false'. Refute it at one input. -/
def digestPiecesWrong : ChangeSpec := { name := "digestPieces", fn := fun _ => fun
  | [d] => { results := [.lit (.bool false)], args := [d] }
  | _ => none }
def DigestPiecesWrongFalsely : Prop := digestPiecesRow.holds Tryd.pinned (OpenSpec.ofChange digestPiecesWrong)

/-- 'dunnagelaw01.DigestBlocks': WHATEVER THE INPUT: true; the input reads as it did. -/
def digestBlocksSpec : ChangeSpec := { name := "digestBlocks", fn := fun _ => fun
  | [d] => { results := [.lit (.bool true)], args := [d] }
  | _ => none }
def digestBlocksRow : OpenClaim := { program := "ythdhnpejakljkaadoor", sum := "a977bd54e96092c241ed68e87a9fc44826fe5271ac331751c690164c1da95226", func := "dunnage/dunnagelaw01.DigestBlocks", spec := "digestBlocks", inPlace := ["internal/bytealg.IndexByteString"], unfollowed := true, recurses := true, named := ["dunnage/digest.constants"], apart := false, laid := [("dunnage/digest.constants", laid_dunnage_digest_constants)] }
def DigestBlocksSaid : Prop := digestBlocksRow.holds Tryd.pinned (OpenSpec.ofChange digestBlocksSpec)

/-- ITS FALSE NEIGHBOUR: 'it returns false'. Refute it at one input. -/
def digestBlocksWrong : ChangeSpec := { name := "digestBlocks", fn := fun _ => fun
  | [d] => { results := [.lit (.bool false)], args := [d] }
  | _ => none }
def DigestBlocksWrongFalsely : Prop := digestBlocksRow.holds Tryd.pinned (OpenSpec.ofChange digestBlocksWrong)

/-- 'dunnagelaw01.DigestTextBack': WHATEVER THE INPUT: true; the input reads as it did. -/
def digestTextBackSpec : ChangeSpec := { name := "digestTextBack", fn := fun _ => fun
  | [d1, d2] => { results := [.lit (.bool true)], args := [d1, d2] }
  | _ => none }
def digestTextBackRow : OpenClaim := { program := "ythdhnpejakljkaadoor", sum := "a977bd54e96092c241ed68e87a9fc44826fe5271ac331751c690164c1da95226", func := "dunnage/dunnagelaw01.DigestTextBack", spec := "digestTextBack", inPlace := ["internal/bytealg.IndexByteString"], unfollowed := true, recurses := true, named := ["dunnage/digest.constants"], apart := false, laid := [("dunnage/digest.constants", laid_dunnage_digest_constants)] }
def DigestTextBackSaid : Prop := digestTextBackRow.holds Tryd.pinned (OpenSpec.ofChange digestTextBackSpec)

/-- ITS FALSE NEIGHBOUR: 'it returns false'. Refute it at one input. -/
def digestTextBackWrong : ChangeSpec := { name := "digestTextBack", fn := fun _ => fun
  | [d1, d2] => { results := [.lit (.bool false)], args := [d1, d2] }
  | _ => none }
def DigestTextBackWrongFalsely : Prop := digestTextBackRow.holds Tryd.pinned (OpenSpec.ofChange digestTextBackWrong)

/-- 'dunnagelaw01.DigestKeyed': WHATEVER THE INPUT: true; the input reads as it did. -/
def digestKeyedSpec : ChangeSpec := { name := "digestKeyed", fn := fun _ => fun
  | [d1, d2, d3, d4] => { results := [.lit (.bool true)], args := [d1, d2, d3, d4] }
  | _ => none }
def digestKeyedRow : OpenClaim := { program := "ythdhnpejakljkaadoor", sum := "a977bd54e96092c241ed68e87a9fc44826fe5271ac331751c690164c1da95226", func := "dunnage/dunnagelaw01.DigestKeyed", spec := "digestKeyed", inPlace := ["internal/bytealg.IndexByteString"], unfollowed := true, recurses := true, named := ["dunnage/digest.constants"], apart := false, laid := [("dunnage/digest.constants", laid_dunnage_digest_constants)] }
def DigestKeyedSaid : Prop := digestKeyedRow.holds Tryd.pinned (OpenSpec.ofChange digestKeyedSpec)

/-- ITS FALSE NEIGHBOUR: 'it returns false'. Refute it at one input. -/
def digestKeyedWrong : ChangeSpec := { name := "digestKeyed", fn := fun _ => fun
  | [d1, d2, d3, d4] => { results := [.lit (.bool false)], args := [d1, d2, d3, d4] }
  | _ => none }
def DigestKeyedWrongFalsely : Prop := digestKeyedRow.holds Tryd.pinned (OpenSpec.ofChange digestKeyedWrong)

/- THE SECOND FORM. 'bulk': how many values and letters a reading holds, each counted each time it is reached (what is shared counts as often as it is met; a slice's spare places count too). A statement '..UptoSaid' is the law's where the arguments, and the package variables that the reading takes, are together of bulk at most 1048576: NARROWER than '..Said'. Prove '..Said' where nothing that the law and all that it calls make is longer than what came in: it says more and counts as full. Else prove '..UptoSaid'. A law counts once. -/
mutual
def uptoBulk {H : Type} : DataW H → Nat
  | .lit (.string bytes) => bytes.length + 1
  | .lit _ => 1
  | .nil => 1
  | .ptr d => uptoBulk d + 1
  | .slice elems spare => uptoBulkAll elems + uptoBulkAll spare + 1
  | .agg parts => uptoBulkAll parts + 1
  | .iface _ d => uptoBulk d + 1
  | .map entries => uptoBulkEntries entries + 1
  | .held _ => 1
def uptoBulkAll {H : Type} : List (DataW H) → Nat
  | [] => 0
  | d :: r => uptoBulk d + uptoBulkAll r
def uptoBulkEntries {H : Type} : List (Lit × DataW H) → Nat
  | [] => 0
  | x :: r => uptoBulkEntry x + uptoBulkEntries r
def uptoBulkEntry {H : Type} : Lit × DataW H → Nat
  | (.string bytes, d) => bytes.length + uptoBulk d + 1
  | (_, d) => uptoBulk d + 1
 end
def uptoSmall : (H : Type) → List (DataW H) → Bool := fun _ ds => decide (uptoBulkAll ds ≤ 1048576)
def OpenSpec.upto (s : _root_.Go.ChangeSpec) : _root_.Go.OpenSpec := { _root_.Go.OpenSpec.ofChange s with cond := some uptoSmall }

/-- 'dunnagelaw01.DigestCompresses', WHERE WHAT IT READS IS OF BULK AT MOST 1048576: true; the input reads as it did. -/
def digestCompressesUptoRow : OpenClaim := { program := "ythdhnpejakljkaadoor", sum := "a977bd54e96092c241ed68e87a9fc44826fe5271ac331751c690164c1da95226", func := "dunnage/dunnagelaw01.DigestCompresses", spec := "digestCompresses", unfollowed := true, recurses := true, named := ["dunnage/digest.constants"], apart := false, laid := [("dunnage/digest.constants", laid_dunnage_digest_constants)], narrowed := true }
def DigestCompressesUptoSaid : Prop := digestCompressesUptoRow.holds Tryd.pinned (OpenSpec.upto digestCompressesSpec)

/-- 'dunnagelaw01.DigestHashes', WHERE WHAT IT READS IS OF BULK AT MOST 1048576: true; the input reads as it did. -/
def digestHashesUptoRow : OpenClaim := { program := "ythdhnpejakljkaadoor", sum := "a977bd54e96092c241ed68e87a9fc44826fe5271ac331751c690164c1da95226", func := "dunnage/dunnagelaw01.DigestHashes", spec := "digestHashes", unfollowed := true, recurses := true, named := ["dunnage/digest.constants"], apart := false, laid := [("dunnage/digest.constants", laid_dunnage_digest_constants)], narrowed := true }
def DigestHashesUptoSaid : Prop := digestHashesUptoRow.holds Tryd.pinned (OpenSpec.upto digestHashesSpec)

/-- 'dunnagelaw01.DigestSums', WHERE WHAT IT READS IS OF BULK AT MOST 1048576: true; the input reads as it did. -/
def digestSumsUptoRow : OpenClaim := { program := "ythdhnpejakljkaadoor", sum := "a977bd54e96092c241ed68e87a9fc44826fe5271ac331751c690164c1da95226", func := "dunnage/dunnagelaw01.DigestSums", spec := "digestSums", unfollowed := true, recurses := true, named := ["dunnage/digest.constants"], apart := false, laid := [("dunnage/digest.constants", laid_dunnage_digest_constants)], narrowed := true }
def DigestSumsUptoSaid : Prop := digestSumsUptoRow.holds Tryd.pinned (OpenSpec.upto digestSumsSpec)

/-- 'dunnagelaw01.DigestTags', WHERE WHAT IT READS IS OF BULK AT MOST 1048576: true; the input reads as it did. -/
def digestTagsUptoRow : OpenClaim := { program := "ythdhnpejakljkaadoor", sum := "a977bd54e96092c241ed68e87a9fc44826fe5271ac331751c690164c1da95226", func := "dunnage/dunnagelaw01.DigestTags", spec := "digestTags", unfollowed := true, recurses := true, named := ["dunnage/digest.constants"], apart := false, laid := [("dunnage/digest.constants", laid_dunnage_digest_constants)], narrowed := true }
def DigestTagsUptoSaid : Prop := digestTagsUptoRow.holds Tryd.pinned (OpenSpec.upto digestTagsSpec)

/-- 'dunnagelaw01.DigestExamples', WHERE WHAT IT READS IS OF BULK AT MOST 1048576: true; the input reads as it did. -/
def digestExamplesUptoRow : OpenClaim := { program := "ythdhnpejakljkaadoor", sum := "a977bd54e96092c241ed68e87a9fc44826fe5271ac331751c690164c1da95226", func := "dunnage/dunnagelaw01.DigestExamples", spec := "digestExamples", inPlace := ["internal/bytealg.IndexByteString"], unfollowed := true, recurses := true, named := ["dunnage/digest.constants"], apart := false, laid := [("dunnage/digest.constants", laid_dunnage_digest_constants)], narrowed := true }
def DigestExamplesUptoSaid : Prop := digestExamplesUptoRow.holds Tryd.pinned (OpenSpec.upto digestExamplesSpec)

/-- 'dunnagelaw01.DigestFields', WHERE WHAT IT READS IS OF BULK AT MOST 1048576: true; the input reads as it did. -/
def digestFieldsUptoRow : OpenClaim := { program := "ythdhnpejakljkaadoor", sum := "a977bd54e96092c241ed68e87a9fc44826fe5271ac331751c690164c1da95226", func := "dunnage/dunnagelaw01.DigestFields", spec := "digestFields", inPlace := ["internal/bytealg.IndexByteString"], unfollowed := true, recurses := true, named := ["dunnage/digest.constants"], apart := false, laid := [("dunnage/digest.constants", laid_dunnage_digest_constants)], narrowed := true }
def DigestFieldsUptoSaid : Prop := digestFieldsUptoRow.holds Tryd.pinned (OpenSpec.upto digestFieldsSpec)

/-- 'dunnagelaw01.DigestOrders', WHERE WHAT IT READS IS OF BULK AT MOST 1048576: true; the input reads as it did. -/
def digestOrdersUptoRow : OpenClaim := { program := "ythdhnpejakljkaadoor", sum := "a977bd54e96092c241ed68e87a9fc44826fe5271ac331751c690164c1da95226", func := "dunnage/dunnagelaw01.DigestOrders", spec := "digestOrders", inPlace := ["internal/bytealg.IndexByteString"], unfollowed := true, recurses := true, named := ["dunnage/digest.constants"], apart := false, laid := [("dunnage/digest.constants", laid_dunnage_digest_constants)], narrowed := true }
def DigestOrdersUptoSaid : Prop := digestOrdersUptoRow.holds Tryd.pinned (OpenSpec.upto digestOrdersSpec)

/-- 'dunnagelaw01.DigestPieces', WHERE WHAT IT READS IS OF BULK AT MOST 1048576: true; the input reads as it did. -/
def digestPiecesUptoRow : OpenClaim := { program := "ythdhnpejakljkaadoor", sum := "a977bd54e96092c241ed68e87a9fc44826fe5271ac331751c690164c1da95226", func := "dunnage/dunnagelaw01.DigestPieces", spec := "digestPieces", inPlace := ["internal/bytealg.IndexByteString"], unfollowed := true, recurses := true, named := ["dunnage/digest.constants"], apart := false, laid := [("dunnage/digest.constants", laid_dunnage_digest_constants)], narrowed := true }
def DigestPiecesUptoSaid : Prop := digestPiecesUptoRow.holds Tryd.pinned (OpenSpec.upto digestPiecesSpec)

/-- 'dunnagelaw01.DigestBlocks', WHERE WHAT IT READS IS OF BULK AT MOST 1048576: true; the input reads as it did. -/
def digestBlocksUptoRow : OpenClaim := { program := "ythdhnpejakljkaadoor", sum := "a977bd54e96092c241ed68e87a9fc44826fe5271ac331751c690164c1da95226", func := "dunnage/dunnagelaw01.DigestBlocks", spec := "digestBlocks", inPlace := ["internal/bytealg.IndexByteString"], unfollowed := true, recurses := true, named := ["dunnage/digest.constants"], apart := false, laid := [("dunnage/digest.constants", laid_dunnage_digest_constants)], narrowed := true }
def DigestBlocksUptoSaid : Prop := digestBlocksUptoRow.holds Tryd.pinned (OpenSpec.upto digestBlocksSpec)

/-- 'dunnagelaw01.DigestTextBack', WHERE WHAT IT READS IS OF BULK AT MOST 1048576: true; the input reads as it did. -/
def digestTextBackUptoRow : OpenClaim := { program := "ythdhnpejakljkaadoor", sum := "a977bd54e96092c241ed68e87a9fc44826fe5271ac331751c690164c1da95226", func := "dunnage/dunnagelaw01.DigestTextBack", spec := "digestTextBack", inPlace := ["internal/bytealg.IndexByteString"], unfollowed := true, recurses := true, named := ["dunnage/digest.constants"], apart := false, laid := [("dunnage/digest.constants", laid_dunnage_digest_constants)], narrowed := true }
def DigestTextBackUptoSaid : Prop := digestTextBackUptoRow.holds Tryd.pinned (OpenSpec.upto digestTextBackSpec)

/-- 'dunnagelaw01.DigestKeyed', WHERE WHAT IT READS IS OF BULK AT MOST 1048576: true; the input reads as it did. -/
def digestKeyedUptoRow : OpenClaim := { program := "ythdhnpejakljkaadoor", sum := "a977bd54e96092c241ed68e87a9fc44826fe5271ac331751c690164c1da95226", func := "dunnage/dunnagelaw01.DigestKeyed", spec := "digestKeyed", inPlace := ["internal/bytealg.IndexByteString"], unfollowed := true, recurses := true, named := ["dunnage/digest.constants"], apart := false, laid := [("dunnage/digest.constants", laid_dunnage_digest_constants)], narrowed := true }
def DigestKeyedUptoSaid : Prop := digestKeyedUptoRow.holds Tryd.pinned (OpenSpec.upto digestKeyedSpec)

end Rows
end Go.Proofs.YthdhnpejakljkaaDoor
