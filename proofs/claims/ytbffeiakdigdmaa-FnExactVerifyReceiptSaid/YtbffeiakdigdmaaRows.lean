/-
  No cell of these rows narrows 'for every input' (looked for: loops, veiled, ifaces, maps, wideKeys, modest, calm, conditions, laid).
  DERIVED. THE GIVEN ROWS OF THIS SEAT. 12 by the template 'for every input the law returns true; each argument reads behind the call as it read before'; 0 by the template 'total and deterministic' (their statements: YtbffeiakdigdmaaTotals.lean).
  GIVEN WITH THE SEED: the statements are not yours to turn. If you find one false, say at which input.
  Laid BY PROGRAM, IN A SANDBOX (cutbox-rows.mjs): the forced cells as the released guide's own fill.sh prints them over the translation eb8016dfd61126b0… (all of the seat's roots in one cut). By AI agents, Wed Nov 11 2026. No macro, syntax, notation, axiom, sorry.
-/
import Derived.Test.YtbffeiakdigdmaaChecked
import GoSem.Claim
import GoSem.ClaimJoined
import GoSem.ClaimMapViews
import Derived.JoinedTies
import Derived.KernelRfl
namespace Go.Proofs.Ytbffeiakdigdmaa
/- THE CELL 'sum', in the pinned program and in every row, IS THE sha256 OF THE DUMP (.gsa) THAT YtbffeiakdigdmaaProg.lean LOADS. Nothing in Lean hashes anything: it is a label: what it is worth is what the hold of that sum in a sandbox is worth. -/
noncomputable def Try.pinned : Pinned := { name := "ytbffeiakdigdmaa", sum := "eb8016dfd61126b0c0c80d7d64c89bdf541116dbc8044677058c04389176dd83", checked := Try.checked }
namespace Rows
def none {H : Type} : Left H := { results := [], args := [] }

/-- 'laws.FnExactAuditName': WHATEVER THE INPUT: true; the input reads as it did. -/
def fnExactAuditNameSpec : ChangeSpec := { name := "fnExactAuditName", fn := fun _ => fun
  | [d] => { results := [.lit (.bool true)], args := [d] }
  | _ => none }
def fnExactAuditNameRow : OpenClaim := { program := "ytbffeiakdigdmaa", sum := "eb8016dfd61126b0c0c80d7d64c89bdf541116dbc8044677058c04389176dd83", func := "loop.example/g00516/laws.FnExactAuditName", spec := "fnExactAuditName", apart := false }
def FnExactAuditNameSaid : Prop := fnExactAuditNameRow.holds Try.pinned (OpenSpec.ofChange fnExactAuditNameSpec)

/-- ITS FALSE NEIGHBOUR: 'it returns false'. Refute it at one input. -/
def fnExactAuditNameWrong : ChangeSpec := { name := "fnExactAuditName", fn := fun _ => fun
  | [d] => { results := [.lit (.bool false)], args := [d] }
  | _ => none }
def FnExactAuditNameWrongFalsely : Prop := fnExactAuditNameRow.holds Try.pinned (OpenSpec.ofChange fnExactAuditNameWrong)

/-- 'laws.FnExactTreeDepth': WHATEVER THE INPUT: true; the input reads as it did. -/
def fnExactTreeDepthSpec : ChangeSpec := { name := "fnExactTreeDepth", fn := fun _ => fun
  | [d] => { results := [.lit (.bool true)], args := [d] }
  | _ => none }
def fnExactTreeDepthRow : OpenClaim := { program := "ytbffeiakdigdmaa", sum := "eb8016dfd61126b0c0c80d7d64c89bdf541116dbc8044677058c04389176dd83", func := "loop.example/g00516/laws.FnExactTreeDepth", spec := "fnExactTreeDepth", apart := false }
def FnExactTreeDepthSaid : Prop := fnExactTreeDepthRow.holds Try.pinned (OpenSpec.ofChange fnExactTreeDepthSpec)

/-- ITS FALSE NEIGHBOUR: 'it returns false'. Refute it at one input. -/
def fnExactTreeDepthWrong : ChangeSpec := { name := "fnExactTreeDepth", fn := fun _ => fun
  | [d] => { results := [.lit (.bool false)], args := [d] }
  | _ => none }
def FnExactTreeDepthWrongFalsely : Prop := fnExactTreeDepthRow.holds Try.pinned (OpenSpec.ofChange fnExactTreeDepthWrong)

/-- 'laws.FnExactCountPieces': WHATEVER THE INPUT: true; the input reads as it did. -/
def fnExactCountPiecesSpec : ChangeSpec := { name := "fnExactCountPieces", fn := fun _ => fun
  | [d] => { results := [.lit (.bool true)], args := [d] }
  | _ => none }
def fnExactCountPiecesRow : OpenClaim := { program := "ytbffeiakdigdmaa", sum := "eb8016dfd61126b0c0c80d7d64c89bdf541116dbc8044677058c04389176dd83", func := "loop.example/g00516/laws.FnExactCountPieces", spec := "fnExactCountPieces", apart := false }
def FnExactCountPiecesSaid : Prop := fnExactCountPiecesRow.holds Try.pinned (OpenSpec.ofChange fnExactCountPiecesSpec)

/-- ITS FALSE NEIGHBOUR: 'it returns false'. Refute it at one input. -/
def fnExactCountPiecesWrong : ChangeSpec := { name := "fnExactCountPieces", fn := fun _ => fun
  | [d] => { results := [.lit (.bool false)], args := [d] }
  | _ => none }
def FnExactCountPiecesWrongFalsely : Prop := fnExactCountPiecesRow.holds Try.pinned (OpenSpec.ofChange fnExactCountPiecesWrong)

/-- 'laws.FnExactNodeHash': WHATEVER THE INPUT: true; the input reads as it did. -/
def fnExactNodeHashSpec : ChangeSpec := { name := "fnExactNodeHash", fn := fun _ => fun
  | [d1, d2] => { results := [.lit (.bool true)], args := [d1, d2] }
  | _ => none }
def fnExactNodeHashRow : OpenClaim := { program := "ytbffeiakdigdmaa", sum := "eb8016dfd61126b0c0c80d7d64c89bdf541116dbc8044677058c04389176dd83", func := "loop.example/g00516/laws.FnExactNodeHash", spec := "fnExactNodeHash", apart := false }
def FnExactNodeHashSaid : Prop := fnExactNodeHashRow.holds Try.pinned (OpenSpec.ofChange fnExactNodeHashSpec)

/-- ITS FALSE NEIGHBOUR: 'it returns false'. Refute it at one input. -/
def fnExactNodeHashWrong : ChangeSpec := { name := "fnExactNodeHash", fn := fun _ => fun
  | [d1, d2] => { results := [.lit (.bool false)], args := [d1, d2] }
  | _ => none }
def FnExactNodeHashWrongFalsely : Prop := fnExactNodeHashRow.holds Try.pinned (OpenSpec.ofChange fnExactNodeHashWrong)

/-- 'laws.FnExactRowHash': WHATEVER THE INPUT: true; the input reads as it did. -/
def fnExactRowHashSpec : ChangeSpec := { name := "fnExactRowHash", fn := fun _ => fun
  | [d1, d2] => { results := [.lit (.bool true)], args := [d1, d2] }
  | _ => none }
def fnExactRowHashRow : OpenClaim := { program := "ytbffeiakdigdmaa", sum := "eb8016dfd61126b0c0c80d7d64c89bdf541116dbc8044677058c04389176dd83", func := "loop.example/g00516/laws.FnExactRowHash", spec := "fnExactRowHash", apart := false }
def FnExactRowHashSaid : Prop := fnExactRowHashRow.holds Try.pinned (OpenSpec.ofChange fnExactRowHashSpec)

/-- ITS FALSE NEIGHBOUR: 'it returns false'. Refute it at one input. -/
def fnExactRowHashWrong : ChangeSpec := { name := "fnExactRowHash", fn := fun _ => fun
  | [d1, d2] => { results := [.lit (.bool false)], args := [d1, d2] }
  | _ => none }
def FnExactRowHashWrongFalsely : Prop := fnExactRowHashRow.holds Try.pinned (OpenSpec.ofChange fnExactRowHashWrong)

/-- 'laws.FnExactReceiveShare': WHATEVER THE INPUT: true; the input reads as it did. -/
def fnExactReceiveShareSpec : ChangeSpec := { name := "fnExactReceiveShare", fn := fun _ => fun
  | [d1, d2, d3] => { results := [.lit (.bool true)], args := [d1, d2, d3] }
  | _ => none }
def fnExactReceiveShareRow : OpenClaim := { program := "ytbffeiakdigdmaa", sum := "eb8016dfd61126b0c0c80d7d64c89bdf541116dbc8044677058c04389176dd83", func := "loop.example/g00516/laws.FnExactReceiveShare", spec := "fnExactReceiveShare", inPlace := ["slices.overlaps[loop.example/g00516/impl.ReceivedShare]"], unfollowed := true, recurses := true, apart := false }
def FnExactReceiveShareSaid : Prop := fnExactReceiveShareRow.holds Try.pinned (OpenSpec.ofChange fnExactReceiveShareSpec)

/-- ITS FALSE NEIGHBOUR: 'it returns false'. Refute it at one input. -/
def fnExactReceiveShareWrong : ChangeSpec := { name := "fnExactReceiveShare", fn := fun _ => fun
  | [d1, d2, d3] => { results := [.lit (.bool false)], args := [d1, d2, d3] }
  | _ => none }
def FnExactReceiveShareWrongFalsely : Prop := fnExactReceiveShareRow.holds Try.pinned (OpenSpec.ofChange fnExactReceiveShareWrong)

/-- 'laws.FnExactReceiptMAC': WHATEVER THE INPUT: true; the input reads as it did. -/
def fnExactReceiptMACSpec : ChangeSpec := { name := "fnExactReceiptMAC", fn := fun _ => fun
  | [d1, d2] => { results := [.lit (.bool true)], args := [d1, d2] }
  | _ => none }
def fnExactReceiptMACRow : OpenClaim := { program := "ytbffeiakdigdmaa", sum := "eb8016dfd61126b0c0c80d7d64c89bdf541116dbc8044677058c04389176dd83", func := "loop.example/g00516/laws.FnExactReceiptMAC", spec := "fnExactReceiptMAC", apart := false }
def FnExactReceiptMACSaid : Prop := fnExactReceiptMACRow.holds Try.pinned (OpenSpec.ofChange fnExactReceiptMACSpec)

/-- ITS FALSE NEIGHBOUR: 'it returns false'. Refute it at one input. -/
def fnExactReceiptMACWrong : ChangeSpec := { name := "fnExactReceiptMAC", fn := fun _ => fun
  | [d1, d2] => { results := [.lit (.bool false)], args := [d1, d2] }
  | _ => none }
def FnExactReceiptMACWrongFalsely : Prop := fnExactReceiptMACRow.holds Try.pinned (OpenSpec.ofChange fnExactReceiptMACWrong)

/-- 'laws.FnExactServerKey': WHATEVER THE INPUT: true; the input reads as it did. -/
def fnExactServerKeySpec : ChangeSpec := { name := "fnExactServerKey", fn := fun _ => fun
  | [d1, d2] => { results := [.lit (.bool true)], args := [d1, d2] }
  | _ => none }
def fnExactServerKeyRow : OpenClaim := { program := "ytbffeiakdigdmaa", sum := "eb8016dfd61126b0c0c80d7d64c89bdf541116dbc8044677058c04389176dd83", func := "loop.example/g00516/laws.FnExactServerKey", spec := "fnExactServerKey", apart := false }
def FnExactServerKeySaid : Prop := fnExactServerKeyRow.holds Try.pinned (OpenSpec.ofChange fnExactServerKeySpec)

/-- ITS FALSE NEIGHBOUR: 'it returns false'. Refute it at one input. -/
def fnExactServerKeyWrong : ChangeSpec := { name := "fnExactServerKey", fn := fun _ => fun
  | [d1, d2] => { results := [.lit (.bool false)], args := [d1, d2] }
  | _ => none }
def FnExactServerKeyWrongFalsely : Prop := fnExactServerKeyRow.holds Try.pinned (OpenSpec.ofChange fnExactServerKeyWrong)

/-- 'laws.FnExactVerifyReceipt': WHATEVER THE INPUT: true; the input reads as it did. -/
def fnExactVerifyReceiptSpec : ChangeSpec := { name := "fnExactVerifyReceipt", fn := fun _ => fun
  | [d1, d2] => { results := [.lit (.bool true)], args := [d1, d2] }
  | _ => none }
def fnExactVerifyReceiptRow : OpenClaim := { program := "ytbffeiakdigdmaa", sum := "eb8016dfd61126b0c0c80d7d64c89bdf541116dbc8044677058c04389176dd83", func := "loop.example/g00516/laws.FnExactVerifyReceipt", spec := "fnExactVerifyReceipt", apart := false }
def FnExactVerifyReceiptSaid : Prop := fnExactVerifyReceiptRow.holds Try.pinned (OpenSpec.ofChange fnExactVerifyReceiptSpec)

/-- ITS FALSE NEIGHBOUR: 'it returns false'. Refute it at one input. -/
def fnExactVerifyReceiptWrong : ChangeSpec := { name := "fnExactVerifyReceipt", fn := fun _ => fun
  | [d1, d2] => { results := [.lit (.bool false)], args := [d1, d2] }
  | _ => none }
def FnExactVerifyReceiptWrongFalsely : Prop := fnExactVerifyReceiptRow.holds Try.pinned (OpenSpec.ofChange fnExactVerifyReceiptWrong)

/-- 'laws.FnExactCoverRow': WHATEVER THE INPUT: true; the input reads as it did. -/
def fnExactCoverRowSpec : ChangeSpec := { name := "fnExactCoverRow", fn := fun _ => fun
  | [d1, d2, d3] => { results := [.lit (.bool true)], args := [d1, d2, d3] }
  | _ => none }
def fnExactCoverRowRow : OpenClaim := { program := "ytbffeiakdigdmaa", sum := "eb8016dfd61126b0c0c80d7d64c89bdf541116dbc8044677058c04389176dd83", func := "loop.example/g00516/laws.FnExactCoverRow", spec := "fnExactCoverRow", apart := false }
def FnExactCoverRowSaid : Prop := fnExactCoverRowRow.holds Try.pinned (OpenSpec.ofChange fnExactCoverRowSpec)

/-- ITS FALSE NEIGHBOUR: 'it returns false'. Refute it at one input. -/
def fnExactCoverRowWrong : ChangeSpec := { name := "fnExactCoverRow", fn := fun _ => fun
  | [d1, d2, d3] => { results := [.lit (.bool false)], args := [d1, d2, d3] }
  | _ => none }
def FnExactCoverRowWrongFalsely : Prop := fnExactCoverRowRow.holds Try.pinned (OpenSpec.ofChange fnExactCoverRowWrong)

/-- 'laws.FnExactEqualGroups': WHATEVER THE INPUT: true; the input reads as it did. -/
def fnExactEqualGroupsSpec : ChangeSpec := { name := "fnExactEqualGroups", fn := fun _ => fun
  | [d1, d2] => { results := [.lit (.bool true)], args := [d1, d2] }
  | _ => none }
def fnExactEqualGroupsRow : OpenClaim := { program := "ytbffeiakdigdmaa", sum := "eb8016dfd61126b0c0c80d7d64c89bdf541116dbc8044677058c04389176dd83", func := "loop.example/g00516/laws.FnExactEqualGroups", spec := "fnExactEqualGroups", apart := false }
def FnExactEqualGroupsSaid : Prop := fnExactEqualGroupsRow.holds Try.pinned (OpenSpec.ofChange fnExactEqualGroupsSpec)

/-- ITS FALSE NEIGHBOUR: 'it returns false'. Refute it at one input. -/
def fnExactEqualGroupsWrong : ChangeSpec := { name := "fnExactEqualGroups", fn := fun _ => fun
  | [d1, d2] => { results := [.lit (.bool false)], args := [d1, d2] }
  | _ => none }
def FnExactEqualGroupsWrongFalsely : Prop := fnExactEqualGroupsRow.holds Try.pinned (OpenSpec.ofChange fnExactEqualGroupsWrong)

/-- 'laws.FnExactEncodePiece': WHATEVER THE INPUT: true; the input reads as it did. -/
def fnExactEncodePieceSpec : ChangeSpec := { name := "fnExactEncodePiece", fn := fun _ => fun
  | [d] => { results := [.lit (.bool true)], args := [d] }
  | _ => none }
def fnExactEncodePieceRow : OpenClaim := { program := "ytbffeiakdigdmaa", sum := "eb8016dfd61126b0c0c80d7d64c89bdf541116dbc8044677058c04389176dd83", func := "loop.example/g00516/laws.FnExactEncodePiece", spec := "fnExactEncodePiece", apart := false }
def FnExactEncodePieceSaid : Prop := fnExactEncodePieceRow.holds Try.pinned (OpenSpec.ofChange fnExactEncodePieceSpec)

/-- ITS FALSE NEIGHBOUR: 'it returns false'. Refute it at one input. -/
def fnExactEncodePieceWrong : ChangeSpec := { name := "fnExactEncodePiece", fn := fun _ => fun
  | [d] => { results := [.lit (.bool false)], args := [d] }
  | _ => none }
def FnExactEncodePieceWrongFalsely : Prop := fnExactEncodePieceRow.holds Try.pinned (OpenSpec.ofChange fnExactEncodePieceWrong)

/- THE SECOND FORM. 'bulk': how many values and letters a reading holds, each counted each time it is reached (what is shared counts as often as it is met; a slice's spare places count too). A statement '..UptoSaid' is the law's where the arguments, and the package variables that the reading takes, are together of bulk at most 1048576: NARROWER than '..Said'. Prove '..Said' where nothing that the law and all that it calls make is longer than what came in: it says more and counts as full. Else prove '..UptoSaid'. A law counts once. -/
mutual
def uptoBulk {H : Type} : DataW H → Nat
  | .lit (.string bytes) => bytes.length + 1
  | .lit _ => 1
  | .nil => 1
  | .ptr d => uptoBulk d + 1
  | .slice elems spare => uptoBulkAll elems + uptoBulkAll spare + 1
  | .agg parts => uptoBulkAll parts + 1
  | .iface _ d => uptoBulk d + 1
  | .map entries => uptoBulkEntries entries + 1
  | .held _ => 1
def uptoBulkAll {H : Type} : List (DataW H) → Nat
  | [] => 0
  | d :: r => uptoBulk d + uptoBulkAll r
def uptoBulkEntries {H : Type} : List (Lit × DataW H) → Nat
  | [] => 0
  | x :: r => uptoBulkEntry x + uptoBulkEntries r
def uptoBulkEntry {H : Type} : Lit × DataW H → Nat
  | (.string bytes, d) => bytes.length + uptoBulk d + 1
  | (_, d) => uptoBulk d + 1
 end
def uptoSmall : (H : Type) → List (DataW H) → Bool := fun _ ds => decide (uptoBulkAll ds ≤ 1048576)
def OpenSpec.upto (s : _root_.Go.ChangeSpec) : _root_.Go.OpenSpec := { _root_.Go.OpenSpec.ofChange s with cond := some uptoSmall }

/-- 'laws.FnExactAuditName', WHERE WHAT IT READS IS OF BULK AT MOST 1048576: true; the input reads as it did. -/
def fnExactAuditNameUptoRow : OpenClaim := { program := "ytbffeiakdigdmaa", sum := "eb8016dfd61126b0c0c80d7d64c89bdf541116dbc8044677058c04389176dd83", func := "loop.example/g00516/laws.FnExactAuditName", spec := "fnExactAuditName", apart := false, narrowed := true }
def FnExactAuditNameUptoSaid : Prop := fnExactAuditNameUptoRow.holds Try.pinned (OpenSpec.upto fnExactAuditNameSpec)

/-- 'laws.FnExactTreeDepth', WHERE WHAT IT READS IS OF BULK AT MOST 1048576: true; the input reads as it did. -/
def fnExactTreeDepthUptoRow : OpenClaim := { program := "ytbffeiakdigdmaa", sum := "eb8016dfd61126b0c0c80d7d64c89bdf541116dbc8044677058c04389176dd83", func := "loop.example/g00516/laws.FnExactTreeDepth", spec := "fnExactTreeDepth", apart := false, narrowed := true }
def FnExactTreeDepthUptoSaid : Prop := fnExactTreeDepthUptoRow.holds Try.pinned (OpenSpec.upto fnExactTreeDepthSpec)

/-- 'laws.FnExactCountPieces', WHERE WHAT IT READS IS OF BULK AT MOST 1048576: true; the input reads as it did. -/
def fnExactCountPiecesUptoRow : OpenClaim := { program := "ytbffeiakdigdmaa", sum := "eb8016dfd61126b0c0c80d7d64c89bdf541116dbc8044677058c04389176dd83", func := "loop.example/g00516/laws.FnExactCountPieces", spec := "fnExactCountPieces", apart := false, narrowed := true }
def FnExactCountPiecesUptoSaid : Prop := fnExactCountPiecesUptoRow.holds Try.pinned (OpenSpec.upto fnExactCountPiecesSpec)

/-- 'laws.FnExactNodeHash', WHERE WHAT IT READS IS OF BULK AT MOST 1048576: true; the input reads as it did. -/
def fnExactNodeHashUptoRow : OpenClaim := { program := "ytbffeiakdigdmaa", sum := "eb8016dfd61126b0c0c80d7d64c89bdf541116dbc8044677058c04389176dd83", func := "loop.example/g00516/laws.FnExactNodeHash", spec := "fnExactNodeHash", apart := false, narrowed := true }
def FnExactNodeHashUptoSaid : Prop := fnExactNodeHashUptoRow.holds Try.pinned (OpenSpec.upto fnExactNodeHashSpec)

/-- 'laws.FnExactRowHash', WHERE WHAT IT READS IS OF BULK AT MOST 1048576: true; the input reads as it did. -/
def fnExactRowHashUptoRow : OpenClaim := { program := "ytbffeiakdigdmaa", sum := "eb8016dfd61126b0c0c80d7d64c89bdf541116dbc8044677058c04389176dd83", func := "loop.example/g00516/laws.FnExactRowHash", spec := "fnExactRowHash", apart := false, narrowed := true }
def FnExactRowHashUptoSaid : Prop := fnExactRowHashUptoRow.holds Try.pinned (OpenSpec.upto fnExactRowHashSpec)

/-- 'laws.FnExactReceiveShare', WHERE WHAT IT READS IS OF BULK AT MOST 1048576: true; the input reads as it did. -/
def fnExactReceiveShareUptoRow : OpenClaim := { program := "ytbffeiakdigdmaa", sum := "eb8016dfd61126b0c0c80d7d64c89bdf541116dbc8044677058c04389176dd83", func := "loop.example/g00516/laws.FnExactReceiveShare", spec := "fnExactReceiveShare", inPlace := ["slices.overlaps[loop.example/g00516/impl.ReceivedShare]"], unfollowed := true, recurses := true, apart := false, narrowed := true }
def FnExactReceiveShareUptoSaid : Prop := fnExactReceiveShareUptoRow.holds Try.pinned (OpenSpec.upto fnExactReceiveShareSpec)

/-- 'laws.FnExactReceiptMAC', WHERE WHAT IT READS IS OF BULK AT MOST 1048576: true; the input reads as it did. -/
def fnExactReceiptMACUptoRow : OpenClaim := { program := "ytbffeiakdigdmaa", sum := "eb8016dfd61126b0c0c80d7d64c89bdf541116dbc8044677058c04389176dd83", func := "loop.example/g00516/laws.FnExactReceiptMAC", spec := "fnExactReceiptMAC", apart := false, narrowed := true }
def FnExactReceiptMACUptoSaid : Prop := fnExactReceiptMACUptoRow.holds Try.pinned (OpenSpec.upto fnExactReceiptMACSpec)

/-- 'laws.FnExactServerKey', WHERE WHAT IT READS IS OF BULK AT MOST 1048576: true; the input reads as it did. -/
def fnExactServerKeyUptoRow : OpenClaim := { program := "ytbffeiakdigdmaa", sum := "eb8016dfd61126b0c0c80d7d64c89bdf541116dbc8044677058c04389176dd83", func := "loop.example/g00516/laws.FnExactServerKey", spec := "fnExactServerKey", apart := false, narrowed := true }
def FnExactServerKeyUptoSaid : Prop := fnExactServerKeyUptoRow.holds Try.pinned (OpenSpec.upto fnExactServerKeySpec)

/-- 'laws.FnExactVerifyReceipt', WHERE WHAT IT READS IS OF BULK AT MOST 1048576: true; the input reads as it did. -/
def fnExactVerifyReceiptUptoRow : OpenClaim := { program := "ytbffeiakdigdmaa", sum := "eb8016dfd61126b0c0c80d7d64c89bdf541116dbc8044677058c04389176dd83", func := "loop.example/g00516/laws.FnExactVerifyReceipt", spec := "fnExactVerifyReceipt", apart := false, narrowed := true }
def FnExactVerifyReceiptUptoSaid : Prop := fnExactVerifyReceiptUptoRow.holds Try.pinned (OpenSpec.upto fnExactVerifyReceiptSpec)

/-- 'laws.FnExactCoverRow', WHERE WHAT IT READS IS OF BULK AT MOST 1048576: true; the input reads as it did. -/
def fnExactCoverRowUptoRow : OpenClaim := { program := "ytbffeiakdigdmaa", sum := "eb8016dfd61126b0c0c80d7d64c89bdf541116dbc8044677058c04389176dd83", func := "loop.example/g00516/laws.FnExactCoverRow", spec := "fnExactCoverRow", apart := false, narrowed := true }
def FnExactCoverRowUptoSaid : Prop := fnExactCoverRowUptoRow.holds Try.pinned (OpenSpec.upto fnExactCoverRowSpec)

/-- 'laws.FnExactEqualGroups', WHERE WHAT IT READS IS OF BULK AT MOST 1048576: true; the input reads as it did. -/
def fnExactEqualGroupsUptoRow : OpenClaim := { program := "ytbffeiakdigdmaa", sum := "eb8016dfd61126b0c0c80d7d64c89bdf541116dbc8044677058c04389176dd83", func := "loop.example/g00516/laws.FnExactEqualGroups", spec := "fnExactEqualGroups", apart := false, narrowed := true }
def FnExactEqualGroupsUptoSaid : Prop := fnExactEqualGroupsUptoRow.holds Try.pinned (OpenSpec.upto fnExactEqualGroupsSpec)

/-- 'laws.FnExactEncodePiece', WHERE WHAT IT READS IS OF BULK AT MOST 1048576: true; the input reads as it did. -/
def fnExactEncodePieceUptoRow : OpenClaim := { program := "ytbffeiakdigdmaa", sum := "eb8016dfd61126b0c0c80d7d64c89bdf541116dbc8044677058c04389176dd83", func := "loop.example/g00516/laws.FnExactEncodePiece", spec := "fnExactEncodePiece", apart := false, narrowed := true }
def FnExactEncodePieceUptoSaid : Prop := fnExactEncodePieceUptoRow.holds Try.pinned (OpenSpec.upto fnExactEncodePieceSpec)

end Rows
end Go.Proofs.Ytbffeiakdigdmaa
