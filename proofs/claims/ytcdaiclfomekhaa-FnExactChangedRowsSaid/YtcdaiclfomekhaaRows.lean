/-
  No cell of these rows narrows 'for every input' (looked for: loops, veiled, ifaces, maps, wideKeys, modest, calm, conditions, laid).
  DERIVED. THE GIVEN ROWS OF THIS SEAT. 12 by the template 'for every input the law returns true; each argument reads behind the call as it read before'; 0 by the template 'total and deterministic' (their statements: YtcdaiclfomekhaaTotals.lean).
  GIVEN WITH THE SEED: the statements are not yours to turn. If you find one false, say at which input.
  Laid BY PROGRAM, IN A SANDBOX (cutbox-rows.mjs): the forced cells as the released guide's own fill.sh prints them over the translation 9a731187a4bfc481… (all of the seat's roots in one cut). By AI agents, Wed Nov 11 2026. No macro, syntax, notation, axiom, sorry.
-/
import Derived.Test.YtcdaiclfomekhaaChecked
import GoSem.Claim
import GoSem.ClaimJoined
import GoSem.ClaimMapViews
import Derived.JoinedTies
import Derived.KernelRfl
namespace Go.Proofs.Ytcdaiclfomekhaa
/- THE CELL 'sum', in the pinned program and in every row, IS THE sha256 OF THE DUMP (.gsa) THAT YtcdaiclfomekhaaProg.lean LOADS. Nothing in Lean hashes anything: it is a label: what it is worth is what the hold of that sum in a sandbox is worth. -/
noncomputable def Try.pinned : Pinned := { name := "ytcdaiclfomekhaa", sum := "9a731187a4bfc4812e80c2101fdc22cbbe44c18ee9c8f1341c48a74dc49a1bfb", checked := Try.checked }
namespace Rows
def none {H : Type} : Left H := { results := [], args := [] }

/-- 'laws.FnExactDecodePiece': WHATEVER THE INPUT: true; the input reads as it did. -/
def fnExactDecodePieceSpec : ChangeSpec := { name := "fnExactDecodePiece", fn := fun _ => fun
  | [d] => { results := [.lit (.bool true)], args := [d] }
  | _ => none }
def fnExactDecodePieceRow : OpenClaim := { program := "ytcdaiclfomekhaa", sum := "9a731187a4bfc4812e80c2101fdc22cbbe44c18ee9c8f1341c48a74dc49a1bfb", func := "loop.example/g00516/laws.FnExactDecodePiece", spec := "fnExactDecodePiece", apart := false }
def FnExactDecodePieceSaid : Prop := fnExactDecodePieceRow.holds Try.pinned (OpenSpec.ofChange fnExactDecodePieceSpec)

/-- ITS FALSE NEIGHBOUR: 'it returns false'. Refute it at one input. -/
def fnExactDecodePieceWrong : ChangeSpec := { name := "fnExactDecodePiece", fn := fun _ => fun
  | [d] => { results := [.lit (.bool false)], args := [d] }
  | _ => none }
def FnExactDecodePieceWrongFalsely : Prop := fnExactDecodePieceRow.holds Try.pinned (OpenSpec.ofChange fnExactDecodePieceWrong)

/-- 'laws.FnServers': WHATEVER THE INPUT: true; the input reads as it did. -/
def fnServersSpec : ChangeSpec := { name := "fnServers", fn := fun _ => fun
  | [d] => { results := [.lit (.bool true)], args := [d] }
  | _ => none }
def fnServersRow : OpenClaim := { program := "ytcdaiclfomekhaa", sum := "9a731187a4bfc4812e80c2101fdc22cbbe44c18ee9c8f1341c48a74dc49a1bfb", func := "loop.example/g00516/laws.FnServers", spec := "fnServers", inPlace := ["slices.overlaps[loop.example/g00516/impl.ReceivedShare]"], unfollowed := true, recurses := true, apart := false }
def FnServersSaid : Prop := fnServersRow.holds Try.pinned (OpenSpec.ofChange fnServersSpec)

/-- ITS FALSE NEIGHBOUR: 'it returns false'. Refute it at one input. -/
def fnServersWrong : ChangeSpec := { name := "fnServers", fn := fun _ => fun
  | [d] => { results := [.lit (.bool false)], args := [d] }
  | _ => none }
def FnServersWrongFalsely : Prop := fnServersRow.holds Try.pinned (OpenSpec.ofChange fnServersWrong)

/-- 'laws.FnExactRoundsNeeded': WHATEVER THE INPUT: true; the input reads as it did. -/
def fnExactRoundsNeededSpec : ChangeSpec := { name := "fnExactRoundsNeeded", fn := fun _ => fun
  | [d] => { results := [.lit (.bool true)], args := [d] }
  | _ => none }
def fnExactRoundsNeededRow : OpenClaim := { program := "ytcdaiclfomekhaa", sum := "9a731187a4bfc4812e80c2101fdc22cbbe44c18ee9c8f1341c48a74dc49a1bfb", func := "loop.example/g00516/laws.FnExactRoundsNeeded", spec := "fnExactRoundsNeeded", apart := false }
def FnExactRoundsNeededSaid : Prop := fnExactRoundsNeededRow.holds Try.pinned (OpenSpec.ofChange fnExactRoundsNeededSpec)

/-- ITS FALSE NEIGHBOUR: 'it returns false'. Refute it at one input. -/
def fnExactRoundsNeededWrong : ChangeSpec := { name := "fnExactRoundsNeeded", fn := fun _ => fun
  | [d] => { results := [.lit (.bool false)], args := [d] }
  | _ => none }
def FnExactRoundsNeededWrongFalsely : Prop := fnExactRoundsNeededRow.holds Try.pinned (OpenSpec.ofChange fnExactRoundsNeededWrong)

/-- 'laws.FnExactEqualAnswers': WHATEVER THE INPUT: true; the input reads as it did. -/
def fnExactEqualAnswersSpec : ChangeSpec := { name := "fnExactEqualAnswers", fn := fun _ => fun
  | [d1, d2] => { results := [.lit (.bool true)], args := [d1, d2] }
  | _ => none }
def fnExactEqualAnswersRow : OpenClaim := { program := "ytcdaiclfomekhaa", sum := "9a731187a4bfc4812e80c2101fdc22cbbe44c18ee9c8f1341c48a74dc49a1bfb", func := "loop.example/g00516/laws.FnExactEqualAnswers", spec := "fnExactEqualAnswers", apart := false }
def FnExactEqualAnswersSaid : Prop := fnExactEqualAnswersRow.holds Try.pinned (OpenSpec.ofChange fnExactEqualAnswersSpec)

/-- ITS FALSE NEIGHBOUR: 'it returns false'. Refute it at one input. -/
def fnExactEqualAnswersWrong : ChangeSpec := { name := "fnExactEqualAnswers", fn := fun _ => fun
  | [d1, d2] => { results := [.lit (.bool false)], args := [d1, d2] }
  | _ => none }
def FnExactEqualAnswersWrongFalsely : Prop := fnExactEqualAnswersRow.holds Try.pinned (OpenSpec.ofChange fnExactEqualAnswersWrong)

/-- 'laws.FnExactMissingReceipts': WHATEVER THE INPUT: true; the input reads as it did. -/
def fnExactMissingReceiptsSpec : ChangeSpec := { name := "fnExactMissingReceipts", fn := fun _ => fun
  | [d1, d2, d3, d4] => { results := [.lit (.bool true)], args := [d1, d2, d3, d4] }
  | _ => none }
def fnExactMissingReceiptsRow : OpenClaim := { program := "ytcdaiclfomekhaa", sum := "9a731187a4bfc4812e80c2101fdc22cbbe44c18ee9c8f1341c48a74dc49a1bfb", func := "loop.example/g00516/laws.FnExactMissingReceipts", spec := "fnExactMissingReceipts", unfollowed := true, recurses := true, apart := false }
def FnExactMissingReceiptsSaid : Prop := fnExactMissingReceiptsRow.holds Try.pinned (OpenSpec.ofChange fnExactMissingReceiptsSpec)

/-- ITS FALSE NEIGHBOUR: 'it returns false'. Refute it at one input. -/
def fnExactMissingReceiptsWrong : ChangeSpec := { name := "fnExactMissingReceipts", fn := fun _ => fun
  | [d1, d2, d3, d4] => { results := [.lit (.bool false)], args := [d1, d2, d3, d4] }
  | _ => none }
def FnExactMissingReceiptsWrongFalsely : Prop := fnExactMissingReceiptsRow.holds Try.pinned (OpenSpec.ofChange fnExactMissingReceiptsWrong)

/-- 'laws.FnExactSenderKey': WHATEVER THE INPUT: true; the input reads as it did. -/
def fnExactSenderKeySpec : ChangeSpec := { name := "fnExactSenderKey", fn := fun _ => fun
  | [d1, d2] => { results := [.lit (.bool true)], args := [d1, d2] }
  | _ => none }
def fnExactSenderKeyRow : OpenClaim := { program := "ytcdaiclfomekhaa", sum := "9a731187a4bfc4812e80c2101fdc22cbbe44c18ee9c8f1341c48a74dc49a1bfb", func := "loop.example/g00516/laws.FnExactSenderKey", spec := "fnExactSenderKey", apart := false }
def FnExactSenderKeySaid : Prop := fnExactSenderKeyRow.holds Try.pinned (OpenSpec.ofChange fnExactSenderKeySpec)

/-- ITS FALSE NEIGHBOUR: 'it returns false'. Refute it at one input. -/
def fnExactSenderKeyWrong : ChangeSpec := { name := "fnExactSenderKey", fn := fun _ => fun
  | [d1, d2] => { results := [.lit (.bool false)], args := [d1, d2] }
  | _ => none }
def FnExactSenderKeyWrongFalsely : Prop := fnExactSenderKeyRow.holds Try.pinned (OpenSpec.ofChange fnExactSenderKeyWrong)

/-- 'laws.FnExactIsValidOutbox': WHATEVER THE INPUT: true; the input reads as it did. -/
def fnExactIsValidOutboxSpec : ChangeSpec := { name := "fnExactIsValidOutbox", fn := fun _ => fun
  | [d] => { results := [.lit (.bool true)], args := [d] }
  | _ => none }
def fnExactIsValidOutboxRow : OpenClaim := { program := "ytcdaiclfomekhaa", sum := "9a731187a4bfc4812e80c2101fdc22cbbe44c18ee9c8f1341c48a74dc49a1bfb", func := "loop.example/g00516/laws.FnExactIsValidOutbox", spec := "fnExactIsValidOutbox", unfollowed := true, recurses := true, apart := false }
def FnExactIsValidOutboxSaid : Prop := fnExactIsValidOutboxRow.holds Try.pinned (OpenSpec.ofChange fnExactIsValidOutboxSpec)

/-- ITS FALSE NEIGHBOUR: 'it returns false'. Refute it at one input. -/
def fnExactIsValidOutboxWrong : ChangeSpec := { name := "fnExactIsValidOutbox", fn := fun _ => fun
  | [d] => { results := [.lit (.bool false)], args := [d] }
  | _ => none }
def FnExactIsValidOutboxWrongFalsely : Prop := fnExactIsValidOutboxRow.holds Try.pinned (OpenSpec.ofChange fnExactIsValidOutboxWrong)

/-- 'laws.FnExactShareDigest': WHATEVER THE INPUT: true; the input reads as it did. -/
def fnExactShareDigestSpec : ChangeSpec := { name := "fnExactShareDigest", fn := fun _ => fun
  | [d1, d2, d3] => { results := [.lit (.bool true)], args := [d1, d2, d3] }
  | _ => none }
def fnExactShareDigestRow : OpenClaim := { program := "ytcdaiclfomekhaa", sum := "9a731187a4bfc4812e80c2101fdc22cbbe44c18ee9c8f1341c48a74dc49a1bfb", func := "loop.example/g00516/laws.FnExactShareDigest", spec := "fnExactShareDigest", apart := false }
def FnExactShareDigestSaid : Prop := fnExactShareDigestRow.holds Try.pinned (OpenSpec.ofChange fnExactShareDigestSpec)

/-- ITS FALSE NEIGHBOUR: 'it returns false'. Refute it at one input. -/
def fnExactShareDigestWrong : ChangeSpec := { name := "fnExactShareDigest", fn := fun _ => fun
  | [d1, d2, d3] => { results := [.lit (.bool false)], args := [d1, d2, d3] }
  | _ => none }
def FnExactShareDigestWrongFalsely : Prop := fnExactShareDigestRow.holds Try.pinned (OpenSpec.ofChange fnExactShareDigestWrong)

/-- 'laws.FnExactAnswerAs': WHATEVER THE INPUT: true; the input reads as it did. -/
def fnExactAnswerAsSpec : ChangeSpec := { name := "fnExactAnswerAs", fn := fun _ => fun
  | [d1, d2, d3, d4, d5] => { results := [.lit (.bool true)], args := [d1, d2, d3, d4, d5] }
  | _ => none }
def fnExactAnswerAsRow : OpenClaim := { program := "ytcdaiclfomekhaa", sum := "9a731187a4bfc4812e80c2101fdc22cbbe44c18ee9c8f1341c48a74dc49a1bfb", func := "loop.example/g00516/laws.FnExactAnswerAs", spec := "fnExactAnswerAs", unfollowed := true, recurses := true, apart := false }
def FnExactAnswerAsSaid : Prop := fnExactAnswerAsRow.holds Try.pinned (OpenSpec.ofChange fnExactAnswerAsSpec)

/-- ITS FALSE NEIGHBOUR: 'it returns false'. Refute it at one input. -/
def fnExactAnswerAsWrong : ChangeSpec := { name := "fnExactAnswerAs", fn := fun _ => fun
  | [d1, d2, d3, d4, d5] => { results := [.lit (.bool false)], args := [d1, d2, d3, d4, d5] }
  | _ => none }
def FnExactAnswerAsWrongFalsely : Prop := fnExactAnswerAsRow.holds Try.pinned (OpenSpec.ofChange fnExactAnswerAsWrong)

/-- 'laws.FnExactNewServer': WHATEVER THE INPUT: true; the input reads as it did. -/
def fnExactNewServerSpec : ChangeSpec := { name := "fnExactNewServer", fn := fun _ => fun
  | [d1, d2, d3] => { results := [.lit (.bool true)], args := [d1, d2, d3] }
  | _ => none }
def fnExactNewServerRow : OpenClaim := { program := "ytcdaiclfomekhaa", sum := "9a731187a4bfc4812e80c2101fdc22cbbe44c18ee9c8f1341c48a74dc49a1bfb", func := "loop.example/g00516/laws.FnExactNewServer", spec := "fnExactNewServer", apart := false }
def FnExactNewServerSaid : Prop := fnExactNewServerRow.holds Try.pinned (OpenSpec.ofChange fnExactNewServerSpec)

/-- ITS FALSE NEIGHBOUR: 'it returns false'. Refute it at one input. -/
def fnExactNewServerWrong : ChangeSpec := { name := "fnExactNewServer", fn := fun _ => fun
  | [d1, d2, d3] => { results := [.lit (.bool false)], args := [d1, d2, d3] }
  | _ => none }
def FnExactNewServerWrongFalsely : Prop := fnExactNewServerRow.holds Try.pinned (OpenSpec.ofChange fnExactNewServerWrong)

/-- 'laws.FnExactEqualOutboxes': WHATEVER THE INPUT: true; the input reads as it did. -/
def fnExactEqualOutboxesSpec : ChangeSpec := { name := "fnExactEqualOutboxes", fn := fun _ => fun
  | [d1, d2] => { results := [.lit (.bool true)], args := [d1, d2] }
  | _ => none }
def fnExactEqualOutboxesRow : OpenClaim := { program := "ytcdaiclfomekhaa", sum := "9a731187a4bfc4812e80c2101fdc22cbbe44c18ee9c8f1341c48a74dc49a1bfb", func := "loop.example/g00516/laws.FnExactEqualOutboxes", spec := "fnExactEqualOutboxes", unfollowed := true, recurses := true, apart := false }
def FnExactEqualOutboxesSaid : Prop := fnExactEqualOutboxesRow.holds Try.pinned (OpenSpec.ofChange fnExactEqualOutboxesSpec)

/-- ITS FALSE NEIGHBOUR: 'it returns false'. Refute it at one input. -/
def fnExactEqualOutboxesWrong : ChangeSpec := { name := "fnExactEqualOutboxes", fn := fun _ => fun
  | [d1, d2] => { results := [.lit (.bool false)], args := [d1, d2] }
  | _ => none }
def FnExactEqualOutboxesWrongFalsely : Prop := fnExactEqualOutboxesRow.holds Try.pinned (OpenSpec.ofChange fnExactEqualOutboxesWrong)

/-- 'laws.FnExactChangedRows': WHATEVER THE INPUT: true; the input reads as it did. -/
def fnExactChangedRowsSpec : ChangeSpec := { name := "fnExactChangedRows", fn := fun _ => fun
  | [d1, d2] => { results := [.lit (.bool true)], args := [d1, d2] }
  | _ => none }
def fnExactChangedRowsRow : OpenClaim := { program := "ytcdaiclfomekhaa", sum := "9a731187a4bfc4812e80c2101fdc22cbbe44c18ee9c8f1341c48a74dc49a1bfb", func := "loop.example/g00516/laws.FnExactChangedRows", spec := "fnExactChangedRows", apart := false }
def FnExactChangedRowsSaid : Prop := fnExactChangedRowsRow.holds Try.pinned (OpenSpec.ofChange fnExactChangedRowsSpec)

/-- ITS FALSE NEIGHBOUR: 'it returns false'. Refute it at one input. -/
def fnExactChangedRowsWrong : ChangeSpec := { name := "fnExactChangedRows", fn := fun _ => fun
  | [d1, d2] => { results := [.lit (.bool false)], args := [d1, d2] }
  | _ => none }
def FnExactChangedRowsWrongFalsely : Prop := fnExactChangedRowsRow.holds Try.pinned (OpenSpec.ofChange fnExactChangedRowsWrong)

/- THE SECOND FORM. 'bulk': how many values and letters a reading holds, each counted each time it is reached (what is shared counts as often as it is met; a slice's spare places count too). A statement '..UptoSaid' is the law's where the arguments, and the package variables that the reading takes, are together of bulk at most 1048576: NARROWER than '..Said'. Prove '..Said' where nothing that the law and all that it calls make is longer than what came in: it says more and counts as full. Else prove '..UptoSaid'. A law counts once. -/
mutual
def uptoBulk {H : Type} : DataW H → Nat
  | .lit (.string bytes) => bytes.length + 1
  | .lit _ => 1
  | .nil => 1
  | .ptr d => uptoBulk d + 1
  | .slice elems spare => uptoBulkAll elems + uptoBulkAll spare + 1
  | .agg parts => uptoBulkAll parts + 1
  | .iface _ d => uptoBulk d + 1
  | .map entries => uptoBulkEntries entries + 1
  | .held _ => 1
def uptoBulkAll {H : Type} : List (DataW H) → Nat
  | [] => 0
  | d :: r => uptoBulk d + uptoBulkAll r
def uptoBulkEntries {H : Type} : List (Lit × DataW H) → Nat
  | [] => 0
  | x :: r => uptoBulkEntry x + uptoBulkEntries r
def uptoBulkEntry {H : Type} : Lit × DataW H → Nat
  | (.string bytes, d) => bytes.length + uptoBulk d + 1
  | (_, d) => uptoBulk d + 1
 end
def uptoSmall : (H : Type) → List (DataW H) → Bool := fun _ ds => decide (uptoBulkAll ds ≤ 1048576)
def OpenSpec.upto (s : _root_.Go.ChangeSpec) : _root_.Go.OpenSpec := { _root_.Go.OpenSpec.ofChange s with cond := some uptoSmall }

/-- 'laws.FnExactDecodePiece', WHERE WHAT IT READS IS OF BULK AT MOST 1048576: true; the input reads as it did. -/
def fnExactDecodePieceUptoRow : OpenClaim := { program := "ytcdaiclfomekhaa", sum := "9a731187a4bfc4812e80c2101fdc22cbbe44c18ee9c8f1341c48a74dc49a1bfb", func := "loop.example/g00516/laws.FnExactDecodePiece", spec := "fnExactDecodePiece", apart := false, narrowed := true }
def FnExactDecodePieceUptoSaid : Prop := fnExactDecodePieceUptoRow.holds Try.pinned (OpenSpec.upto fnExactDecodePieceSpec)

/-- 'laws.FnServers', WHERE WHAT IT READS IS OF BULK AT MOST 1048576: true; the input reads as it did. -/
def fnServersUptoRow : OpenClaim := { program := "ytcdaiclfomekhaa", sum := "9a731187a4bfc4812e80c2101fdc22cbbe44c18ee9c8f1341c48a74dc49a1bfb", func := "loop.example/g00516/laws.FnServers", spec := "fnServers", inPlace := ["slices.overlaps[loop.example/g00516/impl.ReceivedShare]"], unfollowed := true, recurses := true, apart := false, narrowed := true }
def FnServersUptoSaid : Prop := fnServersUptoRow.holds Try.pinned (OpenSpec.upto fnServersSpec)

/-- 'laws.FnExactRoundsNeeded', WHERE WHAT IT READS IS OF BULK AT MOST 1048576: true; the input reads as it did. -/
def fnExactRoundsNeededUptoRow : OpenClaim := { program := "ytcdaiclfomekhaa", sum := "9a731187a4bfc4812e80c2101fdc22cbbe44c18ee9c8f1341c48a74dc49a1bfb", func := "loop.example/g00516/laws.FnExactRoundsNeeded", spec := "fnExactRoundsNeeded", apart := false, narrowed := true }
def FnExactRoundsNeededUptoSaid : Prop := fnExactRoundsNeededUptoRow.holds Try.pinned (OpenSpec.upto fnExactRoundsNeededSpec)

/-- 'laws.FnExactEqualAnswers', WHERE WHAT IT READS IS OF BULK AT MOST 1048576: true; the input reads as it did. -/
def fnExactEqualAnswersUptoRow : OpenClaim := { program := "ytcdaiclfomekhaa", sum := "9a731187a4bfc4812e80c2101fdc22cbbe44c18ee9c8f1341c48a74dc49a1bfb", func := "loop.example/g00516/laws.FnExactEqualAnswers", spec := "fnExactEqualAnswers", apart := false, narrowed := true }
def FnExactEqualAnswersUptoSaid : Prop := fnExactEqualAnswersUptoRow.holds Try.pinned (OpenSpec.upto fnExactEqualAnswersSpec)

/-- 'laws.FnExactMissingReceipts', WHERE WHAT IT READS IS OF BULK AT MOST 1048576: true; the input reads as it did. -/
def fnExactMissingReceiptsUptoRow : OpenClaim := { program := "ytcdaiclfomekhaa", sum := "9a731187a4bfc4812e80c2101fdc22cbbe44c18ee9c8f1341c48a74dc49a1bfb", func := "loop.example/g00516/laws.FnExactMissingReceipts", spec := "fnExactMissingReceipts", unfollowed := true, recurses := true, apart := false, narrowed := true }
def FnExactMissingReceiptsUptoSaid : Prop := fnExactMissingReceiptsUptoRow.holds Try.pinned (OpenSpec.upto fnExactMissingReceiptsSpec)

/-- 'laws.FnExactSenderKey', WHERE WHAT IT READS IS OF BULK AT MOST 1048576: true; the input reads as it did. -/
def fnExactSenderKeyUptoRow : OpenClaim := { program := "ytcdaiclfomekhaa", sum := "9a731187a4bfc4812e80c2101fdc22cbbe44c18ee9c8f1341c48a74dc49a1bfb", func := "loop.example/g00516/laws.FnExactSenderKey", spec := "fnExactSenderKey", apart := false, narrowed := true }
def FnExactSenderKeyUptoSaid : Prop := fnExactSenderKeyUptoRow.holds Try.pinned (OpenSpec.upto fnExactSenderKeySpec)

/-- 'laws.FnExactIsValidOutbox', WHERE WHAT IT READS IS OF BULK AT MOST 1048576: true; the input reads as it did. -/
def fnExactIsValidOutboxUptoRow : OpenClaim := { program := "ytcdaiclfomekhaa", sum := "9a731187a4bfc4812e80c2101fdc22cbbe44c18ee9c8f1341c48a74dc49a1bfb", func := "loop.example/g00516/laws.FnExactIsValidOutbox", spec := "fnExactIsValidOutbox", unfollowed := true, recurses := true, apart := false, narrowed := true }
def FnExactIsValidOutboxUptoSaid : Prop := fnExactIsValidOutboxUptoRow.holds Try.pinned (OpenSpec.upto fnExactIsValidOutboxSpec)

/-- 'laws.FnExactShareDigest', WHERE WHAT IT READS IS OF BULK AT MOST 1048576: true; the input reads as it did. -/
def fnExactShareDigestUptoRow : OpenClaim := { program := "ytcdaiclfomekhaa", sum := "9a731187a4bfc4812e80c2101fdc22cbbe44c18ee9c8f1341c48a74dc49a1bfb", func := "loop.example/g00516/laws.FnExactShareDigest", spec := "fnExactShareDigest", apart := false, narrowed := true }
def FnExactShareDigestUptoSaid : Prop := fnExactShareDigestUptoRow.holds Try.pinned (OpenSpec.upto fnExactShareDigestSpec)

/-- 'laws.FnExactAnswerAs', WHERE WHAT IT READS IS OF BULK AT MOST 1048576: true; the input reads as it did. -/
def fnExactAnswerAsUptoRow : OpenClaim := { program := "ytcdaiclfomekhaa", sum := "9a731187a4bfc4812e80c2101fdc22cbbe44c18ee9c8f1341c48a74dc49a1bfb", func := "loop.example/g00516/laws.FnExactAnswerAs", spec := "fnExactAnswerAs", unfollowed := true, recurses := true, apart := false, narrowed := true }
def FnExactAnswerAsUptoSaid : Prop := fnExactAnswerAsUptoRow.holds Try.pinned (OpenSpec.upto fnExactAnswerAsSpec)

/-- 'laws.FnExactNewServer', WHERE WHAT IT READS IS OF BULK AT MOST 1048576: true; the input reads as it did. -/
def fnExactNewServerUptoRow : OpenClaim := { program := "ytcdaiclfomekhaa", sum := "9a731187a4bfc4812e80c2101fdc22cbbe44c18ee9c8f1341c48a74dc49a1bfb", func := "loop.example/g00516/laws.FnExactNewServer", spec := "fnExactNewServer", apart := false, narrowed := true }
def FnExactNewServerUptoSaid : Prop := fnExactNewServerUptoRow.holds Try.pinned (OpenSpec.upto fnExactNewServerSpec)

/-- 'laws.FnExactEqualOutboxes', WHERE WHAT IT READS IS OF BULK AT MOST 1048576: true; the input reads as it did. -/
def fnExactEqualOutboxesUptoRow : OpenClaim := { program := "ytcdaiclfomekhaa", sum := "9a731187a4bfc4812e80c2101fdc22cbbe44c18ee9c8f1341c48a74dc49a1bfb", func := "loop.example/g00516/laws.FnExactEqualOutboxes", spec := "fnExactEqualOutboxes", unfollowed := true, recurses := true, apart := false, narrowed := true }
def FnExactEqualOutboxesUptoSaid : Prop := fnExactEqualOutboxesUptoRow.holds Try.pinned (OpenSpec.upto fnExactEqualOutboxesSpec)

/-- 'laws.FnExactChangedRows', WHERE WHAT IT READS IS OF BULK AT MOST 1048576: true; the input reads as it did. -/
def fnExactChangedRowsUptoRow : OpenClaim := { program := "ytcdaiclfomekhaa", sum := "9a731187a4bfc4812e80c2101fdc22cbbe44c18ee9c8f1341c48a74dc49a1bfb", func := "loop.example/g00516/laws.FnExactChangedRows", spec := "fnExactChangedRows", apart := false, narrowed := true }
def FnExactChangedRowsUptoSaid : Prop := fnExactChangedRowsUptoRow.holds Try.pinned (OpenSpec.upto fnExactChangedRowsSpec)

end Rows
end Go.Proofs.Ytcdaiclfomekhaa
