/-
  No cell of these rows narrows 'for every input' (looked for: loops, veiled, ifaces, maps, wideKeys, modest, calm, conditions, laid).
  DERIVED. THE GIVEN ROWS OF THIS SEAT. 12 by the template 'for every input the law returns true; each argument reads behind the call as it read before'; 0 by the template 'total and deterministic' (their statements: YtgdfnoipcompkaaTotals.lean).
  GIVEN WITH THE SEED: the statements are not yours to turn. If you find one false, say at which input.
  Laid BY PROGRAM, IN A SANDBOX (cutbox-rows.mjs): the forced cells as the released guide's own fill.sh prints them over the translation 34a2ad173e0f21d7… (all of the seat's roots in one cut). By AI agents, Wed Nov 11 2026. No macro, syntax, notation, axiom, sorry.
-/
import Derived.Test.YtgdfnoipcompkaaChecked
import GoSem.Claim
import GoSem.ClaimJoined
import GoSem.ClaimMapViews
import Derived.JoinedTies
import Derived.KernelRfl
namespace Go.Proofs.Ytgdfnoipcompkaa
/- THE CELL 'sum', in the pinned program and in every row, IS THE sha256 OF THE DUMP (.gsa) THAT YtgdfnoipcompkaaProg.lean LOADS. Nothing in Lean hashes anything: it is a label: what it is worth is what the hold of that sum in a sandbox is worth. -/
noncomputable def Try.pinned : Pinned := { name := "ytgdfnoipcompkaa", sum := "34a2ad173e0f21d742646624834a1d3769e69f985202f6fc6dec9135e1ef8d9a", checked := Try.checked }
namespace Rows
def none {H : Type} : Left H := { results := [], args := [] }

/-- 'laws.FnExactAddToOutbox': WHATEVER THE INPUT: true; the input reads as it did. -/
def fnExactAddToOutboxSpec : ChangeSpec := { name := "fnExactAddToOutbox", fn := fun _ => fun
  | [d1, d2] => { results := [.lit (.bool true)], args := [d1, d2] }
  | _ => none }
def fnExactAddToOutboxRow : OpenClaim := { program := "ytgdfnoipcompkaa", sum := "34a2ad173e0f21d742646624834a1d3769e69f985202f6fc6dec9135e1ef8d9a", func := "loop.example/g00516/laws.FnExactAddToOutbox", spec := "fnExactAddToOutbox", unfollowed := true, recurses := true, apart := false }
def FnExactAddToOutboxSaid : Prop := fnExactAddToOutboxRow.holds Try.pinned (OpenSpec.ofChange fnExactAddToOutboxSpec)

/-- ITS FALSE NEIGHBOUR: 'it returns false'. Refute it at one input. -/
def fnExactAddToOutboxWrong : ChangeSpec := { name := "fnExactAddToOutbox", fn := fun _ => fun
  | [d1, d2] => { results := [.lit (.bool false)], args := [d1, d2] }
  | _ => none }
def FnExactAddToOutboxWrongFalsely : Prop := fnExactAddToOutboxRow.holds Try.pinned (OpenSpec.ofChange fnExactAddToOutboxWrong)

/-- 'laws.FnExactRemoveMember': WHATEVER THE INPUT: true; the input reads as it did. -/
def fnExactRemoveMemberSpec : ChangeSpec := { name := "fnExactRemoveMember", fn := fun _ => fun
  | [d1, d2, d3] => { results := [.lit (.bool true)], args := [d1, d2, d3] }
  | _ => none }
def fnExactRemoveMemberRow : OpenClaim := { program := "ytgdfnoipcompkaa", sum := "34a2ad173e0f21d742646624834a1d3769e69f985202f6fc6dec9135e1ef8d9a", func := "loop.example/g00516/laws.FnExactRemoveMember", spec := "fnExactRemoveMember", apart := false }
def FnExactRemoveMemberSaid : Prop := fnExactRemoveMemberRow.holds Try.pinned (OpenSpec.ofChange fnExactRemoveMemberSpec)

/-- ITS FALSE NEIGHBOUR: 'it returns false'. Refute it at one input. -/
def fnExactRemoveMemberWrong : ChangeSpec := { name := "fnExactRemoveMember", fn := fun _ => fun
  | [d1, d2, d3] => { results := [.lit (.bool false)], args := [d1, d2, d3] }
  | _ => none }
def FnExactRemoveMemberWrongFalsely : Prop := fnExactRemoveMemberRow.holds Try.pinned (OpenSpec.ofChange fnExactRemoveMemberWrong)

/-- 'laws.FnExactAnswersToCell': WHATEVER THE INPUT: true; the input reads as it did. -/
def fnExactAnswersToCellSpec : ChangeSpec := { name := "fnExactAnswersToCell", fn := fun _ => fun
  | [d] => { results := [.lit (.bool true)], args := [d] }
  | _ => none }
def fnExactAnswersToCellRow : OpenClaim := { program := "ytgdfnoipcompkaa", sum := "34a2ad173e0f21d742646624834a1d3769e69f985202f6fc6dec9135e1ef8d9a", func := "loop.example/g00516/laws.FnExactAnswersToCell", spec := "fnExactAnswersToCell", unfollowed := true, recurses := true, apart := false }
def FnExactAnswersToCellSaid : Prop := fnExactAnswersToCellRow.holds Try.pinned (OpenSpec.ofChange fnExactAnswersToCellSpec)

/-- ITS FALSE NEIGHBOUR: 'it returns false'. Refute it at one input. -/
def fnExactAnswersToCellWrong : ChangeSpec := { name := "fnExactAnswersToCell", fn := fun _ => fun
  | [d] => { results := [.lit (.bool false)], args := [d] }
  | _ => none }
def FnExactAnswersToCellWrongFalsely : Prop := fnExactAnswersToCellRow.holds Try.pinned (OpenSpec.ofChange fnExactAnswersToCellWrong)

/-- 'laws.FnReceipts': WHATEVER THE INPUT: true; the input reads as it did. -/
def fnReceiptsSpec : ChangeSpec := { name := "fnReceipts", fn := fun _ => fun
  | [d] => { results := [.lit (.bool true)], args := [d] }
  | _ => none }
def fnReceiptsRow : OpenClaim := { program := "ytgdfnoipcompkaa", sum := "34a2ad173e0f21d742646624834a1d3769e69f985202f6fc6dec9135e1ef8d9a", func := "loop.example/g00516/laws.FnReceipts", spec := "fnReceipts", unfollowed := true, recurses := true, apart := false }
def FnReceiptsSaid : Prop := fnReceiptsRow.holds Try.pinned (OpenSpec.ofChange fnReceiptsSpec)

/-- ITS FALSE NEIGHBOUR: 'it returns false'. Refute it at one input. -/
def fnReceiptsWrong : ChangeSpec := { name := "fnReceipts", fn := fun _ => fun
  | [d] => { results := [.lit (.bool false)], args := [d] }
  | _ => none }
def FnReceiptsWrongFalsely : Prop := fnReceiptsRow.holds Try.pinned (OpenSpec.ofChange fnReceiptsWrong)

/-- 'laws.FnExactShareOf': WHATEVER THE INPUT: true; the input reads as it did. -/
def fnExactShareOfSpec : ChangeSpec := { name := "fnExactShareOf", fn := fun _ => fun
  | [d1, d2] => { results := [.lit (.bool true)], args := [d1, d2] }
  | _ => none }
def fnExactShareOfRow : OpenClaim := { program := "ytgdfnoipcompkaa", sum := "34a2ad173e0f21d742646624834a1d3769e69f985202f6fc6dec9135e1ef8d9a", func := "loop.example/g00516/laws.FnExactShareOf", spec := "fnExactShareOf", apart := false }
def FnExactShareOfSaid : Prop := fnExactShareOfRow.holds Try.pinned (OpenSpec.ofChange fnExactShareOfSpec)

/-- ITS FALSE NEIGHBOUR: 'it returns false'. Refute it at one input. -/
def fnExactShareOfWrong : ChangeSpec := { name := "fnExactShareOf", fn := fun _ => fun
  | [d1, d2] => { results := [.lit (.bool false)], args := [d1, d2] }
  | _ => none }
def FnExactShareOfWrongFalsely : Prop := fnExactShareOfRow.holds Try.pinned (OpenSpec.ofChange fnExactShareOfWrong)

/-- 'laws.FnExactRestorePieces': WHATEVER THE INPUT: true; the input reads as it did. -/
def fnExactRestorePiecesSpec : ChangeSpec := { name := "fnExactRestorePieces", fn := fun _ => fun
  | [d] => { results := [.lit (.bool true)], args := [d] }
  | _ => none }
def fnExactRestorePiecesRow : OpenClaim := { program := "ytgdfnoipcompkaa", sum := "34a2ad173e0f21d742646624834a1d3769e69f985202f6fc6dec9135e1ef8d9a", func := "loop.example/g00516/laws.FnExactRestorePieces", spec := "fnExactRestorePieces", apart := false }
def FnExactRestorePiecesSaid : Prop := fnExactRestorePiecesRow.holds Try.pinned (OpenSpec.ofChange fnExactRestorePiecesSpec)

/-- ITS FALSE NEIGHBOUR: 'it returns false'. Refute it at one input. -/
def fnExactRestorePiecesWrong : ChangeSpec := { name := "fnExactRestorePieces", fn := fun _ => fun
  | [d] => { results := [.lit (.bool false)], args := [d] }
  | _ => none }
def FnExactRestorePiecesWrongFalsely : Prop := fnExactRestorePiecesRow.holds Try.pinned (OpenSpec.ofChange fnExactRestorePiecesWrong)

/-- 'laws.FnExactProveRow': WHATEVER THE INPUT: true; the input reads as it did. -/
def fnExactProveRowSpec : ChangeSpec := { name := "fnExactProveRow", fn := fun _ => fun
  | [d1, d2] => { results := [.lit (.bool true)], args := [d1, d2] }
  | _ => none }
def fnExactProveRowRow : OpenClaim := { program := "ytgdfnoipcompkaa", sum := "34a2ad173e0f21d742646624834a1d3769e69f985202f6fc6dec9135e1ef8d9a", func := "loop.example/g00516/laws.FnExactProveRow", spec := "fnExactProveRow", unfollowed := true, recurses := true, apart := false }
def FnExactProveRowSaid : Prop := fnExactProveRowRow.holds Try.pinned (OpenSpec.ofChange fnExactProveRowSpec)

/-- ITS FALSE NEIGHBOUR: 'it returns false'. Refute it at one input. -/
def fnExactProveRowWrong : ChangeSpec := { name := "fnExactProveRow", fn := fun _ => fun
  | [d1, d2] => { results := [.lit (.bool false)], args := [d1, d2] }
  | _ => none }
def FnExactProveRowWrongFalsely : Prop := fnExactProveRowRow.holds Try.pinned (OpenSpec.ofChange fnExactProveRowWrong)

/-- 'laws.FnFiles': WHATEVER THE INPUT: true; the input reads as it did. -/
def fnFilesSpec : ChangeSpec := { name := "fnFiles", fn := fun _ => fun
  | [d] => { results := [.lit (.bool true)], args := [d] }
  | _ => none }
def fnFilesRow : OpenClaim := { program := "ytgdfnoipcompkaa", sum := "34a2ad173e0f21d742646624834a1d3769e69f985202f6fc6dec9135e1ef8d9a", func := "loop.example/g00516/laws.FnFiles", spec := "fnFiles", unfollowed := true, recurses := true, apart := false }
def FnFilesSaid : Prop := fnFilesRow.holds Try.pinned (OpenSpec.ofChange fnFilesSpec)

/-- ITS FALSE NEIGHBOUR: 'it returns false'. Refute it at one input. -/
def fnFilesWrong : ChangeSpec := { name := "fnFiles", fn := fun _ => fun
  | [d] => { results := [.lit (.bool false)], args := [d] }
  | _ => none }
def FnFilesWrongFalsely : Prop := fnFilesRow.holds Try.pinned (OpenSpec.ofChange fnFilesWrong)

/-- 'laws.FnExactOpenFromGroup': WHATEVER THE INPUT: true; the input reads as it did. -/
def fnExactOpenFromGroupSpec : ChangeSpec := { name := "fnExactOpenFromGroup", fn := fun _ => fun
  | [d1, d2, d3] => { results := [.lit (.bool true)], args := [d1, d2, d3] }
  | _ => none }
def fnExactOpenFromGroupRow : OpenClaim := { program := "ytgdfnoipcompkaa", sum := "34a2ad173e0f21d742646624834a1d3769e69f985202f6fc6dec9135e1ef8d9a", func := "loop.example/g00516/laws.FnExactOpenFromGroup", spec := "fnExactOpenFromGroup", apart := false }
def FnExactOpenFromGroupSaid : Prop := fnExactOpenFromGroupRow.holds Try.pinned (OpenSpec.ofChange fnExactOpenFromGroupSpec)

/-- ITS FALSE NEIGHBOUR: 'it returns false'. Refute it at one input. -/
def fnExactOpenFromGroupWrong : ChangeSpec := { name := "fnExactOpenFromGroup", fn := fun _ => fun
  | [d1, d2, d3] => { results := [.lit (.bool false)], args := [d1, d2, d3] }
  | _ => none }
def FnExactOpenFromGroupWrongFalsely : Prop := fnExactOpenFromGroupRow.holds Try.pinned (OpenSpec.ofChange fnExactOpenFromGroupWrong)

/-- 'laws.FnCommitments': WHATEVER THE INPUT: true; the input reads as it did. -/
def fnCommitmentsSpec : ChangeSpec := { name := "fnCommitments", fn := fun _ => fun
  | [d] => { results := [.lit (.bool true)], args := [d] }
  | _ => none }
def fnCommitmentsRow : OpenClaim := { program := "ytgdfnoipcompkaa", sum := "34a2ad173e0f21d742646624834a1d3769e69f985202f6fc6dec9135e1ef8d9a", func := "loop.example/g00516/laws.FnCommitments", spec := "fnCommitments", unfollowed := true, recurses := true, apart := false }
def FnCommitmentsSaid : Prop := fnCommitmentsRow.holds Try.pinned (OpenSpec.ofChange fnCommitmentsSpec)

/-- ITS FALSE NEIGHBOUR: 'it returns false'. Refute it at one input. -/
def fnCommitmentsWrong : ChangeSpec := { name := "fnCommitments", fn := fun _ => fun
  | [d] => { results := [.lit (.bool false)], args := [d] }
  | _ => none }
def FnCommitmentsWrongFalsely : Prop := fnCommitmentsRow.holds Try.pinned (OpenSpec.ofChange fnCommitmentsWrong)

/-- 'laws.FnExactBeginRound': WHATEVER THE INPUT: true; the input reads as it did. -/
def fnExactBeginRoundSpec : ChangeSpec := { name := "fnExactBeginRound", fn := fun _ => fun
  | [d] => { results := [.lit (.bool true)], args := [d] }
  | _ => none }
def fnExactBeginRoundRow : OpenClaim := { program := "ytgdfnoipcompkaa", sum := "34a2ad173e0f21d742646624834a1d3769e69f985202f6fc6dec9135e1ef8d9a", func := "loop.example/g00516/laws.FnExactBeginRound", spec := "fnExactBeginRound", unfollowed := true, recurses := true, apart := false }
def FnExactBeginRoundSaid : Prop := fnExactBeginRoundRow.holds Try.pinned (OpenSpec.ofChange fnExactBeginRoundSpec)

/-- ITS FALSE NEIGHBOUR: 'it returns false'. Refute it at one input. -/
def fnExactBeginRoundWrong : ChangeSpec := { name := "fnExactBeginRound", fn := fun _ => fun
  | [d] => { results := [.lit (.bool false)], args := [d] }
  | _ => none }
def FnExactBeginRoundWrongFalsely : Prop := fnExactBeginRoundRow.holds Try.pinned (OpenSpec.ofChange fnExactBeginRoundWrong)

/-- 'laws.FnExactSealForGroup': WHATEVER THE INPUT: true; the input reads as it did. -/
def fnExactSealForGroupSpec : ChangeSpec := { name := "fnExactSealForGroup", fn := fun _ => fun
  | [d1, d2, d3, d4] => { results := [.lit (.bool true)], args := [d1, d2, d3, d4] }
  | _ => none }
def fnExactSealForGroupRow : OpenClaim := { program := "ytgdfnoipcompkaa", sum := "34a2ad173e0f21d742646624834a1d3769e69f985202f6fc6dec9135e1ef8d9a", func := "loop.example/g00516/laws.FnExactSealForGroup", spec := "fnExactSealForGroup", apart := false }
def FnExactSealForGroupSaid : Prop := fnExactSealForGroupRow.holds Try.pinned (OpenSpec.ofChange fnExactSealForGroupSpec)

/-- ITS FALSE NEIGHBOUR: 'it returns false'. Refute it at one input. -/
def fnExactSealForGroupWrong : ChangeSpec := { name := "fnExactSealForGroup", fn := fun _ => fun
  | [d1, d2, d3, d4] => { results := [.lit (.bool false)], args := [d1, d2, d3, d4] }
  | _ => none }
def FnExactSealForGroupWrongFalsely : Prop := fnExactSealForGroupRow.holds Try.pinned (OpenSpec.ofChange fnExactSealForGroupWrong)

/- THE SECOND FORM. 'bulk': how many values and letters a reading holds, each counted each time it is reached (what is shared counts as often as it is met; a slice's spare places count too). A statement '..UptoSaid' is the law's where the arguments, and the package variables that the reading takes, are together of bulk at most 1048576: NARROWER than '..Said'. Prove '..Said' where nothing that the law and all that it calls make is longer than what came in: it says more and counts as full. Else prove '..UptoSaid'. A law counts once. -/
mutual
def uptoBulk {H : Type} : DataW H → Nat
  | .lit (.string bytes) => bytes.length + 1
  | .lit _ => 1
  | .nil => 1
  | .ptr d => uptoBulk d + 1
  | .slice elems spare => uptoBulkAll elems + uptoBulkAll spare + 1
  | .agg parts => uptoBulkAll parts + 1
  | .iface _ d => uptoBulk d + 1
  | .map entries => uptoBulkEntries entries + 1
  | .held _ => 1
def uptoBulkAll {H : Type} : List (DataW H) → Nat
  | [] => 0
  | d :: r => uptoBulk d + uptoBulkAll r
def uptoBulkEntries {H : Type} : List (Lit × DataW H) → Nat
  | [] => 0
  | x :: r => uptoBulkEntry x + uptoBulkEntries r
def uptoBulkEntry {H : Type} : Lit × DataW H → Nat
  | (.string bytes, d) => bytes.length + uptoBulk d + 1
  | (_, d) => uptoBulk d + 1
 end
def uptoSmall : (H : Type) → List (DataW H) → Bool := fun _ ds => decide (uptoBulkAll ds ≤ 1048576)
def OpenSpec.upto (s : _root_.Go.ChangeSpec) : _root_.Go.OpenSpec := { _root_.Go.OpenSpec.ofChange s with cond := some uptoSmall }

/-- 'laws.FnExactAddToOutbox', WHERE WHAT IT READS IS OF BULK AT MOST 1048576: true; the input reads as it did. -/
def fnExactAddToOutboxUptoRow : OpenClaim := { program := "ytgdfnoipcompkaa", sum := "34a2ad173e0f21d742646624834a1d3769e69f985202f6fc6dec9135e1ef8d9a", func := "loop.example/g00516/laws.FnExactAddToOutbox", spec := "fnExactAddToOutbox", unfollowed := true, recurses := true, apart := false, narrowed := true }
def FnExactAddToOutboxUptoSaid : Prop := fnExactAddToOutboxUptoRow.holds Try.pinned (OpenSpec.upto fnExactAddToOutboxSpec)

/-- 'laws.FnExactRemoveMember', WHERE WHAT IT READS IS OF BULK AT MOST 1048576: true; the input reads as it did. -/
def fnExactRemoveMemberUptoRow : OpenClaim := { program := "ytgdfnoipcompkaa", sum := "34a2ad173e0f21d742646624834a1d3769e69f985202f6fc6dec9135e1ef8d9a", func := "loop.example/g00516/laws.FnExactRemoveMember", spec := "fnExactRemoveMember", apart := false, narrowed := true }
def FnExactRemoveMemberUptoSaid : Prop := fnExactRemoveMemberUptoRow.holds Try.pinned (OpenSpec.upto fnExactRemoveMemberSpec)

/-- 'laws.FnExactAnswersToCell', WHERE WHAT IT READS IS OF BULK AT MOST 1048576: true; the input reads as it did. -/
def fnExactAnswersToCellUptoRow : OpenClaim := { program := "ytgdfnoipcompkaa", sum := "34a2ad173e0f21d742646624834a1d3769e69f985202f6fc6dec9135e1ef8d9a", func := "loop.example/g00516/laws.FnExactAnswersToCell", spec := "fnExactAnswersToCell", unfollowed := true, recurses := true, apart := false, narrowed := true }
def FnExactAnswersToCellUptoSaid : Prop := fnExactAnswersToCellUptoRow.holds Try.pinned (OpenSpec.upto fnExactAnswersToCellSpec)

/-- 'laws.FnReceipts', WHERE WHAT IT READS IS OF BULK AT MOST 1048576: true; the input reads as it did. -/
def fnReceiptsUptoRow : OpenClaim := { program := "ytgdfnoipcompkaa", sum := "34a2ad173e0f21d742646624834a1d3769e69f985202f6fc6dec9135e1ef8d9a", func := "loop.example/g00516/laws.FnReceipts", spec := "fnReceipts", unfollowed := true, recurses := true, apart := false, narrowed := true }
def FnReceiptsUptoSaid : Prop := fnReceiptsUptoRow.holds Try.pinned (OpenSpec.upto fnReceiptsSpec)

/-- 'laws.FnExactShareOf', WHERE WHAT IT READS IS OF BULK AT MOST 1048576: true; the input reads as it did. -/
def fnExactShareOfUptoRow : OpenClaim := { program := "ytgdfnoipcompkaa", sum := "34a2ad173e0f21d742646624834a1d3769e69f985202f6fc6dec9135e1ef8d9a", func := "loop.example/g00516/laws.FnExactShareOf", spec := "fnExactShareOf", apart := false, narrowed := true }
def FnExactShareOfUptoSaid : Prop := fnExactShareOfUptoRow.holds Try.pinned (OpenSpec.upto fnExactShareOfSpec)

/-- 'laws.FnExactRestorePieces', WHERE WHAT IT READS IS OF BULK AT MOST 1048576: true; the input reads as it did. -/
def fnExactRestorePiecesUptoRow : OpenClaim := { program := "ytgdfnoipcompkaa", sum := "34a2ad173e0f21d742646624834a1d3769e69f985202f6fc6dec9135e1ef8d9a", func := "loop.example/g00516/laws.FnExactRestorePieces", spec := "fnExactRestorePieces", apart := false, narrowed := true }
def FnExactRestorePiecesUptoSaid : Prop := fnExactRestorePiecesUptoRow.holds Try.pinned (OpenSpec.upto fnExactRestorePiecesSpec)

/-- 'laws.FnExactProveRow', WHERE WHAT IT READS IS OF BULK AT MOST 1048576: true; the input reads as it did. -/
def fnExactProveRowUptoRow : OpenClaim := { program := "ytgdfnoipcompkaa", sum := "34a2ad173e0f21d742646624834a1d3769e69f985202f6fc6dec9135e1ef8d9a", func := "loop.example/g00516/laws.FnExactProveRow", spec := "fnExactProveRow", unfollowed := true, recurses := true, apart := false, narrowed := true }
def FnExactProveRowUptoSaid : Prop := fnExactProveRowUptoRow.holds Try.pinned (OpenSpec.upto fnExactProveRowSpec)

/-- 'laws.FnFiles', WHERE WHAT IT READS IS OF BULK AT MOST 1048576: true; the input reads as it did. -/
def fnFilesUptoRow : OpenClaim := { program := "ytgdfnoipcompkaa", sum := "34a2ad173e0f21d742646624834a1d3769e69f985202f6fc6dec9135e1ef8d9a", func := "loop.example/g00516/laws.FnFiles", spec := "fnFiles", unfollowed := true, recurses := true, apart := false, narrowed := true }
def FnFilesUptoSaid : Prop := fnFilesUptoRow.holds Try.pinned (OpenSpec.upto fnFilesSpec)

/-- 'laws.FnExactOpenFromGroup', WHERE WHAT IT READS IS OF BULK AT MOST 1048576: true; the input reads as it did. -/
def fnExactOpenFromGroupUptoRow : OpenClaim := { program := "ytgdfnoipcompkaa", sum := "34a2ad173e0f21d742646624834a1d3769e69f985202f6fc6dec9135e1ef8d9a", func := "loop.example/g00516/laws.FnExactOpenFromGroup", spec := "fnExactOpenFromGroup", apart := false, narrowed := true }
def FnExactOpenFromGroupUptoSaid : Prop := fnExactOpenFromGroupUptoRow.holds Try.pinned (OpenSpec.upto fnExactOpenFromGroupSpec)

/-- 'laws.FnCommitments', WHERE WHAT IT READS IS OF BULK AT MOST 1048576: true; the input reads as it did. -/
def fnCommitmentsUptoRow : OpenClaim := { program := "ytgdfnoipcompkaa", sum := "34a2ad173e0f21d742646624834a1d3769e69f985202f6fc6dec9135e1ef8d9a", func := "loop.example/g00516/laws.FnCommitments", spec := "fnCommitments", unfollowed := true, recurses := true, apart := false, narrowed := true }
def FnCommitmentsUptoSaid : Prop := fnCommitmentsUptoRow.holds Try.pinned (OpenSpec.upto fnCommitmentsSpec)

/-- 'laws.FnExactBeginRound', WHERE WHAT IT READS IS OF BULK AT MOST 1048576: true; the input reads as it did. -/
def fnExactBeginRoundUptoRow : OpenClaim := { program := "ytgdfnoipcompkaa", sum := "34a2ad173e0f21d742646624834a1d3769e69f985202f6fc6dec9135e1ef8d9a", func := "loop.example/g00516/laws.FnExactBeginRound", spec := "fnExactBeginRound", unfollowed := true, recurses := true, apart := false, narrowed := true }
def FnExactBeginRoundUptoSaid : Prop := fnExactBeginRoundUptoRow.holds Try.pinned (OpenSpec.upto fnExactBeginRoundSpec)

/-- 'laws.FnExactSealForGroup', WHERE WHAT IT READS IS OF BULK AT MOST 1048576: true; the input reads as it did. -/
def fnExactSealForGroupUptoRow : OpenClaim := { program := "ytgdfnoipcompkaa", sum := "34a2ad173e0f21d742646624834a1d3769e69f985202f6fc6dec9135e1ef8d9a", func := "loop.example/g00516/laws.FnExactSealForGroup", spec := "fnExactSealForGroup", apart := false, narrowed := true }
def FnExactSealForGroupUptoSaid : Prop := fnExactSealForGroupUptoRow.holds Try.pinned (OpenSpec.upto fnExactSealForGroupSpec)

end Rows
end Go.Proofs.Ytgdfnoipcompkaa
