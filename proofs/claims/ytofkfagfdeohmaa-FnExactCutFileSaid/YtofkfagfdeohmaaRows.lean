/-
  No cell of these rows narrows 'for every input' (looked for: loops, veiled, ifaces, maps, wideKeys, modest, calm, conditions, laid).
  DERIVED. THE GIVEN ROWS OF THIS SEAT. 12 by the template 'for every input the law returns true; each argument reads behind the call as it read before'; 0 by the template 'total and deterministic' (their statements: YtofkfagfdeohmaaTotals.lean).
  GIVEN WITH THE SEED: the statements are not yours to turn. If you find one false, say at which input.
  Laid BY PROGRAM, IN A SANDBOX (cutbox-rows.mjs): the forced cells as the released guide's own fill.sh prints them over the translation e6123fea2171c48d… (all of the seat's roots in one cut). By AI agents, Wed Nov 11 2026. No macro, syntax, notation, axiom, sorry.
-/
import Derived.Test.YtofkfagfdeohmaaChecked
import GoSem.Claim
import GoSem.ClaimJoined
import GoSem.ClaimMapViews
import Derived.JoinedTies
import Derived.KernelRfl
namespace Go.Proofs.Ytofkfagfdeohmaa
/- THE CELL 'sum', in the pinned program and in every row, IS THE sha256 OF THE DUMP (.gsa) THAT YtofkfagfdeohmaaProg.lean LOADS. Nothing in Lean hashes anything: it is a label: what it is worth is what the hold of that sum in a sandbox is worth. -/
noncomputable def Try.pinned : Pinned := { name := "ytofkfagfdeohmaa", sum := "e6123fea2171c48dd239994440807c203f233f816c07224f28b577524ca09efe", checked := Try.checked }
namespace Rows
def none {H : Type} : Left H := { results := [], args := [] }

/-- 'laws.FnExactReceiptMatches': WHATEVER THE INPUT: true; the input reads as it did. -/
def fnExactReceiptMatchesSpec : ChangeSpec := { name := "fnExactReceiptMatches", fn := fun _ => fun
  | [d1, d2] => { results := [.lit (.bool true)], args := [d1, d2] }
  | _ => none }
def fnExactReceiptMatchesRow : OpenClaim := { program := "ytofkfagfdeohmaa", sum := "e6123fea2171c48dd239994440807c203f233f816c07224f28b577524ca09efe", func := "loop.example/g00516/laws.FnExactReceiptMatches", spec := "fnExactReceiptMatches", apart := false }
def FnExactReceiptMatchesSaid : Prop := fnExactReceiptMatchesRow.holds Try.pinned (OpenSpec.ofChange fnExactReceiptMatchesSpec)

/-- ITS FALSE NEIGHBOUR: 'it returns false'. Refute it at one input. -/
def fnExactReceiptMatchesWrong : ChangeSpec := { name := "fnExactReceiptMatches", fn := fun _ => fun
  | [d1, d2] => { results := [.lit (.bool false)], args := [d1, d2] }
  | _ => none }
def FnExactReceiptMatchesWrongFalsely : Prop := fnExactReceiptMatchesRow.holds Try.pinned (OpenSpec.ofChange fnExactReceiptMatchesWrong)

/-- 'laws.FnExactVerifyRow': WHATEVER THE INPUT: true; the input reads as it did. -/
def fnExactVerifyRowSpec : ChangeSpec := { name := "fnExactVerifyRow", fn := fun _ => fun
  | [d1, d2, d3, d4] => { results := [.lit (.bool true)], args := [d1, d2, d3, d4] }
  | _ => none }
def fnExactVerifyRowRow : OpenClaim := { program := "ytofkfagfdeohmaa", sum := "e6123fea2171c48dd239994440807c203f233f816c07224f28b577524ca09efe", func := "loop.example/g00516/laws.FnExactVerifyRow", spec := "fnExactVerifyRow", apart := false }
def FnExactVerifyRowSaid : Prop := fnExactVerifyRowRow.holds Try.pinned (OpenSpec.ofChange fnExactVerifyRowSpec)

/-- ITS FALSE NEIGHBOUR: 'it returns false'. Refute it at one input. -/
def fnExactVerifyRowWrong : ChangeSpec := { name := "fnExactVerifyRow", fn := fun _ => fun
  | [d1, d2, d3, d4] => { results := [.lit (.bool false)], args := [d1, d2, d3, d4] }
  | _ => none }
def FnExactVerifyRowWrongFalsely : Prop := fnExactVerifyRowRow.holds Try.pinned (OpenSpec.ofChange fnExactVerifyRowWrong)

/-- 'laws.FnExactAnswerMAC': WHATEVER THE INPUT: true; the input reads as it did. -/
def fnExactAnswerMACSpec : ChangeSpec := { name := "fnExactAnswerMAC", fn := fun _ => fun
  | [d1, d2] => { results := [.lit (.bool true)], args := [d1, d2] }
  | _ => none }
def fnExactAnswerMACRow : OpenClaim := { program := "ytofkfagfdeohmaa", sum := "e6123fea2171c48dd239994440807c203f233f816c07224f28b577524ca09efe", func := "loop.example/g00516/laws.FnExactAnswerMAC", spec := "fnExactAnswerMAC", apart := false }
def FnExactAnswerMACSaid : Prop := fnExactAnswerMACRow.holds Try.pinned (OpenSpec.ofChange fnExactAnswerMACSpec)

/-- ITS FALSE NEIGHBOUR: 'it returns false'. Refute it at one input. -/
def fnExactAnswerMACWrong : ChangeSpec := { name := "fnExactAnswerMAC", fn := fun _ => fun
  | [d1, d2] => { results := [.lit (.bool false)], args := [d1, d2] }
  | _ => none }
def FnExactAnswerMACWrongFalsely : Prop := fnExactAnswerMACRow.holds Try.pinned (OpenSpec.ofChange fnExactAnswerMACWrong)

/-- 'laws.FnExactVerifyAnswer': WHATEVER THE INPUT: true; the input reads as it did. -/
def fnExactVerifyAnswerSpec : ChangeSpec := { name := "fnExactVerifyAnswer", fn := fun _ => fun
  | [d1, d2] => { results := [.lit (.bool true)], args := [d1, d2] }
  | _ => none }
def fnExactVerifyAnswerRow : OpenClaim := { program := "ytofkfagfdeohmaa", sum := "e6123fea2171c48dd239994440807c203f233f816c07224f28b577524ca09efe", func := "loop.example/g00516/laws.FnExactVerifyAnswer", spec := "fnExactVerifyAnswer", apart := false }
def FnExactVerifyAnswerSaid : Prop := fnExactVerifyAnswerRow.holds Try.pinned (OpenSpec.ofChange fnExactVerifyAnswerSpec)

/-- ITS FALSE NEIGHBOUR: 'it returns false'. Refute it at one input. -/
def fnExactVerifyAnswerWrong : ChangeSpec := { name := "fnExactVerifyAnswer", fn := fun _ => fun
  | [d1, d2] => { results := [.lit (.bool false)], args := [d1, d2] }
  | _ => none }
def FnExactVerifyAnswerWrongFalsely : Prop := fnExactVerifyAnswerRow.holds Try.pinned (OpenSpec.ofChange fnExactVerifyAnswerWrong)

/-- 'laws.FnExactMakeReceipt': WHATEVER THE INPUT: true; the input reads as it did. -/
def fnExactMakeReceiptSpec : ChangeSpec := { name := "fnExactMakeReceipt", fn := fun _ => fun
  | [d1, d2, d3, d4, d5] => { results := [.lit (.bool true)], args := [d1, d2, d3, d4, d5] }
  | _ => none }
def fnExactMakeReceiptRow : OpenClaim := { program := "ytofkfagfdeohmaa", sum := "e6123fea2171c48dd239994440807c203f233f816c07224f28b577524ca09efe", func := "loop.example/g00516/laws.FnExactMakeReceipt", spec := "fnExactMakeReceipt", apart := false }
def FnExactMakeReceiptSaid : Prop := fnExactMakeReceiptRow.holds Try.pinned (OpenSpec.ofChange fnExactMakeReceiptSpec)

/-- ITS FALSE NEIGHBOUR: 'it returns false'. Refute it at one input. -/
def fnExactMakeReceiptWrong : ChangeSpec := { name := "fnExactMakeReceipt", fn := fun _ => fun
  | [d1, d2, d3, d4, d5] => { results := [.lit (.bool false)], args := [d1, d2, d3, d4, d5] }
  | _ => none }
def FnExactMakeReceiptWrongFalsely : Prop := fnExactMakeReceiptRow.holds Try.pinned (OpenSpec.ofChange fnExactMakeReceiptWrong)

/-- 'laws.FnExactIsValidServer': WHATEVER THE INPUT: true; the input reads as it did. -/
def fnExactIsValidServerSpec : ChangeSpec := { name := "fnExactIsValidServer", fn := fun _ => fun
  | [d] => { results := [.lit (.bool true)], args := [d] }
  | _ => none }
def fnExactIsValidServerRow : OpenClaim := { program := "ytofkfagfdeohmaa", sum := "e6123fea2171c48dd239994440807c203f233f816c07224f28b577524ca09efe", func := "loop.example/g00516/laws.FnExactIsValidServer", spec := "fnExactIsValidServer", unfollowed := true, recurses := true, apart := false }
def FnExactIsValidServerSaid : Prop := fnExactIsValidServerRow.holds Try.pinned (OpenSpec.ofChange fnExactIsValidServerSpec)

/-- ITS FALSE NEIGHBOUR: 'it returns false'. Refute it at one input. -/
def fnExactIsValidServerWrong : ChangeSpec := { name := "fnExactIsValidServer", fn := fun _ => fun
  | [d] => { results := [.lit (.bool false)], args := [d] }
  | _ => none }
def FnExactIsValidServerWrongFalsely : Prop := fnExactIsValidServerRow.holds Try.pinned (OpenSpec.ofChange fnExactIsValidServerWrong)

/-- 'laws.FnExactCommitment': WHATEVER THE INPUT: true; the input reads as it did. -/
def fnExactCommitmentSpec : ChangeSpec := { name := "fnExactCommitment", fn := fun _ => fun
  | [d] => { results := [.lit (.bool true)], args := [d] }
  | _ => none }
def fnExactCommitmentRow : OpenClaim := { program := "ytofkfagfdeohmaa", sum := "e6123fea2171c48dd239994440807c203f233f816c07224f28b577524ca09efe", func := "loop.example/g00516/laws.FnExactCommitment", spec := "fnExactCommitment", unfollowed := true, recurses := true, apart := false }
def FnExactCommitmentSaid : Prop := fnExactCommitmentRow.holds Try.pinned (OpenSpec.ofChange fnExactCommitmentSpec)

/-- ITS FALSE NEIGHBOUR: 'it returns false'. Refute it at one input. -/
def fnExactCommitmentWrong : ChangeSpec := { name := "fnExactCommitment", fn := fun _ => fun
  | [d] => { results := [.lit (.bool false)], args := [d] }
  | _ => none }
def FnExactCommitmentWrongFalsely : Prop := fnExactCommitmentRow.holds Try.pinned (OpenSpec.ofChange fnExactCommitmentWrong)

/-- 'laws.FnAnswers': WHATEVER THE INPUT: true; the input reads as it did. -/
def fnAnswersSpec : ChangeSpec := { name := "fnAnswers", fn := fun _ => fun
  | [d] => { results := [.lit (.bool true)], args := [d] }
  | _ => none }
def fnAnswersRow : OpenClaim := { program := "ytofkfagfdeohmaa", sum := "e6123fea2171c48dd239994440807c203f233f816c07224f28b577524ca09efe", func := "loop.example/g00516/laws.FnAnswers", spec := "fnAnswers", unfollowed := true, recurses := true, apart := false }
def FnAnswersSaid : Prop := fnAnswersRow.holds Try.pinned (OpenSpec.ofChange fnAnswersSpec)

/-- ITS FALSE NEIGHBOUR: 'it returns false'. Refute it at one input. -/
def fnAnswersWrong : ChangeSpec := { name := "fnAnswers", fn := fun _ => fun
  | [d] => { results := [.lit (.bool false)], args := [d] }
  | _ => none }
def FnAnswersWrongFalsely : Prop := fnAnswersRow.holds Try.pinned (OpenSpec.ofChange fnAnswersWrong)

/-- 'laws.FnExactCutFile': WHATEVER THE INPUT: true; the input reads as it did. -/
def fnExactCutFileSpec : ChangeSpec := { name := "fnExactCutFile", fn := fun _ => fun
  | [d] => { results := [.lit (.bool true)], args := [d] }
  | _ => none }
def fnExactCutFileRow : OpenClaim := { program := "ytofkfagfdeohmaa", sum := "e6123fea2171c48dd239994440807c203f233f816c07224f28b577524ca09efe", func := "loop.example/g00516/laws.FnExactCutFile", spec := "fnExactCutFile", apart := false }
def FnExactCutFileSaid : Prop := fnExactCutFileRow.holds Try.pinned (OpenSpec.ofChange fnExactCutFileSpec)

/-- ITS FALSE NEIGHBOUR: 'it returns false'. Refute it at one input. -/
def fnExactCutFileWrong : ChangeSpec := { name := "fnExactCutFile", fn := fun _ => fun
  | [d] => { results := [.lit (.bool false)], args := [d] }
  | _ => none }
def FnExactCutFileWrongFalsely : Prop := fnExactCutFileRow.holds Try.pinned (OpenSpec.ofChange fnExactCutFileWrong)

/-- 'laws.FnLostPieces': WHATEVER THE INPUT: true; the input reads as it did. -/
def fnLostPiecesSpec : ChangeSpec := { name := "fnLostPieces", fn := fun _ => fun
  | [d] => { results := [.lit (.bool true)], args := [d] }
  | _ => none }
def fnLostPiecesRow : OpenClaim := { program := "ytofkfagfdeohmaa", sum := "e6123fea2171c48dd239994440807c203f233f816c07224f28b577524ca09efe", func := "loop.example/g00516/laws.FnLostPieces", spec := "fnLostPieces", unfollowed := true, recurses := true, apart := false }
def FnLostPiecesSaid : Prop := fnLostPiecesRow.holds Try.pinned (OpenSpec.ofChange fnLostPiecesSpec)

/-- ITS FALSE NEIGHBOUR: 'it returns false'. Refute it at one input. -/
def fnLostPiecesWrong : ChangeSpec := { name := "fnLostPieces", fn := fun _ => fun
  | [d] => { results := [.lit (.bool false)], args := [d] }
  | _ => none }
def FnLostPiecesWrongFalsely : Prop := fnLostPiecesRow.holds Try.pinned (OpenSpec.ofChange fnLostPiecesWrong)

/-- 'laws.FnExactEqualServers': WHATEVER THE INPUT: true; the input reads as it did. -/
def fnExactEqualServersSpec : ChangeSpec := { name := "fnExactEqualServers", fn := fun _ => fun
  | [d1, d2] => { results := [.lit (.bool true)], args := [d1, d2] }
  | _ => none }
def fnExactEqualServersRow : OpenClaim := { program := "ytofkfagfdeohmaa", sum := "e6123fea2171c48dd239994440807c203f233f816c07224f28b577524ca09efe", func := "loop.example/g00516/laws.FnExactEqualServers", spec := "fnExactEqualServers", unfollowed := true, recurses := true, apart := false }
def FnExactEqualServersSaid : Prop := fnExactEqualServersRow.holds Try.pinned (OpenSpec.ofChange fnExactEqualServersSpec)

/-- ITS FALSE NEIGHBOUR: 'it returns false'. Refute it at one input. -/
def fnExactEqualServersWrong : ChangeSpec := { name := "fnExactEqualServers", fn := fun _ => fun
  | [d1, d2] => { results := [.lit (.bool false)], args := [d1, d2] }
  | _ => none }
def FnExactEqualServersWrongFalsely : Prop := fnExactEqualServersRow.holds Try.pinned (OpenSpec.ofChange fnExactEqualServersWrong)

/-- 'laws.FnCoverTraffic': WHATEVER THE INPUT: true; the input reads as it did. -/
def fnCoverTrafficSpec : ChangeSpec := { name := "fnCoverTraffic", fn := fun _ => fun
  | [d] => { results := [.lit (.bool true)], args := [d] }
  | _ => none }
def fnCoverTrafficRow : OpenClaim := { program := "ytofkfagfdeohmaa", sum := "e6123fea2171c48dd239994440807c203f233f816c07224f28b577524ca09efe", func := "loop.example/g00516/laws.FnCoverTraffic", spec := "fnCoverTraffic", unfollowed := true, recurses := true, apart := false }
def FnCoverTrafficSaid : Prop := fnCoverTrafficRow.holds Try.pinned (OpenSpec.ofChange fnCoverTrafficSpec)

/-- ITS FALSE NEIGHBOUR: 'it returns false'. Refute it at one input. -/
def fnCoverTrafficWrong : ChangeSpec := { name := "fnCoverTraffic", fn := fun _ => fun
  | [d] => { results := [.lit (.bool false)], args := [d] }
  | _ => none }
def FnCoverTrafficWrongFalsely : Prop := fnCoverTrafficRow.holds Try.pinned (OpenSpec.ofChange fnCoverTrafficWrong)

/- THE SECOND FORM. 'bulk': how many values and letters a reading holds, each counted each time it is reached (what is shared counts as often as it is met; a slice's spare places count too). A statement '..UptoSaid' is the law's where the arguments, and the package variables that the reading takes, are together of bulk at most 1048576: NARROWER than '..Said'. Prove '..Said' where nothing that the law and all that it calls make is longer than what came in: it says more and counts as full. Else prove '..UptoSaid'. A law counts once. -/
mutual
def uptoBulk {H : Type} : DataW H → Nat
  | .lit (.string bytes) => bytes.length + 1
  | .lit _ => 1
  | .nil => 1
  | .ptr d => uptoBulk d + 1
  | .slice elems spare => uptoBulkAll elems + uptoBulkAll spare + 1
  | .agg parts => uptoBulkAll parts + 1
  | .iface _ d => uptoBulk d + 1
  | .map entries => uptoBulkEntries entries + 1
  | .held _ => 1
def uptoBulkAll {H : Type} : List (DataW H) → Nat
  | [] => 0
  | d :: r => uptoBulk d + uptoBulkAll r
def uptoBulkEntries {H : Type} : List (Lit × DataW H) → Nat
  | [] => 0
  | x :: r => uptoBulkEntry x + uptoBulkEntries r
def uptoBulkEntry {H : Type} : Lit × DataW H → Nat
  | (.string bytes, d) => bytes.length + uptoBulk d + 1
  | (_, d) => uptoBulk d + 1
 end
def uptoSmall : (H : Type) → List (DataW H) → Bool := fun _ ds => decide (uptoBulkAll ds ≤ 1048576)
def OpenSpec.upto (s : _root_.Go.ChangeSpec) : _root_.Go.OpenSpec := { _root_.Go.OpenSpec.ofChange s with cond := some uptoSmall }

/-- 'laws.FnExactReceiptMatches', WHERE WHAT IT READS IS OF BULK AT MOST 1048576: true; the input reads as it did. -/
def fnExactReceiptMatchesUptoRow : OpenClaim := { program := "ytofkfagfdeohmaa", sum := "e6123fea2171c48dd239994440807c203f233f816c07224f28b577524ca09efe", func := "loop.example/g00516/laws.FnExactReceiptMatches", spec := "fnExactReceiptMatches", apart := false, narrowed := true }
def FnExactReceiptMatchesUptoSaid : Prop := fnExactReceiptMatchesUptoRow.holds Try.pinned (OpenSpec.upto fnExactReceiptMatchesSpec)

/-- 'laws.FnExactVerifyRow', WHERE WHAT IT READS IS OF BULK AT MOST 1048576: true; the input reads as it did. -/
def fnExactVerifyRowUptoRow : OpenClaim := { program := "ytofkfagfdeohmaa", sum := "e6123fea2171c48dd239994440807c203f233f816c07224f28b577524ca09efe", func := "loop.example/g00516/laws.FnExactVerifyRow", spec := "fnExactVerifyRow", apart := false, narrowed := true }
def FnExactVerifyRowUptoSaid : Prop := fnExactVerifyRowUptoRow.holds Try.pinned (OpenSpec.upto fnExactVerifyRowSpec)

/-- 'laws.FnExactAnswerMAC', WHERE WHAT IT READS IS OF BULK AT MOST 1048576: true; the input reads as it did. -/
def fnExactAnswerMACUptoRow : OpenClaim := { program := "ytofkfagfdeohmaa", sum := "e6123fea2171c48dd239994440807c203f233f816c07224f28b577524ca09efe", func := "loop.example/g00516/laws.FnExactAnswerMAC", spec := "fnExactAnswerMAC", apart := false, narrowed := true }
def FnExactAnswerMACUptoSaid : Prop := fnExactAnswerMACUptoRow.holds Try.pinned (OpenSpec.upto fnExactAnswerMACSpec)

/-- 'laws.FnExactVerifyAnswer', WHERE WHAT IT READS IS OF BULK AT MOST 1048576: true; the input reads as it did. -/
def fnExactVerifyAnswerUptoRow : OpenClaim := { program := "ytofkfagfdeohmaa", sum := "e6123fea2171c48dd239994440807c203f233f816c07224f28b577524ca09efe", func := "loop.example/g00516/laws.FnExactVerifyAnswer", spec := "fnExactVerifyAnswer", apart := false, narrowed := true }
def FnExactVerifyAnswerUptoSaid : Prop := fnExactVerifyAnswerUptoRow.holds Try.pinned (OpenSpec.upto fnExactVerifyAnswerSpec)

/-- 'laws.FnExactMakeReceipt', WHERE WHAT IT READS IS OF BULK AT MOST 1048576: true; the input reads as it did. -/
def fnExactMakeReceiptUptoRow : OpenClaim := { program := "ytofkfagfdeohmaa", sum := "e6123fea2171c48dd239994440807c203f233f816c07224f28b577524ca09efe", func := "loop.example/g00516/laws.FnExactMakeReceipt", spec := "fnExactMakeReceipt", apart := false, narrowed := true }
def FnExactMakeReceiptUptoSaid : Prop := fnExactMakeReceiptUptoRow.holds Try.pinned (OpenSpec.upto fnExactMakeReceiptSpec)

/-- 'laws.FnExactIsValidServer', WHERE WHAT IT READS IS OF BULK AT MOST 1048576: true; the input reads as it did. -/
def fnExactIsValidServerUptoRow : OpenClaim := { program := "ytofkfagfdeohmaa", sum := "e6123fea2171c48dd239994440807c203f233f816c07224f28b577524ca09efe", func := "loop.example/g00516/laws.FnExactIsValidServer", spec := "fnExactIsValidServer", unfollowed := true, recurses := true, apart := false, narrowed := true }
def FnExactIsValidServerUptoSaid : Prop := fnExactIsValidServerUptoRow.holds Try.pinned (OpenSpec.upto fnExactIsValidServerSpec)

/-- 'laws.FnExactCommitment', WHERE WHAT IT READS IS OF BULK AT MOST 1048576: true; the input reads as it did. -/
def fnExactCommitmentUptoRow : OpenClaim := { program := "ytofkfagfdeohmaa", sum := "e6123fea2171c48dd239994440807c203f233f816c07224f28b577524ca09efe", func := "loop.example/g00516/laws.FnExactCommitment", spec := "fnExactCommitment", unfollowed := true, recurses := true, apart := false, narrowed := true }
def FnExactCommitmentUptoSaid : Prop := fnExactCommitmentUptoRow.holds Try.pinned (OpenSpec.upto fnExactCommitmentSpec)

/-- 'laws.FnAnswers', WHERE WHAT IT READS IS OF BULK AT MOST 1048576: true; the input reads as it did. -/
def fnAnswersUptoRow : OpenClaim := { program := "ytofkfagfdeohmaa", sum := "e6123fea2171c48dd239994440807c203f233f816c07224f28b577524ca09efe", func := "loop.example/g00516/laws.FnAnswers", spec := "fnAnswers", unfollowed := true, recurses := true, apart := false, narrowed := true }
def FnAnswersUptoSaid : Prop := fnAnswersUptoRow.holds Try.pinned (OpenSpec.upto fnAnswersSpec)

/-- 'laws.FnExactCutFile', WHERE WHAT IT READS IS OF BULK AT MOST 1048576: true; the input reads as it did. -/
def fnExactCutFileUptoRow : OpenClaim := { program := "ytofkfagfdeohmaa", sum := "e6123fea2171c48dd239994440807c203f233f816c07224f28b577524ca09efe", func := "loop.example/g00516/laws.FnExactCutFile", spec := "fnExactCutFile", apart := false, narrowed := true }
def FnExactCutFileUptoSaid : Prop := fnExactCutFileUptoRow.holds Try.pinned (OpenSpec.upto fnExactCutFileSpec)

/-- 'laws.FnLostPieces', WHERE WHAT IT READS IS OF BULK AT MOST 1048576: true; the input reads as it did. -/
def fnLostPiecesUptoRow : OpenClaim := { program := "ytofkfagfdeohmaa", sum := "e6123fea2171c48dd239994440807c203f233f816c07224f28b577524ca09efe", func := "loop.example/g00516/laws.FnLostPieces", spec := "fnLostPieces", unfollowed := true, recurses := true, apart := false, narrowed := true }
def FnLostPiecesUptoSaid : Prop := fnLostPiecesUptoRow.holds Try.pinned (OpenSpec.upto fnLostPiecesSpec)

/-- 'laws.FnExactEqualServers', WHERE WHAT IT READS IS OF BULK AT MOST 1048576: true; the input reads as it did. -/
def fnExactEqualServersUptoRow : OpenClaim := { program := "ytofkfagfdeohmaa", sum := "e6123fea2171c48dd239994440807c203f233f816c07224f28b577524ca09efe", func := "loop.example/g00516/laws.FnExactEqualServers", spec := "fnExactEqualServers", unfollowed := true, recurses := true, apart := false, narrowed := true }
def FnExactEqualServersUptoSaid : Prop := fnExactEqualServersUptoRow.holds Try.pinned (OpenSpec.upto fnExactEqualServersSpec)

/-- 'laws.FnCoverTraffic', WHERE WHAT IT READS IS OF BULK AT MOST 1048576: true; the input reads as it did. -/
def fnCoverTrafficUptoRow : OpenClaim := { program := "ytofkfagfdeohmaa", sum := "e6123fea2171c48dd239994440807c203f233f816c07224f28b577524ca09efe", func := "loop.example/g00516/laws.FnCoverTraffic", spec := "fnCoverTraffic", unfollowed := true, recurses := true, apart := false, narrowed := true }
def FnCoverTrafficUptoSaid : Prop := fnCoverTrafficUptoRow.holds Try.pinned (OpenSpec.upto fnCoverTrafficSpec)

end Rows
end Go.Proofs.Ytofkfagfdeohmaa
