/-
  No cell of these rows narrows 'for every input' (looked for: loops, veiled, ifaces, maps, wideKeys, modest, calm, conditions, laid).
  DERIVED. THE GIVEN ROWS OF THIS SEAT. 8 by the template 'for every input the law returns true; each argument reads behind the call as it read before'; 0 by the template 'total and deterministic' (their statements: YtcjgeekeohbnmaaTotals.lean).
  GIVEN WITH THE SEED: the statements are not yours to turn. If you find one false, say at which input.
  Laid BY PROGRAM, IN A SANDBOX (cutbox-rows.mjs): the forced cells as the released guide's own fill.sh prints them over the translation 5be444a8fa1c783d… (all of the seat's roots in one cut). By AI agents, Wed Nov 11 2026. No macro, syntax, notation, axiom, sorry.
-/
import Derived.Test.YtcjgeekeohbnmaaChecked
import GoSem.Claim
import GoSem.ClaimJoined
import GoSem.ClaimMapViews
import Derived.JoinedTies
import Derived.KernelRfl
namespace Go.Proofs.Ytcjgeekeohbnmaa
/- THE CELL 'sum', in the pinned program and in every row, IS THE sha256 OF THE DUMP (.gsa) THAT YtcjgeekeohbnmaaProg.lean LOADS. Nothing in Lean hashes anything: it is a label: what it is worth is what the hold of that sum in a sandbox is worth. -/
noncomputable def Try.pinned : Pinned := { name := "ytcjgeekeohbnmaa", sum := "5be444a8fa1c783d22754d51cc751a271be18fd4a00970c8863d6a2448dcb91a", checked := Try.checked }
namespace Rows
def none {H : Type} : Left H := { results := [], args := [] }

/-- 'laws.FnExactIsFalseAnswer': WHATEVER THE INPUT: true; the input reads as it did. -/
def fnExactIsFalseAnswerSpec : ChangeSpec := { name := "fnExactIsFalseAnswer", fn := fun _ => fun
  | [d1, d2, d3] => { results := [.lit (.bool true)], args := [d1, d2, d3] }
  | _ => none }
def fnExactIsFalseAnswerRow : OpenClaim := { program := "ytcjgeekeohbnmaa", sum := "5be444a8fa1c783d22754d51cc751a271be18fd4a00970c8863d6a2448dcb91a", func := "loop.example/g00516/laws.FnExactIsFalseAnswer", spec := "fnExactIsFalseAnswer", unfollowed := true, recurses := true, apart := false }
def FnExactIsFalseAnswerSaid : Prop := fnExactIsFalseAnswerRow.holds Try.pinned (OpenSpec.ofChange fnExactIsFalseAnswerSpec)

/-- ITS FALSE NEIGHBOUR: 'it returns false'. Refute it at one input. -/
def fnExactIsFalseAnswerWrong : ChangeSpec := { name := "fnExactIsFalseAnswer", fn := fun _ => fun
  | [d1, d2, d3] => { results := [.lit (.bool false)], args := [d1, d2, d3] }
  | _ => none }
def FnExactIsFalseAnswerWrongFalsely : Prop := fnExactIsFalseAnswerRow.holds Try.pinned (OpenSpec.ofChange fnExactIsFalseAnswerWrong)

/-- 'laws.FnExactSignAnswer': WHATEVER THE INPUT: true; the input reads as it did. -/
def fnExactSignAnswerSpec : ChangeSpec := { name := "fnExactSignAnswer", fn := fun _ => fun
  | [d1, d2, d3, d4, d5] => { results := [.lit (.bool true)], args := [d1, d2, d3, d4, d5] }
  | _ => none }
def fnExactSignAnswerRow : OpenClaim := { program := "ytcjgeekeohbnmaa", sum := "5be444a8fa1c783d22754d51cc751a271be18fd4a00970c8863d6a2448dcb91a", func := "loop.example/g00516/laws.FnExactSignAnswer", spec := "fnExactSignAnswer", unfollowed := true, recurses := true, apart := false }
def FnExactSignAnswerSaid : Prop := fnExactSignAnswerRow.holds Try.pinned (OpenSpec.ofChange fnExactSignAnswerSpec)

/-- ITS FALSE NEIGHBOUR: 'it returns false'. Refute it at one input. -/
def fnExactSignAnswerWrong : ChangeSpec := { name := "fnExactSignAnswer", fn := fun _ => fun
  | [d1, d2, d3, d4, d5] => { results := [.lit (.bool false)], args := [d1, d2, d3, d4, d5] }
  | _ => none }
def FnExactSignAnswerWrongFalsely : Prop := fnExactSignAnswerRow.holds Try.pinned (OpenSpec.ofChange fnExactSignAnswerWrong)

/-- 'laws.FnExactAddMember': WHATEVER THE INPUT: true; the input reads as it did. -/
def fnExactAddMemberSpec : ChangeSpec := { name := "fnExactAddMember", fn := fun _ => fun
  | [d1, d2, d3] => { results := [.lit (.bool true)], args := [d1, d2, d3] }
  | _ => none }
def fnExactAddMemberRow : OpenClaim := { program := "ytcjgeekeohbnmaa", sum := "5be444a8fa1c783d22754d51cc751a271be18fd4a00970c8863d6a2448dcb91a", func := "loop.example/g00516/laws.FnExactAddMember", spec := "fnExactAddMember", inPlace := ["slices.overlaps[int]"], apart := false }
def FnExactAddMemberSaid : Prop := fnExactAddMemberRow.holds Try.pinned (OpenSpec.ofChange fnExactAddMemberSpec)

/-- ITS FALSE NEIGHBOUR: 'it returns false'. Refute it at one input. -/
def fnExactAddMemberWrong : ChangeSpec := { name := "fnExactAddMember", fn := fun _ => fun
  | [d1, d2, d3] => { results := [.lit (.bool false)], args := [d1, d2, d3] }
  | _ => none }
def FnExactAddMemberWrongFalsely : Prop := fnExactAddMemberRow.holds Try.pinned (OpenSpec.ofChange fnExactAddMemberWrong)

/-- 'laws.FnExactSumOfShares': WHATEVER THE INPUT: true; the input reads as it did. -/
def fnExactSumOfSharesSpec : ChangeSpec := { name := "fnExactSumOfShares", fn := fun _ => fun
  | [d] => { results := [.lit (.bool true)], args := [d] }
  | _ => none }
def fnExactSumOfSharesRow : OpenClaim := { program := "ytcjgeekeohbnmaa", sum := "5be444a8fa1c783d22754d51cc751a271be18fd4a00970c8863d6a2448dcb91a", func := "loop.example/g00516/laws.FnExactSumOfShares", spec := "fnExactSumOfShares", unfollowed := true, recurses := true, apart := false }
def FnExactSumOfSharesSaid : Prop := fnExactSumOfSharesRow.holds Try.pinned (OpenSpec.ofChange fnExactSumOfSharesSpec)

/-- ITS FALSE NEIGHBOUR: 'it returns false'. Refute it at one input. -/
def fnExactSumOfSharesWrong : ChangeSpec := { name := "fnExactSumOfShares", fn := fun _ => fun
  | [d] => { results := [.lit (.bool false)], args := [d] }
  | _ => none }
def FnExactSumOfSharesWrongFalsely : Prop := fnExactSumOfSharesRow.holds Try.pinned (OpenSpec.ofChange fnExactSumOfSharesWrong)

/-- 'laws.FnExactPublishShare': WHATEVER THE INPUT: true; the input reads as it did. -/
def fnExactPublishShareSpec : ChangeSpec := { name := "fnExactPublishShare", fn := fun _ => fun
  | [d] => { results := [.lit (.bool true)], args := [d] }
  | _ => none }
def fnExactPublishShareRow : OpenClaim := { program := "ytcjgeekeohbnmaa", sum := "5be444a8fa1c783d22754d51cc751a271be18fd4a00970c8863d6a2448dcb91a", func := "loop.example/g00516/laws.FnExactPublishShare", spec := "fnExactPublishShare", unfollowed := true, recurses := true, apart := false }
def FnExactPublishShareSaid : Prop := fnExactPublishShareRow.holds Try.pinned (OpenSpec.ofChange fnExactPublishShareSpec)

/-- ITS FALSE NEIGHBOUR: 'it returns false'. Refute it at one input. -/
def fnExactPublishShareWrong : ChangeSpec := { name := "fnExactPublishShare", fn := fun _ => fun
  | [d] => { results := [.lit (.bool false)], args := [d] }
  | _ => none }
def FnExactPublishShareWrongFalsely : Prop := fnExactPublishShareRow.holds Try.pinned (OpenSpec.ofChange fnExactPublishShareWrong)

/-- 'laws.FnExactJoinFile': WHATEVER THE INPUT: true; the input reads as it did. -/
def fnExactJoinFileSpec : ChangeSpec := { name := "fnExactJoinFile", fn := fun _ => fun
  | [d] => { results := [.lit (.bool true)], args := [d] }
  | _ => none }
def fnExactJoinFileRow : OpenClaim := { program := "ytcjgeekeohbnmaa", sum := "5be444a8fa1c783d22754d51cc751a271be18fd4a00970c8863d6a2448dcb91a", func := "loop.example/g00516/laws.FnExactJoinFile", spec := "fnExactJoinFile", unfollowed := true, recurses := true, apart := false }
def FnExactJoinFileSaid : Prop := fnExactJoinFileRow.holds Try.pinned (OpenSpec.ofChange fnExactJoinFileSpec)

/-- ITS FALSE NEIGHBOUR: 'it returns false'. Refute it at one input. -/
def fnExactJoinFileWrong : ChangeSpec := { name := "fnExactJoinFile", fn := fun _ => fun
  | [d] => { results := [.lit (.bool false)], args := [d] }
  | _ => none }
def FnExactJoinFileWrongFalsely : Prop := fnExactJoinFileRow.holds Try.pinned (OpenSpec.ofChange fnExactJoinFileWrong)

/-- 'laws.FnExactNextWrite': WHATEVER THE INPUT: true; the input reads as it did. -/
def fnExactNextWriteSpec : ChangeSpec := { name := "fnExactNextWrite", fn := fun _ => fun
  | [d1, d2, d3, d4] => { results := [.lit (.bool true)], args := [d1, d2, d3, d4] }
  | _ => none }
def fnExactNextWriteRow : OpenClaim := { program := "ytcjgeekeohbnmaa", sum := "5be444a8fa1c783d22754d51cc751a271be18fd4a00970c8863d6a2448dcb91a", func := "loop.example/g00516/laws.FnExactNextWrite", spec := "fnExactNextWrite", unfollowed := true, recurses := true, apart := false }
def FnExactNextWriteSaid : Prop := fnExactNextWriteRow.holds Try.pinned (OpenSpec.ofChange fnExactNextWriteSpec)

/-- ITS FALSE NEIGHBOUR: 'it returns false'. Refute it at one input. -/
def fnExactNextWriteWrong : ChangeSpec := { name := "fnExactNextWrite", fn := fun _ => fun
  | [d1, d2, d3, d4] => { results := [.lit (.bool false)], args := [d1, d2, d3, d4] }
  | _ => none }
def FnExactNextWriteWrongFalsely : Prop := fnExactNextWriteRow.holds Try.pinned (OpenSpec.ofChange fnExactNextWriteWrong)

/-- 'laws.FnGroupMessages': WHATEVER THE INPUT: true; the input reads as it did. -/
def fnGroupMessagesSpec : ChangeSpec := { name := "fnGroupMessages", fn := fun _ => fun
  | [d] => { results := [.lit (.bool true)], args := [d] }
  | _ => none }
def fnGroupMessagesRow : OpenClaim := { program := "ytcjgeekeohbnmaa", sum := "5be444a8fa1c783d22754d51cc751a271be18fd4a00970c8863d6a2448dcb91a", func := "loop.example/g00516/laws.FnGroupMessages", spec := "fnGroupMessages", inPlace := ["slices.overlaps[int]"], apart := false }
def FnGroupMessagesSaid : Prop := fnGroupMessagesRow.holds Try.pinned (OpenSpec.ofChange fnGroupMessagesSpec)

/-- ITS FALSE NEIGHBOUR: 'it returns false'. Refute it at one input. -/
def fnGroupMessagesWrong : ChangeSpec := { name := "fnGroupMessages", fn := fun _ => fun
  | [d] => { results := [.lit (.bool false)], args := [d] }
  | _ => none }
def FnGroupMessagesWrongFalsely : Prop := fnGroupMessagesRow.holds Try.pinned (OpenSpec.ofChange fnGroupMessagesWrong)

/- THE SECOND FORM. 'bulk': how many values and letters a reading holds, each counted each time it is reached (what is shared counts as often as it is met; a slice's spare places count too). A statement '..UptoSaid' is the law's where the arguments, and the package variables that the reading takes, are together of bulk at most 1048576: NARROWER than '..Said'. Prove '..Said' where nothing that the law and all that it calls make is longer than what came in: it says more and counts as full. Else prove '..UptoSaid'. A law counts once. -/
mutual
def uptoBulk {H : Type} : DataW H → Nat
  | .lit (.string bytes) => bytes.length + 1
  | .lit _ => 1
  | .nil => 1
  | .ptr d => uptoBulk d + 1
  | .slice elems spare => uptoBulkAll elems + uptoBulkAll spare + 1
  | .agg parts => uptoBulkAll parts + 1
  | .iface _ d => uptoBulk d + 1
  | .map entries => uptoBulkEntries entries + 1
  | .held _ => 1
def uptoBulkAll {H : Type} : List (DataW H) → Nat
  | [] => 0
  | d :: r => uptoBulk d + uptoBulkAll r
def uptoBulkEntries {H : Type} : List (Lit × DataW H) → Nat
  | [] => 0
  | x :: r => uptoBulkEntry x + uptoBulkEntries r
def uptoBulkEntry {H : Type} : Lit × DataW H → Nat
  | (.string bytes, d) => bytes.length + uptoBulk d + 1
  | (_, d) => uptoBulk d + 1
 end
def uptoSmall : (H : Type) → List (DataW H) → Bool := fun _ ds => decide (uptoBulkAll ds ≤ 1048576)
def OpenSpec.upto (s : _root_.Go.ChangeSpec) : _root_.Go.OpenSpec := { _root_.Go.OpenSpec.ofChange s with cond := some uptoSmall }

/-- 'laws.FnExactIsFalseAnswer', WHERE WHAT IT READS IS OF BULK AT MOST 1048576: true; the input reads as it did. -/
def fnExactIsFalseAnswerUptoRow : OpenClaim := { program := "ytcjgeekeohbnmaa", sum := "5be444a8fa1c783d22754d51cc751a271be18fd4a00970c8863d6a2448dcb91a", func := "loop.example/g00516/laws.FnExactIsFalseAnswer", spec := "fnExactIsFalseAnswer", unfollowed := true, recurses := true, apart := false, narrowed := true }
def FnExactIsFalseAnswerUptoSaid : Prop := fnExactIsFalseAnswerUptoRow.holds Try.pinned (OpenSpec.upto fnExactIsFalseAnswerSpec)

/-- 'laws.FnExactSignAnswer', WHERE WHAT IT READS IS OF BULK AT MOST 1048576: true; the input reads as it did. -/
def fnExactSignAnswerUptoRow : OpenClaim := { program := "ytcjgeekeohbnmaa", sum := "5be444a8fa1c783d22754d51cc751a271be18fd4a00970c8863d6a2448dcb91a", func := "loop.example/g00516/laws.FnExactSignAnswer", spec := "fnExactSignAnswer", unfollowed := true, recurses := true, apart := false, narrowed := true }
def FnExactSignAnswerUptoSaid : Prop := fnExactSignAnswerUptoRow.holds Try.pinned (OpenSpec.upto fnExactSignAnswerSpec)

/-- 'laws.FnExactAddMember', WHERE WHAT IT READS IS OF BULK AT MOST 1048576: true; the input reads as it did. -/
def fnExactAddMemberUptoRow : OpenClaim := { program := "ytcjgeekeohbnmaa", sum := "5be444a8fa1c783d22754d51cc751a271be18fd4a00970c8863d6a2448dcb91a", func := "loop.example/g00516/laws.FnExactAddMember", spec := "fnExactAddMember", inPlace := ["slices.overlaps[int]"], apart := false, narrowed := true }
def FnExactAddMemberUptoSaid : Prop := fnExactAddMemberUptoRow.holds Try.pinned (OpenSpec.upto fnExactAddMemberSpec)

/-- 'laws.FnExactSumOfShares', WHERE WHAT IT READS IS OF BULK AT MOST 1048576: true; the input reads as it did. -/
def fnExactSumOfSharesUptoRow : OpenClaim := { program := "ytcjgeekeohbnmaa", sum := "5be444a8fa1c783d22754d51cc751a271be18fd4a00970c8863d6a2448dcb91a", func := "loop.example/g00516/laws.FnExactSumOfShares", spec := "fnExactSumOfShares", unfollowed := true, recurses := true, apart := false, narrowed := true }
def FnExactSumOfSharesUptoSaid : Prop := fnExactSumOfSharesUptoRow.holds Try.pinned (OpenSpec.upto fnExactSumOfSharesSpec)

/-- 'laws.FnExactPublishShare', WHERE WHAT IT READS IS OF BULK AT MOST 1048576: true; the input reads as it did. -/
def fnExactPublishShareUptoRow : OpenClaim := { program := "ytcjgeekeohbnmaa", sum := "5be444a8fa1c783d22754d51cc751a271be18fd4a00970c8863d6a2448dcb91a", func := "loop.example/g00516/laws.FnExactPublishShare", spec := "fnExactPublishShare", unfollowed := true, recurses := true, apart := false, narrowed := true }
def FnExactPublishShareUptoSaid : Prop := fnExactPublishShareUptoRow.holds Try.pinned (OpenSpec.upto fnExactPublishShareSpec)

/-- 'laws.FnExactJoinFile', WHERE WHAT IT READS IS OF BULK AT MOST 1048576: true; the input reads as it did. -/
def fnExactJoinFileUptoRow : OpenClaim := { program := "ytcjgeekeohbnmaa", sum := "5be444a8fa1c783d22754d51cc751a271be18fd4a00970c8863d6a2448dcb91a", func := "loop.example/g00516/laws.FnExactJoinFile", spec := "fnExactJoinFile", unfollowed := true, recurses := true, apart := false, narrowed := true }
def FnExactJoinFileUptoSaid : Prop := fnExactJoinFileUptoRow.holds Try.pinned (OpenSpec.upto fnExactJoinFileSpec)

/-- 'laws.FnExactNextWrite', WHERE WHAT IT READS IS OF BULK AT MOST 1048576: true; the input reads as it did. -/
def fnExactNextWriteUptoRow : OpenClaim := { program := "ytcjgeekeohbnmaa", sum := "5be444a8fa1c783d22754d51cc751a271be18fd4a00970c8863d6a2448dcb91a", func := "loop.example/g00516/laws.FnExactNextWrite", spec := "fnExactNextWrite", unfollowed := true, recurses := true, apart := false, narrowed := true }
def FnExactNextWriteUptoSaid : Prop := fnExactNextWriteUptoRow.holds Try.pinned (OpenSpec.upto fnExactNextWriteSpec)

/-- 'laws.FnGroupMessages', WHERE WHAT IT READS IS OF BULK AT MOST 1048576: true; the input reads as it did. -/
def fnGroupMessagesUptoRow : OpenClaim := { program := "ytcjgeekeohbnmaa", sum := "5be444a8fa1c783d22754d51cc751a271be18fd4a00970c8863d6a2448dcb91a", func := "loop.example/g00516/laws.FnGroupMessages", spec := "fnGroupMessages", inPlace := ["slices.overlaps[int]"], apart := false, narrowed := true }
def FnGroupMessagesUptoSaid : Prop := fnGroupMessagesUptoRow.holds Try.pinned (OpenSpec.upto fnGroupMessagesSpec)

end Rows
end Go.Proofs.Ytcjgeekeohbnmaa
