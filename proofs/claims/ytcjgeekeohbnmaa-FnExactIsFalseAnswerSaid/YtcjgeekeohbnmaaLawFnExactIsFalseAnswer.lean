/- The law FnExactIsFalseAnswer answers true for every input, and leaves its arguments as they were. No condition. -/
import Derived.Test.YtcjgeekeohbnmaaRows
import Derived.Test.YtcjgeekeohbnmaaQxEGKPJL
import Derived.Test.YtcjgeekeohbnmaaPureFnExactIsFalseAnswer
import Derived.Test.YtcjgeekeohbnmaaWO
import Derived.WalkKit
import Derived.ProofKit
import Derived.OpenShut
import Derived.ShutString
import Derived.ChangeOld
import Derived.Below
import Derived.SizedLaws
namespace Go.Proofs.Ytcjgeekeohbnmaa.fnExactIsFalseAnswer
open Go.ChangeShapes Go.WideShapes Go.ChangeAt Go.RowKit
open Go.Proofs.YtcjgeekeohbnmaaW.PrintWords Go.Proofs.YtcjgeekeohbnmaaW.PrintWords.QPW Go.Proofs.Ytcjgeekeohbnmaa.Q
open Go.ChangeMaps (open_string shut_string)
set_option linter.unusedVariables false
theorem own : ownKnob Try.prog.godebug = none := by kernel_rfl
theorem laidOut : laidOutB Try.prog = true := by kernel_rfl
theorem open1 : ∃ (ok : _ → Prop), Opens Try.prog 24 (Kd.slice 26 (Kd.slice 5 (Kd.int .u8))) ok ∧ ∀ x_, ok x_ → (x_.length ≤ maxLen ∧ ∀ z106 ∈ x_, z106.length ≤ maxLen ∧ ∀ z107 ∈ z106, (Lit.int .u8 z107).wf = true) := ⟨_, opens_struct Try.underlying24 (by kernel_rfl) (opensF_one rfl (by kernel_rfl) (opens_slice Try.underlying22 (by kernel_rfl) (opens_slice Try.underlying26 (by kernel_rfl) (opens_int Try.underlying5)))), fun x_ h_ => h_⟩
theorem open2 : ∃ (ok : _ → Prop), Opens Try.prog 28 (Kd.pair (Kd.int .i64) (Kd.pair (Kd.int .i64) (Kd.pair (Kd.slice 3 (Kd.int .i64)) (Kd.pair (Kd.slice 5 (Kd.int .u8)) (Kd.int .i64))))) ok ∧ ∀ x_, ok x_ → (((Lit.int .i64 x_.1).wf = true) ∧ (((Lit.int .i64 x_.2.1).wf = true) ∧ ((x_.2.2.1.length ≤ maxLen ∧ ∀ z108 ∈ x_.2.2.1, (Lit.int .i64 z108).wf = true) ∧ ((x_.2.2.2.1.length ≤ maxLen ∧ ∀ z109 ∈ x_.2.2.2.1, (Lit.int .u8 z109).wf = true) ∧ ((Lit.int .i64 x_.2.2.2.2).wf = true))))) := ⟨_, opens_struct Try.underlying28 (by kernel_rfl) (opensF_cons rfl (by kernel_rfl) (opens_int Try.underlying3) (opensF_cons rfl (by kernel_rfl) (opens_int Try.underlying3) (opensF_cons rfl (by kernel_rfl) (opens_slice Try.underlying25 (by kernel_rfl) (opens_int Try.underlying3)) (opensF_cons rfl (by kernel_rfl) (opens_slice Try.underlying26 (by kernel_rfl) (opens_int Try.underlying5)) (opensF_one rfl (by kernel_rfl) (opens_int Try.underlying3)))))), fun x_ h_ => h_⟩
set_option maxRecDepth 100000 in
theorem lifted (os : Os) (started : os.Started) (H : Type) (enc : TypeId × Value → H) :
    ReturnsInHanded {} Try.checked os 3 .any (Rows.fnExactIsFalseAnswerSpec.pre6 enc Try.prog Try.f3 Rows.fnExactIsFalseAnswerRow.domain false) (Rows.fnExactIsFalseAnswerSpec.post enc Try.prog Try.f3 false true false false) := by
  refine returnsInHanded_of_change_sized (C := Try.checked) own started (by kernel_rfl) Try.func3
    (ChangeSpec.witness6 (enc := enc) (C := Try.checked) false ⟨#[], #[.int .i64 0, .agg #[.slice none 0 0], .agg #[.int .i64 0, .int .i64 0, .slice none 0 0, .slice none 0 0, .int .i64 0]], []⟩ 8 (by kernel_rfl) (by kernel_rfl) (by kernel_rfl) (by kernel_rfl)) ?_
  intro W base args ds gs before hval0 hW hcnd hsz0 _
  have hval : ∀ (j : Nat) t v, Try.f3.params[j]? = some t → args[j]? = some v → Value.okWide Try.prog W .any base t v := hval0
  have hW' := hW
  obtain ⟨p, q, hA0, hV, rfl, hfz, hnd⟩ := hW
  have hA : DataW.TrodAll enc Try.prog W 0 (fun _ => true) true Try.f3.params.toList args.toList ds p := hA0
  rw [Try.params3] at hA hval
  obtain ⟨v0, vs0, d0, ds0, p0, q0, hargs, rfl, rfl, h0, r0⟩ := trodAll_cons hA
  obtain ⟨v1, vs1, d1, ds1, p1, q1, rfl, rfl, rfl, h1, r1⟩ := trodAll_cons r0
  obtain ⟨v2, vs2, d2, ds2, p2, q2, rfl, rfl, rfl, h2, r2⟩ := trodAll_cons r1
  obtain ⟨rfl, rfl, rfl⟩ := trodAll_nil r2
  obtain rfl : args = #[v0, v1, v2] := by cases args; simp_all
  obtain ⟨rfl, rfl⟩ := trodVars_none hV
  obtain ⟨a0, rfl, rfl, rfl, w0⟩ := open_int Try.underlying3 (hval 0 3 v0 rfl rfl) h0
  have k1 := h1
  have lt1 : ∀ x ∈ p1, x.block < W.heap.size := by obtain ⟨m, hm⟩ := k1; exact DataW.trod_lt m _ _ _ hm
  obtain ⟨ok1, op1, imp1⟩ := open1
  obtain ⟨cs1, x1, rfl, hK1, o1⟩ := opens_top Try.underlying24 op1 (hval 1 24 v1 rfl rfl) h1
  have o1 := imp1 _ o1
  obtain ⟨A1_0, c1_0, rfl, hc1_0, hr1_0⟩ := hK1
  have k2 := h2
  have lt2 : ∀ x ∈ p2, x.block < W.heap.size := by obtain ⟨m, hm⟩ := k2; exact DataW.trod_lt m _ _ _ hm
  obtain ⟨ok2, op2, imp2⟩ := open2
  obtain ⟨cs2, x2, rfl, hK2, o2⟩ := opens_top Try.underlying28 op2 (hval 2 28 v2 rfl rfl) h2
  have o2 := imp2 _ o2
  obtain ⟨_, _, rfl, rfl, ⟨_, _, rfl, rfl, ⟨_, _, rfl, ⟨A2_2, c2_2, rfl, hc2_2, hr2_2⟩, ⟨_, _, rfl, ⟨A2_3, c2_3, rfl, hc2_3, hr2_3⟩, rfl⟩⟩⟩⟩ := hK2
  clear hA0 hval0 hsz0
  obtain ⟨k, h⟩ := Pure.FnExactIsFalseAnswer a0 x1 x2.1 x2.2.1 x2.2.2.1 x2.2.2.2.1 x2.2.2.2.2 w0 o1 o2.1 o2.2.1 o2.2.2.1 o2.2.2.2.1 o2.2.2.2.2
  refine (Q.laws_FnExactIsFalseAnswer.calls k a0 _ _ x1 x2.1 x2.2.1 _ _ x2.2.2.1 _ _ x2.2.2.2.1 x2.2.2.2.2 true W hr1_0 hc1_0 hr2_2 hc2_2 hr2_3 hc2_3 h).mono fun e W' ⟨he, bel0⟩ => ?_
  have bel := bel0
  subst he
  exact ⟨_, rfl, _, _, _, [], _, [], hW', trodAll_mk1 (shut_bool Try.underlying4 _), (trodAll_cons_mk (shut_int Try.underlying3 w0) (trodAll_cons_mk (Below.trod laidOut (by kernel_rfl) (of_decide_eq_true (by kernel_rfl)) k1 bel lt1) (trodAll_cons_mk (Below.trod laidOut (by kernel_rfl) (of_decide_eq_true (by kernel_rfl)) k2 bel lt2) trodAll_mk0))), rfl, bel.frame _, fun h => by cases h⟩
theorem ovA : Try.pinned.checked.prog.funcNamed Rows.fnExactIsFalseAnswerRow.func = some 3 := by kernel_rfl
theorem ovB : joinedFacts Try.pinned.checked.prog 3 Try.f3 Rows.fnExactIsFalseAnswerSpec Rows.fnExactIsFalseAnswerRow = true := by kernel_rfl
theorem ovC : Try.f3.isInstance Try.pinned.checked.prog Rows.fnExactIsFalseAnswerRow.origin Rows.fnExactIsFalseAnswerRow.targs := of_decide_eq_true (by kernel_rfl)
theorem ovD : Try.f3.isWrapper Try.pinned.checked.prog Rows.fnExactIsFalseAnswerRow.wrapper Rows.fnExactIsFalseAnswerRow.mainSum := by unfold Func.isWrapper; first | (rw [if_pos (by decide +kernel)]; kernel_rfl) | (rw [if_neg (by decide +kernel)]; exact ⟨rfl, rfl⟩)
theorem over : Rows.fnExactIsFalseAnswerRow.holds Try.pinned (OpenSpec.ofChange Rows.fnExactIsFalseAnswerSpec) :=
  OpenClaim.holds_of_wide 3 Try.f3 rfl rfl rfl rfl rfl rfl rfl ⟨rfl, rfl, rfl, rfl, rfl⟩ rfl rfl rfl rfl rfl ovA Try.func3 ovB ovC ovD
    (fun os started H enc _ => lifted os started H enc)
theorem proved : Rows.FnExactIsFalseAnswerSaid := over
#print axioms proved
end Go.Proofs.Ytcjgeekeohbnmaa.fnExactIsFalseAnswer
namespace Go.Proofs.Ytcjgeekeohbnmaa
/-- The row, under a short name, for the claim. -/
theorem fnExactIsFalseAnswer_holds : Rows.FnExactIsFalseAnswerSaid := fnExactIsFalseAnswer.proved
end Go.Proofs.Ytcjgeekeohbnmaa
