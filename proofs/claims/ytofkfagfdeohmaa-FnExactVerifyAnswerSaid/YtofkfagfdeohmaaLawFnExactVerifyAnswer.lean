/- The law FnExactVerifyAnswer answers true for every input, and leaves its arguments as they were. No condition. -/
import Derived.Test.YtofkfagfdeohmaaRows
import Derived.Test.YtofkfagfdeohmaaQxOMHGJM
import Derived.Test.YtofkfagfdeohmaaPureFnExactVerifyAnswer
import Derived.Test.YtofkfagfdeohmaaWO
import Derived.WalkKit
import Derived.ProofKit
import Derived.OpenShut
import Derived.ShutString
import Derived.ChangeOld
import Derived.Below
import Derived.SizedLaws
namespace Go.Proofs.Ytofkfagfdeohmaa.fnExactVerifyAnswer
open Go.ChangeShapes Go.WideShapes Go.ChangeAt Go.RowKit
open Go.Proofs.YtofkfagfdeohmaaW.PrintWords Go.Proofs.YtofkfagfdeohmaaW.PrintWords.QPW Go.Proofs.Ytofkfagfdeohmaa.Q
open Go.ChangeMaps (open_string shut_string)
set_option linter.unusedVariables false
theorem own : ownKnob Try.prog.godebug = none := by kernel_rfl
theorem laidOut : laidOutB Try.prog = true := by kernel_rfl
theorem open1 : ∃ (ok : _ → Prop), Opens Try.prog 48 (Kd.pair (Kd.int .i64) (Kd.pair (Kd.int .i64) (Kd.pair (Kd.slice 3 (Kd.int .i64)) (Kd.pair (Kd.slice 5 (Kd.int .u8)) (Kd.int .i64))))) ok ∧ ∀ x_, ok x_ → (((Lit.int .i64 x_.1).wf = true) ∧ (((Lit.int .i64 x_.2.1).wf = true) ∧ ((x_.2.2.1.length ≤ maxLen ∧ ∀ z151 ∈ x_.2.2.1, (Lit.int .i64 z151).wf = true) ∧ ((x_.2.2.2.1.length ≤ maxLen ∧ ∀ z152 ∈ x_.2.2.2.1, (Lit.int .u8 z152).wf = true) ∧ ((Lit.int .i64 x_.2.2.2.2).wf = true))))) := ⟨_, opens_struct Try.underlying48 (by kernel_rfl) (opensF_cons rfl (by kernel_rfl) (opens_int Try.underlying3) (opensF_cons rfl (by kernel_rfl) (opens_int Try.underlying3) (opensF_cons rfl (by kernel_rfl) (opens_slice Try.underlying35 (by kernel_rfl) (opens_int Try.underlying3)) (opensF_cons rfl (by kernel_rfl) (opens_slice Try.underlying38 (by kernel_rfl) (opens_int Try.underlying5)) (opensF_one rfl (by kernel_rfl) (opens_int Try.underlying3)))))), fun x_ h_ => h_⟩
set_option maxRecDepth 100000 in
theorem lifted (os : Os) (started : os.Started) (H : Type) (enc : TypeId × Value → H) :
    ReturnsInHanded {} Try.checked os 6 .any (Rows.fnExactVerifyAnswerSpec.pre6 enc Try.prog Try.f6 Rows.fnExactVerifyAnswerRow.domain false) (Rows.fnExactVerifyAnswerSpec.post enc Try.prog Try.f6 false true false false) := by
  refine returnsInHanded_of_change_sized (C := Try.checked) own started (by kernel_rfl) Try.func6
    (ChangeSpec.witness6 (enc := enc) (C := Try.checked) false ⟨#[], #[.int .i64 0, .agg #[.int .i64 0, .int .i64 0, .slice none 0 0, .slice none 0 0, .int .i64 0]], []⟩ 8 (by kernel_rfl) (by kernel_rfl) (by kernel_rfl) (by kernel_rfl)) ?_
  intro W base args ds gs before hval0 hW hcnd hsz0 _
  have hval : ∀ (j : Nat) t v, Try.f6.params[j]? = some t → args[j]? = some v → Value.okWide Try.prog W .any base t v := hval0
  have hW' := hW
  obtain ⟨p, q, hA0, hV, rfl, hfz, hnd⟩ := hW
  have hA : DataW.TrodAll enc Try.prog W 0 (fun _ => true) true Try.f6.params.toList args.toList ds p := hA0
  rw [Try.params6] at hA hval
  obtain ⟨v0, vs0, d0, ds0, p0, q0, hargs, rfl, rfl, h0, r0⟩ := trodAll_cons hA
  obtain ⟨v1, vs1, d1, ds1, p1, q1, rfl, rfl, rfl, h1, r1⟩ := trodAll_cons r0
  obtain ⟨rfl, rfl, rfl⟩ := trodAll_nil r1
  obtain rfl : args = #[v0, v1] := by cases args; simp_all
  obtain ⟨rfl, rfl⟩ := trodVars_none hV
  obtain ⟨a0, rfl, rfl, rfl, w0⟩ := open_int Try.underlying3 (hval 0 3 v0 rfl rfl) h0
  have k1 := h1
  have lt1 : ∀ x ∈ p1, x.block < W.heap.size := by obtain ⟨m, hm⟩ := k1; exact DataW.trod_lt m _ _ _ hm
  obtain ⟨ok1, op1, imp1⟩ := open1
  obtain ⟨cs1, x1, rfl, hK1, o1⟩ := opens_top Try.underlying48 op1 (hval 1 48 v1 rfl rfl) h1
  have o1 := imp1 _ o1
  obtain ⟨_, _, rfl, rfl, ⟨_, _, rfl, rfl, ⟨_, _, rfl, ⟨A1_2, c1_2, rfl, hc1_2, hr1_2⟩, ⟨_, _, rfl, ⟨A1_3, c1_3, rfl, hc1_3, hr1_3⟩, rfl⟩⟩⟩⟩ := hK1
  clear hA0 hval0 hsz0
  obtain ⟨k, h⟩ := Pure.FnExactVerifyAnswer a0 x1.1 x1.2.1 x1.2.2.1 x1.2.2.2.1 x1.2.2.2.2 w0 o1.1 o1.2.1 o1.2.2.1 o1.2.2.2.1 o1.2.2.2.2
  refine (Q.laws_FnExactVerifyAnswer.calls k a0 x1.1 x1.2.1 _ _ x1.2.2.1 _ _ x1.2.2.2.1 x1.2.2.2.2 true W hr1_2 hc1_2 hr1_3 hc1_3 h).mono fun e W' ⟨he, bel0⟩ => ?_
  have bel := bel0
  subst he
  exact ⟨_, rfl, _, _, _, [], _, [], hW', trodAll_mk1 (shut_bool Try.underlying4 _), (trodAll_cons_mk (shut_int Try.underlying3 w0) (trodAll_cons_mk (Below.trod laidOut (by kernel_rfl) (of_decide_eq_true (by kernel_rfl)) k1 bel lt1) trodAll_mk0)), rfl, bel.frame _, fun h => by cases h⟩
theorem ovA : Try.pinned.checked.prog.funcNamed Rows.fnExactVerifyAnswerRow.func = some 6 := by kernel_rfl
theorem ovB : joinedFacts Try.pinned.checked.prog 6 Try.f6 Rows.fnExactVerifyAnswerSpec Rows.fnExactVerifyAnswerRow = true := by kernel_rfl
theorem ovC : Try.f6.isInstance Try.pinned.checked.prog Rows.fnExactVerifyAnswerRow.origin Rows.fnExactVerifyAnswerRow.targs := of_decide_eq_true (by kernel_rfl)
theorem ovD : Try.f6.isWrapper Try.pinned.checked.prog Rows.fnExactVerifyAnswerRow.wrapper Rows.fnExactVerifyAnswerRow.mainSum := by unfold Func.isWrapper; first | (rw [if_pos (by decide +kernel)]; kernel_rfl) | (rw [if_neg (by decide +kernel)]; exact ⟨rfl, rfl⟩)
theorem over : Rows.fnExactVerifyAnswerRow.holds Try.pinned (OpenSpec.ofChange Rows.fnExactVerifyAnswerSpec) :=
  OpenClaim.holds_of_wide 6 Try.f6 rfl rfl rfl rfl rfl rfl rfl ⟨rfl, rfl, rfl, rfl, rfl⟩ rfl rfl rfl rfl rfl ovA Try.func6 ovB ovC ovD
    (fun os started H enc _ => lifted os started H enc)
theorem proved : Rows.FnExactVerifyAnswerSaid := over
#print axioms proved
end Go.Proofs.Ytofkfagfdeohmaa.fnExactVerifyAnswer
namespace Go.Proofs.Ytofkfagfdeohmaa
/-- The row, under a short name, for the claim. -/
theorem fnExactVerifyAnswer_holds : Rows.FnExactVerifyAnswerSaid := fnExactVerifyAnswer.proved
end Go.Proofs.Ytofkfagfdeohmaa
