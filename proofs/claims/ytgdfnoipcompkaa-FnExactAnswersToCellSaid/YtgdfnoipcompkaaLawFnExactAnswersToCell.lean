/- The law FnExactAnswersToCell answers true for every input, and leaves its arguments as they were. No condition. -/
import Derived.Test.YtgdfnoipcompkaaRows
import Derived.Test.YtgdfnoipcompkaaQxFAANGH
import Derived.Test.YtgdfnoipcompkaaPureFnExactAnswersToCell
import Derived.Test.YtgdfnoipcompkaaWO
import Derived.WalkKit
import Derived.ProofKit
import Derived.OpenShut
import Derived.ShutString
import Derived.ChangeOld
import Derived.Below
import Derived.SizedLaws
namespace Go.Proofs.Ytgdfnoipcompkaa.fnExactAnswersToCell
open Go.ChangeShapes Go.WideShapes Go.ChangeAt Go.RowKit
open Go.Proofs.YtgdfnoipcompkaaW.PrintWords Go.Proofs.YtgdfnoipcompkaaW.PrintWords.QPW Go.Proofs.Ytgdfnoipcompkaa.Q
open Go.ChangeMaps (open_string shut_string)
set_option linter.unusedVariables false
theorem own : ownKnob Try.prog.godebug = none := by kernel_rfl
theorem laidOut : laidOutB Try.prog = true := by kernel_rfl
theorem open0 : ∃ (ok : _ → Prop), Opens Try.prog 54 (Kd.slice 154 k154) ok ∧ ∀ x_, ok x_ → x_.length ≤ maxLen ∧ ∀ z168 ∈ x_, ((Lit.int .i64 z168.f0).wf = true) ∧ ((Lit.int .i64 z168.f1).wf = true) ∧ (z168.f2.length ≤ maxLen ∧ ∀ z169 ∈ z168.f2, (Lit.int .i64 z169).wf = true) ∧ (z168.f3.length ≤ maxLen ∧ ∀ z170 ∈ z168.f3, (Lit.int .u8 z170).wf = true) ∧ ((Lit.int .i64 z168.f4).wf = true) := ⟨_, (opens_slice Try.underlying54 (by kernel_rfl) (show Opens Try.prog 154 k154 _ from opens_iso (fun x : S154 => (x.f0, x.f1, x.f2, x.f3, x.f4)) (fun a_ => ⟨a_.1, a_.2.1, a_.2.2.1, a_.2.2.2.1, a_.2.2.2.2⟩) (fun _ => rfl) (opens_struct Try.underlying154 (by kernel_rfl) (opensF_cons rfl (by kernel_rfl) (opens_int Try.underlying3) (opensF_cons rfl (by kernel_rfl) (opens_int Try.underlying3) (opensF_cons rfl (by kernel_rfl) (opens_slice Try.underlying43 (by kernel_rfl) (opens_int Try.underlying3)) (opensF_cons rfl (by kernel_rfl) (opens_slice Try.underlying25 (by kernel_rfl) (opens_int Try.underlying5)) (opensF_one rfl (by kernel_rfl) (opens_int Try.underlying3))))))))), fun x_ h_ => h_⟩
set_option maxRecDepth 100000 in
theorem lifted (os : Os) (started : os.Started) (H : Type) (enc : TypeId × Value → H) :
    ReturnsInHanded {} Try.checked os 5 .any (Rows.fnExactAnswersToCellSpec.pre6 enc Try.prog Try.f5 Rows.fnExactAnswersToCellRow.domain false) (Rows.fnExactAnswersToCellSpec.post enc Try.prog Try.f5 false true false false) := by
  refine returnsInHanded_of_change_sized (C := Try.checked) own started (by kernel_rfl) Try.func5
    (ChangeSpec.witness6 (enc := enc) (C := Try.checked) false ⟨#[], #[.slice none 0 0], []⟩ 8 (by kernel_rfl) (by kernel_rfl) (by kernel_rfl) (by kernel_rfl)) ?_
  intro W base args ds gs before hval0 hW hcnd hsz0 _
  have hval : ∀ (j : Nat) t v, Try.f5.params[j]? = some t → args[j]? = some v → Value.okWide Try.prog W .any base t v := hval0
  have hW' := hW
  obtain ⟨p, q, hA0, hV, rfl, hfz, hnd⟩ := hW
  have hA : DataW.TrodAll enc Try.prog W 0 (fun _ => true) true Try.f5.params.toList args.toList ds p := hA0
  rw [Try.params5] at hA hval
  obtain ⟨v0, vs0, d0, ds0, p0, q0, hargs, rfl, rfl, h0, r0⟩ := trodAll_cons hA
  obtain ⟨rfl, rfl, rfl⟩ := trodAll_nil r0
  obtain rfl : args = #[v0] := by cases args; simp_all
  obtain ⟨rfl, rfl⟩ := trodVars_none hV
  have k0 := h0
  have lt0 : ∀ x ∈ p0, x.block < W.heap.size := by obtain ⟨m, hm⟩ := k0; exact DataW.trod_lt m _ _ _ hm
  obtain ⟨ok0, op0, imp0⟩ := open0
  obtain ⟨A0, c0, x0, rfl, hc0, hr0, o0⟩ := opens_row Try.underlying54 op0 (hval 0 54 v0 rfl rfl) h0
  have o0 := imp0 _ o0
  clear hA0 hval0 hsz0
  obtain ⟨k, h⟩ := Pure.FnExactAnswersToCell x0 o0
  refine (Q.laws_FnExactAnswersToCell.calls k _ _ x0 true W hr0 hc0 h).mono fun e W' ⟨he, bel0⟩ => ?_
  have bel := bel0
  subst he
  exact ⟨_, rfl, _, _, _, [], _, [], hW', trodAll_mk1 (shut_bool Try.underlying4 _), (trodAll_cons_mk (Below.trod laidOut (by kernel_rfl) (of_decide_eq_true (by kernel_rfl)) k0 bel lt0) trodAll_mk0), rfl, bel.frame _, fun h => by cases h⟩
theorem ovA : Try.pinned.checked.prog.funcNamed Rows.fnExactAnswersToCellRow.func = some 5 := by kernel_rfl
theorem ovB : joinedFacts Try.pinned.checked.prog 5 Try.f5 Rows.fnExactAnswersToCellSpec Rows.fnExactAnswersToCellRow = true := by kernel_rfl
theorem ovC : Try.f5.isInstance Try.pinned.checked.prog Rows.fnExactAnswersToCellRow.origin Rows.fnExactAnswersToCellRow.targs := of_decide_eq_true (by kernel_rfl)
theorem ovD : Try.f5.isWrapper Try.pinned.checked.prog Rows.fnExactAnswersToCellRow.wrapper Rows.fnExactAnswersToCellRow.mainSum := by unfold Func.isWrapper; first | (rw [if_pos (by decide +kernel)]; kernel_rfl) | (rw [if_neg (by decide +kernel)]; exact ⟨rfl, rfl⟩)
theorem over : Rows.fnExactAnswersToCellRow.holds Try.pinned (OpenSpec.ofChange Rows.fnExactAnswersToCellSpec) :=
  OpenClaim.holds_of_wide 5 Try.f5 rfl rfl rfl rfl rfl rfl rfl ⟨rfl, rfl, rfl, rfl, rfl⟩ rfl rfl rfl rfl rfl ovA Try.func5 ovB ovC ovD
    (fun os started H enc _ => lifted os started H enc)
theorem proved : Rows.FnExactAnswersToCellSaid := over
#print axioms proved
end Go.Proofs.Ytgdfnoipcompkaa.fnExactAnswersToCell
namespace Go.Proofs.Ytgdfnoipcompkaa
/-- The row, under a short name, for the claim. -/
theorem fnExactAnswersToCell_holds : Rows.FnExactAnswersToCellSaid := fnExactAnswersToCell.proved
end Go.Proofs.Ytgdfnoipcompkaa
