/- The law FnExactCutFile answers true for every input, and leaves its arguments as they were. No condition. -/
import Derived.Test.YtofkfagfdeohmaaRows
import Derived.Test.YtofkfagfdeohmaaQxGEPDFJ
import Derived.Test.YtofkfagfdeohmaaPureFnExactCutFile
import Derived.Test.YtofkfagfdeohmaaWO
import Derived.WalkKit
import Derived.ProofKit
import Derived.OpenShut
import Derived.ShutString
import Derived.ChangeOld
import Derived.Below
import Derived.SizedLaws
namespace Go.Proofs.Ytofkfagfdeohmaa.fnExactCutFile
open Go.ChangeShapes Go.WideShapes Go.ChangeAt Go.RowKit
open Go.Proofs.YtofkfagfdeohmaaW.PrintWords Go.Proofs.YtofkfagfdeohmaaW.PrintWords.QPW Go.Proofs.Ytofkfagfdeohmaa.Q
open Go.ChangeMaps (open_string shut_string)
set_option linter.unusedVariables false
theorem own : ownKnob Try.prog.godebug = none := by kernel_rfl
theorem laidOut : laidOutB Try.prog = true := by kernel_rfl
theorem open0 : ∃ (ok : _ → Prop), Opens Try.prog 38 (Kd.slice 5 (Kd.int .u8)) ok ∧ ∀ x_, ok x_ → x_.length ≤ maxLen ∧ ∀ z158 ∈ x_, (Lit.int .u8 z158).wf = true := ⟨_, (opens_slice Try.underlying38 (by kernel_rfl) (opens_int Try.underlying5)), fun x_ h_ => h_⟩
set_option maxRecDepth 100000 in
theorem lifted (os : Os) (started : os.Started) (H : Type) (enc : TypeId × Value → H) :
    ReturnsInHanded {} Try.checked os 11 .any (Rows.fnExactCutFileSpec.pre6 enc Try.prog Try.f11 Rows.fnExactCutFileRow.domain false) (Rows.fnExactCutFileSpec.post enc Try.prog Try.f11 false true false false) := by
  refine returnsInHanded_of_change_sized (C := Try.checked) own started (by kernel_rfl) Try.func11
    (ChangeSpec.witness6 (enc := enc) (C := Try.checked) false ⟨#[], #[.slice none 0 0], []⟩ 8 (by kernel_rfl) (by kernel_rfl) (by kernel_rfl) (by kernel_rfl)) ?_
  intro W base args ds gs before hval0 hW hcnd hsz0 _
  have hval : ∀ (j : Nat) t v, Try.f11.params[j]? = some t → args[j]? = some v → Value.okWide Try.prog W .any base t v := hval0
  have hW' := hW
  obtain ⟨p, q, hA0, hV, rfl, hfz, hnd⟩ := hW
  have hA : DataW.TrodAll enc Try.prog W 0 (fun _ => true) true Try.f11.params.toList args.toList ds p := hA0
  rw [Try.params11] at hA hval
  obtain ⟨v0, vs0, d0, ds0, p0, q0, hargs, rfl, rfl, h0, r0⟩ := trodAll_cons hA
  obtain ⟨rfl, rfl, rfl⟩ := trodAll_nil r0
  obtain rfl : args = #[v0] := by cases args; simp_all
  obtain ⟨rfl, rfl⟩ := trodVars_none hV
  have k0 := h0
  have lt0 : ∀ x ∈ p0, x.block < W.heap.size := by obtain ⟨m, hm⟩ := k0; exact DataW.trod_lt m _ _ _ hm
  obtain ⟨ok0, op0, imp0⟩ := open0
  obtain ⟨A0, c0, x0, rfl, hc0, hr0, o0⟩ := opens_row Try.underlying38 op0 (hval 0 38 v0 rfl rfl) h0
  have o0 := imp0 _ o0
  clear hA0 hval0 hsz0
  obtain ⟨k, h⟩ := Pure.FnExactCutFile x0 o0
  refine (Q.laws_FnExactCutFile.calls k _ _ x0 true W hr0 hc0 h).mono fun e W' ⟨he, bel0⟩ => ?_
  have bel := bel0
  subst he
  exact ⟨_, rfl, _, _, _, [], _, [], hW', trodAll_mk1 (shut_bool Try.underlying4 _), (trodAll_cons_mk (Below.trod laidOut (by kernel_rfl) (of_decide_eq_true (by kernel_rfl)) k0 bel lt0) trodAll_mk0), rfl, bel.frame _, fun h => by cases h⟩
theorem ovA : Try.pinned.checked.prog.funcNamed Rows.fnExactCutFileRow.func = some 11 := by kernel_rfl
theorem ovB : joinedFacts Try.pinned.checked.prog 11 Try.f11 Rows.fnExactCutFileSpec Rows.fnExactCutFileRow = true := by kernel_rfl
theorem ovC : Try.f11.isInstance Try.pinned.checked.prog Rows.fnExactCutFileRow.origin Rows.fnExactCutFileRow.targs := of_decide_eq_true (by kernel_rfl)
theorem ovD : Try.f11.isWrapper Try.pinned.checked.prog Rows.fnExactCutFileRow.wrapper Rows.fnExactCutFileRow.mainSum := by unfold Func.isWrapper; first | (rw [if_pos (by decide +kernel)]; kernel_rfl) | (rw [if_neg (by decide +kernel)]; exact ⟨rfl, rfl⟩)
theorem over : Rows.fnExactCutFileRow.holds Try.pinned (OpenSpec.ofChange Rows.fnExactCutFileSpec) :=
  OpenClaim.holds_of_wide 11 Try.f11 rfl rfl rfl rfl rfl rfl rfl ⟨rfl, rfl, rfl, rfl, rfl⟩ rfl rfl rfl rfl rfl ovA Try.func11 ovB ovC ovD
    (fun os started H enc _ => lifted os started H enc)
theorem proved : Rows.FnExactCutFileSaid := over
#print axioms proved
end Go.Proofs.Ytofkfagfdeohmaa.fnExactCutFile
namespace Go.Proofs.Ytofkfagfdeohmaa
/-- The row, under a short name, for the claim. -/
theorem fnExactCutFile_holds : Rows.FnExactCutFileSaid := fnExactCutFile.proved
end Go.Proofs.Ytofkfagfdeohmaa
