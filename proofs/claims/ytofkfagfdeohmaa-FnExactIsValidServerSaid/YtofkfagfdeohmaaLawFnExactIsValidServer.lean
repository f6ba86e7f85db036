/- The law FnExactIsValidServer answers true for every input, and leaves its arguments as they were. No condition. -/
import Derived.Test.YtofkfagfdeohmaaRows
import Derived.Test.YtofkfagfdeohmaaQxCPKAAO
import Derived.Test.YtofkfagfdeohmaaPureFnExactIsValidServer
import Derived.Test.YtofkfagfdeohmaaWO
import Derived.WalkKit
import Derived.ProofKit
import Derived.OpenShut
import Derived.ShutString
import Derived.ChangeOld
import Derived.Below
import Derived.SizedLaws
namespace Go.Proofs.Ytofkfagfdeohmaa.fnExactIsValidServer
open Go.ChangeShapes Go.WideShapes Go.ChangeAt Go.RowKit
open Go.Proofs.YtofkfagfdeohmaaW.PrintWords Go.Proofs.YtofkfagfdeohmaaW.PrintWords.QPW Go.Proofs.Ytofkfagfdeohmaa.Q
open Go.ChangeMaps (open_string shut_string)
set_option linter.unusedVariables false
theorem own : ownKnob Try.prog.godebug = none := by kernel_rfl
theorem laidOut : laidOutB Try.prog = true := by kernel_rfl
theorem open0 : ∃ (ok : _ → Prop), Opens Try.prog 61 (Kd.pair (Kd.int .i64) (Kd.pair (Kd.int .i64) (Kd.pair (Kd.int .i64) (Kd.pair (Kd.slice 161 k161) (Kd.int .i64))))) ok ∧ ∀ x_, ok x_ → (((Lit.int .i64 x_.1).wf = true) ∧ (((Lit.int .i64 x_.2.1).wf = true) ∧ (((Lit.int .i64 x_.2.2.1).wf = true) ∧ ((x_.2.2.2.1.length ≤ maxLen ∧ ∀ z155 ∈ x_.2.2.2.1, ((Lit.int .i64 z155.f0).wf = true) ∧ ((z155.f1.f0.length ≤ maxLen ∧ ∀ z156 ∈ z155.f1.f0, z156.length ≤ maxLen ∧ ∀ z157 ∈ z156, (Lit.int .u8 z157).wf = true))) ∧ ((Lit.int .i64 x_.2.2.2.2).wf = true))))) := ⟨_, opens_struct Try.underlying61 (by kernel_rfl) (opensF_cons rfl (by kernel_rfl) (opens_int Try.underlying3) (opensF_cons rfl (by kernel_rfl) (opens_int Try.underlying3) (opensF_cons rfl (by kernel_rfl) (opens_int Try.underlying3) (opensF_cons rfl (by kernel_rfl) (opens_slice Try.underlying59 (by kernel_rfl) (show Opens Try.prog 161 k161 _ from opens_iso (fun x : S161 => (x.f0, x.f1)) (fun a_ => ⟨a_.1, a_.2⟩) (fun _ => rfl) (opens_struct Try.underlying161 (by kernel_rfl) (opensF_cons rfl (by kernel_rfl) (opens_int Try.underlying3) (opensF_one rfl (by kernel_rfl) (show Opens Try.prog 26 k26 _ from opens_iso (fun x : S26 => x.f0) (fun a_ => ⟨a_⟩) (fun _ => rfl) (opens_struct Try.underlying26 (by kernel_rfl) (opensF_one rfl (by kernel_rfl) (opens_slice Try.underlying24 (by kernel_rfl) (opens_slice Try.underlying38 (by kernel_rfl) (opens_int Try.underlying5))))))))))) (opensF_one rfl (by kernel_rfl) (opens_int Try.underlying3)))))), fun x_ h_ => h_⟩
set_option maxRecDepth 100000 in
theorem lifted (os : Os) (started : os.Started) (H : Type) (enc : TypeId × Value → H) :
    ReturnsInHanded {} Try.checked os 8 .any (Rows.fnExactIsValidServerSpec.pre6 enc Try.prog Try.f8 Rows.fnExactIsValidServerRow.domain false) (Rows.fnExactIsValidServerSpec.post enc Try.prog Try.f8 false true false false) := by
  refine returnsInHanded_of_change_sized (C := Try.checked) own started (by kernel_rfl) Try.func8
    (ChangeSpec.witness6 (enc := enc) (C := Try.checked) false ⟨#[], #[.agg #[.int .i64 0, .int .i64 0, .int .i64 0, .slice none 0 0, .int .i64 0]], []⟩ 8 (by kernel_rfl) (by kernel_rfl) (by kernel_rfl) (by kernel_rfl)) ?_
  intro W base args ds gs before hval0 hW hcnd hsz0 _
  have hval : ∀ (j : Nat) t v, Try.f8.params[j]? = some t → args[j]? = some v → Value.okWide Try.prog W .any base t v := hval0
  have hW' := hW
  obtain ⟨p, q, hA0, hV, rfl, hfz, hnd⟩ := hW
  have hA : DataW.TrodAll enc Try.prog W 0 (fun _ => true) true Try.f8.params.toList args.toList ds p := hA0
  rw [Try.params8] at hA hval
  obtain ⟨v0, vs0, d0, ds0, p0, q0, hargs, rfl, rfl, h0, r0⟩ := trodAll_cons hA
  obtain ⟨rfl, rfl, rfl⟩ := trodAll_nil r0
  obtain rfl : args = #[v0] := by cases args; simp_all
  obtain ⟨rfl, rfl⟩ := trodVars_none hV
  have k0 := h0
  have lt0 : ∀ x ∈ p0, x.block < W.heap.size := by obtain ⟨m, hm⟩ := k0; exact DataW.trod_lt m _ _ _ hm
  obtain ⟨ok0, op0, imp0⟩ := open0
  obtain ⟨cs0, x0, rfl, hK0, o0⟩ := opens_top Try.underlying61 op0 (hval 0 61 v0 rfl rfl) h0
  have o0 := imp0 _ o0
  obtain ⟨_, _, rfl, rfl, ⟨_, _, rfl, rfl, ⟨_, _, rfl, rfl, ⟨_, _, rfl, ⟨A0_3, c0_3, rfl, hc0_3, hr0_3⟩, rfl⟩⟩⟩⟩ := hK0
  clear hA0 hval0 hsz0
  obtain ⟨k, h⟩ := Pure.FnExactIsValidServer x0.1 x0.2.1 x0.2.2.1 x0.2.2.2.1 x0.2.2.2.2 o0.1 o0.2.1 o0.2.2.1 o0.2.2.2.1 o0.2.2.2.2
  refine (Q.laws_FnExactIsValidServer.calls k x0.1 x0.2.1 x0.2.2.1 _ _ x0.2.2.2.1 x0.2.2.2.2 true W hr0_3 hc0_3 h).mono fun e W' ⟨he, bel0⟩ => ?_
  have bel := bel0
  subst he
  exact ⟨_, rfl, _, _, _, [], _, [], hW', trodAll_mk1 (shut_bool Try.underlying4 _), (trodAll_cons_mk (Below.trod laidOut (by kernel_rfl) (of_decide_eq_true (by kernel_rfl)) k0 bel lt0) trodAll_mk0), rfl, bel.frame _, fun h => by cases h⟩
theorem over : Rows.fnExactIsValidServerRow.holds Try.pinned (OpenSpec.ofChange Rows.fnExactIsValidServerSpec) :=
  OpenClaim.holds_of_wide 8 Try.f8 rfl rfl rfl rfl rfl rfl rfl ⟨rfl, rfl, rfl, rfl, rfl⟩ rfl rfl rfl rfl rfl (by kernel_rfl) Try.func8 (by kernel_rfl)
    (of_decide_eq_true (by kernel_rfl)) (by unfold Func.isWrapper; first | (rw [if_pos (by decide +kernel)]; kernel_rfl) | (rw [if_neg (by decide +kernel)]; exact ⟨rfl, rfl⟩))
    (fun os started H enc _ => lifted os started H enc)
theorem proved : Rows.FnExactIsValidServerSaid := over
#print axioms proved
end Go.Proofs.Ytofkfagfdeohmaa.fnExactIsValidServer
namespace Go.Proofs.Ytofkfagfdeohmaa
/-- The row, under a short name, for the claim. -/
theorem fnExactIsValidServer_holds : Rows.FnExactIsValidServerSaid := fnExactIsValidServer.proved
end Go.Proofs.Ytofkfagfdeohmaa
