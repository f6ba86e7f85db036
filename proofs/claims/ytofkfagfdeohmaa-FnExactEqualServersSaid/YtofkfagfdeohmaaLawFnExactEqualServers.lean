/- The law FnExactEqualServers answers true for every input, and leaves its arguments as they were. No condition. -/
import Derived.Test.YtofkfagfdeohmaaRows
import Derived.Test.YtofkfagfdeohmaaQxNBHMBM
import Derived.Test.YtofkfagfdeohmaaPureFnExactEqualServers
import Derived.Test.YtofkfagfdeohmaaWO
import Derived.WalkKit
import Derived.ProofKit
import Derived.OpenShut
import Derived.ShutString
import Derived.ChangeOld
import Derived.Below
import Derived.SizedLaws
namespace Go.Proofs.Ytofkfagfdeohmaa.fnExactEqualServers
open Go.ChangeShapes Go.WideShapes Go.ChangeAt Go.RowKit
open Go.Proofs.YtofkfagfdeohmaaW.PrintWords Go.Proofs.YtofkfagfdeohmaaW.PrintWords.QPW Go.Proofs.Ytofkfagfdeohmaa.Q
open Go.ChangeMaps (open_string shut_string)
set_option linter.unusedVariables false
theorem own : ownKnob Try.prog.godebug = none := by kernel_rfl
theorem laidOut : laidOutB Try.prog = true := by kernel_rfl
theorem open0 : ∃ (ok : _ → Prop), Opens Try.prog 61 (Kd.pair (Kd.int .i64) (Kd.pair (Kd.int .i64) (Kd.pair (Kd.int .i64) (Kd.pair (Kd.slice 161 k161) (Kd.int .i64))))) ok ∧ ∀ x_, ok x_ → (((Lit.int .i64 x_.1).wf = true) ∧ (((Lit.int .i64 x_.2.1).wf = true) ∧ (((Lit.int .i64 x_.2.2.1).wf = true) ∧ ((x_.2.2.2.1.length ≤ maxLen ∧ ∀ z159 ∈ x_.2.2.2.1, ((Lit.int .i64 z159.f0).wf = true) ∧ ((z159.f1.f0.length ≤ maxLen ∧ ∀ z160 ∈ z159.f1.f0, z160.length ≤ maxLen ∧ ∀ z161 ∈ z160, (Lit.int .u8 z161).wf = true))) ∧ ((Lit.int .i64 x_.2.2.2.2).wf = true))))) := ⟨_, opens_struct Try.underlying61 (by kernel_rfl) (opensF_cons rfl (by kernel_rfl) (opens_int Try.underlying3) (opensF_cons rfl (by kernel_rfl) (opens_int Try.underlying3) (opensF_cons rfl (by kernel_rfl) (opens_int Try.underlying3) (opensF_cons rfl (by kernel_rfl) (opens_slice Try.underlying59 (by kernel_rfl) (show Opens Try.prog 161 k161 _ from opens_iso (fun x : S161 => (x.f0, x.f1)) (fun a_ => ⟨a_.1, a_.2⟩) (fun _ => rfl) (opens_struct Try.underlying161 (by kernel_rfl) (opensF_cons rfl (by kernel_rfl) (opens_int Try.underlying3) (opensF_one rfl (by kernel_rfl) (show Opens Try.prog 26 k26 _ from opens_iso (fun x : S26 => x.f0) (fun a_ => ⟨a_⟩) (fun _ => rfl) (opens_struct Try.underlying26 (by kernel_rfl) (opensF_one rfl (by kernel_rfl) (opens_slice Try.underlying24 (by kernel_rfl) (opens_slice Try.underlying38 (by kernel_rfl) (opens_int Try.underlying5))))))))))) (opensF_one rfl (by kernel_rfl) (opens_int Try.underlying3)))))), fun x_ h_ => h_⟩
theorem open1 : ∃ (ok : _ → Prop), Opens Try.prog 61 (Kd.pair (Kd.int .i64) (Kd.pair (Kd.int .i64) (Kd.pair (Kd.int .i64) (Kd.pair (Kd.slice 161 k161) (Kd.int .i64))))) ok ∧ ∀ x_, ok x_ → (((Lit.int .i64 x_.1).wf = true) ∧ (((Lit.int .i64 x_.2.1).wf = true) ∧ (((Lit.int .i64 x_.2.2.1).wf = true) ∧ ((x_.2.2.2.1.length ≤ maxLen ∧ ∀ z162 ∈ x_.2.2.2.1, ((Lit.int .i64 z162.f0).wf = true) ∧ ((z162.f1.f0.length ≤ maxLen ∧ ∀ z163 ∈ z162.f1.f0, z163.length ≤ maxLen ∧ ∀ z164 ∈ z163, (Lit.int .u8 z164).wf = true))) ∧ ((Lit.int .i64 x_.2.2.2.2).wf = true))))) := ⟨_, opens_struct Try.underlying61 (by kernel_rfl) (opensF_cons rfl (by kernel_rfl) (opens_int Try.underlying3) (opensF_cons rfl (by kernel_rfl) (opens_int Try.underlying3) (opensF_cons rfl (by kernel_rfl) (opens_int Try.underlying3) (opensF_cons rfl (by kernel_rfl) (opens_slice Try.underlying59 (by kernel_rfl) (show Opens Try.prog 161 k161 _ from opens_iso (fun x : S161 => (x.f0, x.f1)) (fun a_ => ⟨a_.1, a_.2⟩) (fun _ => rfl) (opens_struct Try.underlying161 (by kernel_rfl) (opensF_cons rfl (by kernel_rfl) (opens_int Try.underlying3) (opensF_one rfl (by kernel_rfl) (show Opens Try.prog 26 k26 _ from opens_iso (fun x : S26 => x.f0) (fun a_ => ⟨a_⟩) (fun _ => rfl) (opens_struct Try.underlying26 (by kernel_rfl) (opensF_one rfl (by kernel_rfl) (opens_slice Try.underlying24 (by kernel_rfl) (opens_slice Try.underlying38 (by kernel_rfl) (opens_int Try.underlying5))))))))))) (opensF_one rfl (by kernel_rfl) (opens_int Try.underlying3)))))), fun x_ h_ => h_⟩
set_option maxRecDepth 100000 in
theorem lifted (os : Os) (started : os.Started) (H : Type) (enc : TypeId × Value → H) :
    ReturnsInHanded {} Try.checked os 13 .any (Rows.fnExactEqualServersSpec.pre6 enc Try.prog Try.f13 Rows.fnExactEqualServersRow.domain false) (Rows.fnExactEqualServersSpec.post enc Try.prog Try.f13 false true false false) := by
  refine returnsInHanded_of_change_sized (C := Try.checked) own started (by kernel_rfl) Try.func13
    (ChangeSpec.witness6 (enc := enc) (C := Try.checked) false ⟨#[], #[.agg #[.int .i64 0, .int .i64 0, .int .i64 0, .slice none 0 0, .int .i64 0], .agg #[.int .i64 0, .int .i64 0, .int .i64 0, .slice none 0 0, .int .i64 0]], []⟩ 8 (by kernel_rfl) (by kernel_rfl) (by kernel_rfl) (by kernel_rfl)) ?_
  intro W base args ds gs before hval0 hW hcnd hsz0 _
  have hval : ∀ (j : Nat) t v, Try.f13.params[j]? = some t → args[j]? = some v → Value.okWide Try.prog W .any base t v := hval0
  have hW' := hW
  obtain ⟨p, q, hA0, hV, rfl, hfz, hnd⟩ := hW
  have hA : DataW.TrodAll enc Try.prog W 0 (fun _ => true) true Try.f13.params.toList args.toList ds p := hA0
  rw [Try.params13] at hA hval
  obtain ⟨v0, vs0, d0, ds0, p0, q0, hargs, rfl, rfl, h0, r0⟩ := trodAll_cons hA
  obtain ⟨v1, vs1, d1, ds1, p1, q1, rfl, rfl, rfl, h1, r1⟩ := trodAll_cons r0
  obtain ⟨rfl, rfl, rfl⟩ := trodAll_nil r1
  obtain rfl : args = #[v0, v1] := by cases args; simp_all
  obtain ⟨rfl, rfl⟩ := trodVars_none hV
  have k0 := h0
  have lt0 : ∀ x ∈ p0, x.block < W.heap.size := by obtain ⟨m, hm⟩ := k0; exact DataW.trod_lt m _ _ _ hm
  obtain ⟨ok0, op0, imp0⟩ := open0
  obtain ⟨cs0, x0, rfl, hK0, o0⟩ := opens_top Try.underlying61 op0 (hval 0 61 v0 rfl rfl) h0
  have o0 := imp0 _ o0
  obtain ⟨_, _, rfl, rfl, ⟨_, _, rfl, rfl, ⟨_, _, rfl, rfl, ⟨_, _, rfl, ⟨A0_3, c0_3, rfl, hc0_3, hr0_3⟩, rfl⟩⟩⟩⟩ := hK0
  have k1 := h1
  have lt1 : ∀ x ∈ p1, x.block < W.heap.size := by obtain ⟨m, hm⟩ := k1; exact DataW.trod_lt m _ _ _ hm
  obtain ⟨ok1, op1, imp1⟩ := open1
  obtain ⟨cs1, x1, rfl, hK1, o1⟩ := opens_top Try.underlying61 op1 (hval 1 61 v1 rfl rfl) h1
  have o1 := imp1 _ o1
  obtain ⟨_, _, rfl, rfl, ⟨_, _, rfl, rfl, ⟨_, _, rfl, rfl, ⟨_, _, rfl, ⟨A1_3, c1_3, rfl, hc1_3, hr1_3⟩, rfl⟩⟩⟩⟩ := hK1
  clear hA0 hval0 hsz0
  obtain ⟨k, h⟩ := Pure.FnExactEqualServers x0.1 x0.2.1 x0.2.2.1 x0.2.2.2.1 x0.2.2.2.2 x1.1 x1.2.1 x1.2.2.1 x1.2.2.2.1 x1.2.2.2.2 o0.1 o0.2.1 o0.2.2.1 o0.2.2.2.1 o0.2.2.2.2 o1.1 o1.2.1 o1.2.2.1 o1.2.2.2.1 o1.2.2.2.2
  refine (Q.laws_FnExactEqualServers.calls k x0.1 x0.2.1 x0.2.2.1 _ _ x0.2.2.2.1 x0.2.2.2.2 x1.1 x1.2.1 x1.2.2.1 _ _ x1.2.2.2.1 x1.2.2.2.2 true W hr0_3 hc0_3 hr1_3 hc1_3 h).mono fun e W' ⟨he, bel0⟩ => ?_
  have bel := bel0
  subst he
  exact ⟨_, rfl, _, _, _, [], _, [], hW', trodAll_mk1 (shut_bool Try.underlying4 _), (trodAll_cons_mk (Below.trod laidOut (by kernel_rfl) (of_decide_eq_true (by kernel_rfl)) k0 bel lt0) (trodAll_cons_mk (Below.trod laidOut (by kernel_rfl) (of_decide_eq_true (by kernel_rfl)) k1 bel lt1) trodAll_mk0)), rfl, bel.frame _, fun h => by cases h⟩
theorem ovA : Try.pinned.checked.prog.funcNamed Rows.fnExactEqualServersRow.func = some 13 := by kernel_rfl
theorem ovB : joinedFacts Try.pinned.checked.prog 13 Try.f13 Rows.fnExactEqualServersSpec Rows.fnExactEqualServersRow = true := by kernel_rfl
theorem ovC : Try.f13.isInstance Try.pinned.checked.prog Rows.fnExactEqualServersRow.origin Rows.fnExactEqualServersRow.targs := of_decide_eq_true (by kernel_rfl)
theorem ovD : Try.f13.isWrapper Try.pinned.checked.prog Rows.fnExactEqualServersRow.wrapper Rows.fnExactEqualServersRow.mainSum := by unfold Func.isWrapper; first | (rw [if_pos (by decide +kernel)]; kernel_rfl) | (rw [if_neg (by decide +kernel)]; exact ⟨rfl, rfl⟩)
theorem over : Rows.fnExactEqualServersRow.holds Try.pinned (OpenSpec.ofChange Rows.fnExactEqualServersSpec) :=
  OpenClaim.holds_of_wide 13 Try.f13 rfl rfl rfl rfl rfl rfl rfl ⟨rfl, rfl, rfl, rfl, rfl⟩ rfl rfl rfl rfl rfl ovA Try.func13 ovB ovC ovD
    (fun os started H enc _ => lifted os started H enc)
theorem proved : Rows.FnExactEqualServersSaid := over
#print axioms proved
end Go.Proofs.Ytofkfagfdeohmaa.fnExactEqualServers
namespace Go.Proofs.Ytofkfagfdeohmaa
/-- The row, under a short name, for the claim. -/
theorem fnExactEqualServers_holds : Rows.FnExactEqualServersSaid := fnExactEqualServers.proved
end Go.Proofs.Ytofkfagfdeohmaa
