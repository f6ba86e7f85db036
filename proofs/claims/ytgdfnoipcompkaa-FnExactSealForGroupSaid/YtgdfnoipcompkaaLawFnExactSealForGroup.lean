/- The law FnExactSealForGroup answers true for every input, and leaves its arguments as they were. No condition. -/
import Derived.Test.YtgdfnoipcompkaaRows
import Derived.Test.YtgdfnoipcompkaaQxEOPEFH
import Derived.Test.YtgdfnoipcompkaaPureFnExactSealForGroup
import Derived.Test.YtgdfnoipcompkaaWO
import Derived.WalkKit
import Derived.ProofKit
import Derived.OpenShut
import Derived.ShutString
import Derived.ChangeOld
import Derived.Below
import Derived.SizedLaws
namespace Go.Proofs.Ytgdfnoipcompkaa.fnExactSealForGroup
open Go.ChangeShapes Go.WideShapes Go.ChangeAt Go.RowKit
open Go.Proofs.YtgdfnoipcompkaaW.PrintWords Go.Proofs.YtgdfnoipcompkaaW.PrintWords.QPW Go.Proofs.Ytgdfnoipcompkaa.Q
open Go.ChangeMaps (open_string shut_string)
set_option linter.unusedVariables false
theorem own : ownKnob Try.prog.godebug = none := by kernel_rfl
theorem laidOut : laidOutB Try.prog = true := by kernel_rfl
theorem open0 : ∃ (ok : _ → Prop), Opens Try.prog 45 (Kd.pair (Kd.int .i64) (Kd.pair (Kd.int .i64) (Kd.pair (Kd.int .i64) (Kd.slice 3 (Kd.int .i64))))) ok ∧ ∀ x_, ok x_ → (((Lit.int .i64 x_.1).wf = true) ∧ (((Lit.int .i64 x_.2.1).wf = true) ∧ (((Lit.int .i64 x_.2.2.1).wf = true) ∧ (x_.2.2.2.length ≤ maxLen ∧ ∀ z168 ∈ x_.2.2.2, (Lit.int .i64 z168).wf = true)))) := ⟨_, opens_struct Try.underlying45 (by kernel_rfl) (opensF_cons rfl (by kernel_rfl) (opens_int Try.underlying3) (opensF_cons rfl (by kernel_rfl) (opens_int Try.underlying3) (opensF_cons rfl (by kernel_rfl) (opens_int Try.underlying3) (opensF_one rfl (by kernel_rfl) (opens_slice Try.underlying43 (by kernel_rfl) (opens_int Try.underlying3)))))), fun x_ h_ => h_⟩
theorem open3 : ∃ (ok : _ → Prop), Opens Try.prog 25 (Kd.slice 5 (Kd.int .u8)) ok ∧ ∀ x_, ok x_ → x_.length ≤ maxLen ∧ ∀ z169 ∈ x_, (Lit.int .u8 z169).wf = true := ⟨_, (opens_slice Try.underlying25 (by kernel_rfl) (opens_int Try.underlying5)), fun x_ h_ => h_⟩
set_option maxRecDepth 100000 in
theorem lifted (os : Os) (started : os.Started) (H : Type) (enc : TypeId × Value → H) :
    ReturnsInHanded {} Try.checked os 14 .any (Rows.fnExactSealForGroupSpec.pre6 enc Try.prog Try.f14 Rows.fnExactSealForGroupRow.domain false) (Rows.fnExactSealForGroupSpec.post enc Try.prog Try.f14 false true false false) := by
  refine returnsInHanded_of_change_sized (C := Try.checked) own started (by kernel_rfl) Try.func14
    (ChangeSpec.witness6 (enc := enc) (C := Try.checked) false ⟨#[], #[.agg #[.int .i64 0, .int .i64 0, .int .i64 0, .slice none 0 0], .int .i64 0, .int .i64 0, .slice none 0 0], []⟩ 8 (by kernel_rfl) (by kernel_rfl) (by kernel_rfl) (by kernel_rfl)) ?_
  intro W base args ds gs before hval0 hW hcnd hsz0 _
  have hval : ∀ (j : Nat) t v, Try.f14.params[j]? = some t → args[j]? = some v → Value.okWide Try.prog W .any base t v := hval0
  have hW' := hW
  obtain ⟨p, q, hA0, hV, rfl, hfz, hnd⟩ := hW
  have hA : DataW.TrodAll enc Try.prog W 0 (fun _ => true) true Try.f14.params.toList args.toList ds p := hA0
  rw [Try.params14] at hA hval
  obtain ⟨v0, vs0, d0, ds0, p0, q0, hargs, rfl, rfl, h0, r0⟩ := trodAll_cons hA
  obtain ⟨v1, vs1, d1, ds1, p1, q1, rfl, rfl, rfl, h1, r1⟩ := trodAll_cons r0
  obtain ⟨v2, vs2, d2, ds2, p2, q2, rfl, rfl, rfl, h2, r2⟩ := trodAll_cons r1
  obtain ⟨v3, vs3, d3, ds3, p3, q3, rfl, rfl, rfl, h3, r3⟩ := trodAll_cons r2
  obtain ⟨rfl, rfl, rfl⟩ := trodAll_nil r3
  obtain rfl : args = #[v0, v1, v2, v3] := by cases args; simp_all
  obtain ⟨rfl, rfl⟩ := trodVars_none hV
  have k0 := h0
  have lt0 : ∀ x ∈ p0, x.block < W.heap.size := by obtain ⟨m, hm⟩ := k0; exact DataW.trod_lt m _ _ _ hm
  obtain ⟨ok0, op0, imp0⟩ := open0
  obtain ⟨cs0, x0, rfl, hK0, o0⟩ := opens_top Try.underlying45 op0 (hval 0 45 v0 rfl rfl) h0
  have o0 := imp0 _ o0
  obtain ⟨_, _, rfl, rfl, ⟨_, _, rfl, rfl, ⟨_, _, rfl, rfl, ⟨A0_3, c0_3, rfl, hc0_3, hr0_3⟩⟩⟩⟩ := hK0
  obtain ⟨a1, rfl, rfl, rfl, w1⟩ := open_int Try.underlying3 (hval 1 3 v1 rfl rfl) h1
  obtain ⟨a2, rfl, rfl, rfl, w2⟩ := open_int Try.underlying3 (hval 2 3 v2 rfl rfl) h2
  have k3 := h3
  have lt3 : ∀ x ∈ p3, x.block < W.heap.size := by obtain ⟨m, hm⟩ := k3; exact DataW.trod_lt m _ _ _ hm
  obtain ⟨ok3, op3, imp3⟩ := open3
  obtain ⟨A3, c3, x3, rfl, hc3, hr3, o3⟩ := opens_row Try.underlying25 op3 (hval 3 25 v3 rfl rfl) h3
  have o3 := imp3 _ o3
  clear hA0 hval0 hsz0
  obtain ⟨k, h⟩ := Pure.FnExactSealForGroup x0.1 x0.2.1 x0.2.2.1 x0.2.2.2 a1 a2 x3 o0.1 o0.2.1 o0.2.2.1 o0.2.2.2 w1 w2 o3
  refine (Q.laws_FnExactSealForGroup.calls k x0.1 x0.2.1 x0.2.2.1 _ _ x0.2.2.2 a1 a2 _ _ x3 true W hr0_3 hc0_3 hr3 hc3 h).mono fun e W' ⟨he, bel0⟩ => ?_
  have bel := bel0
  subst he
  exact ⟨_, rfl, _, _, _, [], _, [], hW', trodAll_mk1 (shut_bool Try.underlying4 _), (trodAll_cons_mk (Below.trod laidOut (by kernel_rfl) (of_decide_eq_true (by kernel_rfl)) k0 bel lt0) (trodAll_cons_mk (shut_int Try.underlying3 w1) (trodAll_cons_mk (shut_int Try.underlying3 w2) (trodAll_cons_mk (Below.trod laidOut (by kernel_rfl) (of_decide_eq_true (by kernel_rfl)) k3 bel lt3) trodAll_mk0)))), rfl, bel.frame _, fun h => by cases h⟩
theorem ovA : Try.pinned.checked.prog.funcNamed Rows.fnExactSealForGroupRow.func = some 14 := by kernel_rfl
theorem ovB : joinedFacts Try.pinned.checked.prog 14 Try.f14 Rows.fnExactSealForGroupSpec Rows.fnExactSealForGroupRow = true := by kernel_rfl
theorem ovC : Try.f14.isInstance Try.pinned.checked.prog Rows.fnExactSealForGroupRow.origin Rows.fnExactSealForGroupRow.targs := of_decide_eq_true (by kernel_rfl)
theorem ovD : Try.f14.isWrapper Try.pinned.checked.prog Rows.fnExactSealForGroupRow.wrapper Rows.fnExactSealForGroupRow.mainSum := by unfold Func.isWrapper; first | (rw [if_pos (by decide +kernel)]; kernel_rfl) | (rw [if_neg (by decide +kernel)]; exact ⟨rfl, rfl⟩)
theorem over : Rows.fnExactSealForGroupRow.holds Try.pinned (OpenSpec.ofChange Rows.fnExactSealForGroupSpec) :=
  OpenClaim.holds_of_wide 14 Try.f14 rfl rfl rfl rfl rfl rfl rfl ⟨rfl, rfl, rfl, rfl, rfl⟩ rfl rfl rfl rfl rfl ovA Try.func14 ovB ovC ovD
    (fun os started H enc _ => lifted os started H enc)
theorem proved : Rows.FnExactSealForGroupSaid := over
#print axioms proved
end Go.Proofs.Ytgdfnoipcompkaa.fnExactSealForGroup
namespace Go.Proofs.Ytgdfnoipcompkaa
/-- The row, under a short name, for the claim. -/
theorem fnExactSealForGroup_holds : Rows.FnExactSealForGroupSaid := fnExactSealForGroup.proved
end Go.Proofs.Ytgdfnoipcompkaa
