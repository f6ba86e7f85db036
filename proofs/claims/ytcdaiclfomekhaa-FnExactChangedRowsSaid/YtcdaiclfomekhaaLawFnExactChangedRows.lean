/- The law FnExactChangedRows answers true for every input, and leaves its arguments as they were. No condition. -/
import Derived.Test.YtcdaiclfomekhaaRows
import Derived.Test.YtcdaiclfomekhaaQxFLMPDL
import Derived.Test.YtcdaiclfomekhaaPureFnExactChangedRows
import Derived.Test.YtcdaiclfomekhaaWO
import Derived.WalkKit
import Derived.ProofKit
import Derived.OpenShut
import Derived.ShutString
import Derived.ChangeOld
import Derived.Below
import Derived.SizedLaws
namespace Go.Proofs.Ytcdaiclfomekhaa.fnExactChangedRows
open Go.ChangeShapes Go.WideShapes Go.ChangeAt Go.RowKit
open Go.Proofs.YtcdaiclfomekhaaW.PrintWords Go.Proofs.YtcdaiclfomekhaaW.PrintWords.QPW Go.Proofs.Ytcdaiclfomekhaa.Q
open Go.ChangeMaps (open_string shut_string)
set_option linter.unusedVariables false
theorem own : ownKnob Try.prog.godebug = none := by kernel_rfl
theorem laidOut : laidOutB Try.prog = true := by kernel_rfl
theorem open0 : ∃ (ok : _ → Prop), Opens Try.prog 93 (Kd.slice 22 (Kd.slice 5 (Kd.int .u8))) ok ∧ ∀ x_, ok x_ → (x_.length ≤ maxLen ∧ ∀ z121 ∈ x_, z121.length ≤ maxLen ∧ ∀ z122 ∈ z121, (Lit.int .u8 z122).wf = true) := ⟨_, opens_struct Try.underlying93 (by kernel_rfl) (opensF_one rfl (by kernel_rfl) (opens_slice Try.underlying36 (by kernel_rfl) (opens_slice Try.underlying22 (by kernel_rfl) (opens_int Try.underlying5)))), fun x_ h_ => h_⟩
theorem open1 : ∃ (ok : _ → Prop), Opens Try.prog 93 (Kd.slice 22 (Kd.slice 5 (Kd.int .u8))) ok ∧ ∀ x_, ok x_ → (x_.length ≤ maxLen ∧ ∀ z123 ∈ x_, z123.length ≤ maxLen ∧ ∀ z124 ∈ z123, (Lit.int .u8 z124).wf = true) := ⟨_, opens_struct Try.underlying93 (by kernel_rfl) (opensF_one rfl (by kernel_rfl) (opens_slice Try.underlying36 (by kernel_rfl) (opens_slice Try.underlying22 (by kernel_rfl) (opens_int Try.underlying5)))), fun x_ h_ => h_⟩
set_option maxRecDepth 100000 in
theorem lifted (os : Os) (started : os.Started) (H : Type) (enc : TypeId × Value → H) :
    ReturnsInHanded {} Try.checked os 14 .any (Rows.fnExactChangedRowsSpec.pre6 enc Try.prog Try.f14 Rows.fnExactChangedRowsRow.domain false) (Rows.fnExactChangedRowsSpec.post enc Try.prog Try.f14 false true false false) := by
  refine returnsInHanded_of_change_sized (C := Try.checked) own started (by kernel_rfl) Try.func14
    (ChangeSpec.witness6 (enc := enc) (C := Try.checked) false ⟨#[], #[.agg #[.slice none 0 0], .agg #[.slice none 0 0]], []⟩ 8 (by kernel_rfl) (by kernel_rfl) (by kernel_rfl) (by kernel_rfl)) ?_
  intro W base args ds gs before hval0 hW hcnd hsz0 _
  have hval : ∀ (j : Nat) t v, Try.f14.params[j]? = some t → args[j]? = some v → Value.okWide Try.prog W .any base t v := hval0
  have hW' := hW
  obtain ⟨p, q, hA0, hV, rfl, hfz, hnd⟩ := hW
  have hA : DataW.TrodAll enc Try.prog W 0 (fun _ => true) true Try.f14.params.toList args.toList ds p := hA0
  rw [Try.params14] at hA hval
  obtain ⟨v0, vs0, d0, ds0, p0, q0, hargs, rfl, rfl, h0, r0⟩ := trodAll_cons hA
  obtain ⟨v1, vs1, d1, ds1, p1, q1, rfl, rfl, rfl, h1, r1⟩ := trodAll_cons r0
  obtain ⟨rfl, rfl, rfl⟩ := trodAll_nil r1
  obtain rfl : args = #[v0, v1] := by cases args; simp_all
  obtain ⟨rfl, rfl⟩ := trodVars_none hV
  have k0 := h0
  have lt0 : ∀ x ∈ p0, x.block < W.heap.size := by obtain ⟨m, hm⟩ := k0; exact DataW.trod_lt m _ _ _ hm
  obtain ⟨ok0, op0, imp0⟩ := open0
  obtain ⟨cs0, x0, rfl, hK0, o0⟩ := opens_top Try.underlying93 op0 (hval 0 93 v0 rfl rfl) h0
  have o0 := imp0 _ o0
  obtain ⟨A0_0, c0_0, rfl, hc0_0, hr0_0⟩ := hK0
  have k1 := h1
  have lt1 : ∀ x ∈ p1, x.block < W.heap.size := by obtain ⟨m, hm⟩ := k1; exact DataW.trod_lt m _ _ _ hm
  obtain ⟨ok1, op1, imp1⟩ := open1
  obtain ⟨cs1, x1, rfl, hK1, o1⟩ := opens_top Try.underlying93 op1 (hval 1 93 v1 rfl rfl) h1
  have o1 := imp1 _ o1
  obtain ⟨A1_0, c1_0, rfl, hc1_0, hr1_0⟩ := hK1
  clear hA0 hval0 hsz0
  obtain ⟨k, h⟩ := Pure.FnExactChangedRows x0 x1 o0 o1
  refine (Q.laws_FnExactChangedRows.calls k _ _ x0 _ _ x1 true W hr0_0 hc0_0 hr1_0 hc1_0 h).mono fun e W' ⟨he, bel0⟩ => ?_
  have bel := bel0
  subst he
  exact ⟨_, rfl, _, _, _, [], _, [], hW', trodAll_mk1 (shut_bool Try.underlying4 _), (trodAll_cons_mk (Below.trod laidOut (by kernel_rfl) (of_decide_eq_true (by kernel_rfl)) k0 bel lt0) (trodAll_cons_mk (Below.trod laidOut (by kernel_rfl) (of_decide_eq_true (by kernel_rfl)) k1 bel lt1) trodAll_mk0)), rfl, bel.frame _, fun h => by cases h⟩
theorem ovA : Try.pinned.checked.prog.funcNamed Rows.fnExactChangedRowsRow.func = some 14 := by kernel_rfl
theorem ovB : joinedFacts Try.pinned.checked.prog 14 Try.f14 Rows.fnExactChangedRowsSpec Rows.fnExactChangedRowsRow = true := by kernel_rfl
theorem ovC : Try.f14.isInstance Try.pinned.checked.prog Rows.fnExactChangedRowsRow.origin Rows.fnExactChangedRowsRow.targs := of_decide_eq_true (by kernel_rfl)
theorem ovD : Try.f14.isWrapper Try.pinned.checked.prog Rows.fnExactChangedRowsRow.wrapper Rows.fnExactChangedRowsRow.mainSum := by unfold Func.isWrapper; first | (rw [if_pos (by decide +kernel)]; kernel_rfl) | (rw [if_neg (by decide +kernel)]; exact ⟨rfl, rfl⟩)
theorem over : Rows.fnExactChangedRowsRow.holds Try.pinned (OpenSpec.ofChange Rows.fnExactChangedRowsSpec) :=
  OpenClaim.holds_of_wide 14 Try.f14 rfl rfl rfl rfl rfl rfl rfl ⟨rfl, rfl, rfl, rfl, rfl⟩ rfl rfl rfl rfl rfl ovA Try.func14 ovB ovC ovD
    (fun os started H enc _ => lifted os started H enc)
theorem proved : Rows.FnExactChangedRowsSaid := over
#print axioms proved
end Go.Proofs.Ytcdaiclfomekhaa.fnExactChangedRows
namespace Go.Proofs.Ytcdaiclfomekhaa
/-- The row, under a short name, for the claim. -/
theorem fnExactChangedRows_holds : Rows.FnExactChangedRowsSaid := fnExactChangedRows.proved
end Go.Proofs.Ytcdaiclfomekhaa
