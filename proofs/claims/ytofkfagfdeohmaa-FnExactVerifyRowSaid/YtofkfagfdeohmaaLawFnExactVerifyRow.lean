/- The law FnExactVerifyRow answers true for every input, and leaves its arguments as they were. No condition. -/
import Derived.Test.YtofkfagfdeohmaaRows
import Derived.Test.YtofkfagfdeohmaaQxLKKLJI
import Derived.Test.YtofkfagfdeohmaaPureFnExactVerifyRow
import Derived.Test.YtofkfagfdeohmaaWO
import Derived.WalkKit
import Derived.ProofKit
import Derived.OpenShut
import Derived.ShutString
import Derived.ChangeOld
import Derived.Below
import Derived.SizedLaws
namespace Go.Proofs.Ytofkfagfdeohmaa.fnExactVerifyRow
open Go.ChangeShapes Go.WideShapes Go.ChangeAt Go.RowKit
open Go.Proofs.YtofkfagfdeohmaaW.PrintWords Go.Proofs.YtofkfagfdeohmaaW.PrintWords.QPW Go.Proofs.Ytofkfagfdeohmaa.Q
open Go.ChangeMaps (open_string shut_string)
set_option linter.unusedVariables false
theorem own : ownKnob Try.prog.godebug = none := by kernel_rfl
theorem laidOut : laidOutB Try.prog = true := by kernel_rfl
theorem open2 : ∃ (ok : _ → Prop), Opens Try.prog 37 (Kd.pair (Kd.int .i64) (Kd.slice 3 (Kd.int .i64))) ok ∧ ∀ x_, ok x_ → (((Lit.int .i64 x_.1).wf = true) ∧ (x_.2.length ≤ maxLen ∧ ∀ z147 ∈ x_.2, (Lit.int .i64 z147).wf = true)) := ⟨_, opens_struct Try.underlying37 (by kernel_rfl) (opensF_cons rfl (by kernel_rfl) (opens_int Try.underlying3) (opensF_one rfl (by kernel_rfl) (opens_slice Try.underlying35 (by kernel_rfl) (opens_int Try.underlying3)))), fun x_ h_ => h_⟩
theorem open3 : ∃ (ok : _ → Prop), Opens Try.prog 38 (Kd.slice 5 (Kd.int .u8)) ok ∧ ∀ x_, ok x_ → x_.length ≤ maxLen ∧ ∀ z148 ∈ x_, (Lit.int .u8 z148).wf = true := ⟨_, (opens_slice Try.underlying38 (by kernel_rfl) (opens_int Try.underlying5)), fun x_ h_ => h_⟩
set_option maxRecDepth 100000 in
theorem lifted (os : Os) (started : os.Started) (H : Type) (enc : TypeId × Value → H) :
    ReturnsInHanded {} Try.checked os 4 .any (Rows.fnExactVerifyRowSpec.pre6 enc Try.prog Try.f4 Rows.fnExactVerifyRowRow.domain false) (Rows.fnExactVerifyRowSpec.post enc Try.prog Try.f4 false true false false) := by
  refine returnsInHanded_of_change_sized (C := Try.checked) own started (by kernel_rfl) Try.func4
    (ChangeSpec.witness6 (enc := enc) (C := Try.checked) false ⟨#[], #[.int .i64 0, .int .i64 0, .agg #[.int .i64 0, .slice none 0 0], .slice none 0 0], []⟩ 8 (by kernel_rfl) (by kernel_rfl) (by kernel_rfl) (by kernel_rfl)) ?_
  intro W base args ds gs before hval0 hW hcnd hsz0 _
  have hval : ∀ (j : Nat) t v, Try.f4.params[j]? = some t → args[j]? = some v → Value.okWide Try.prog W .any base t v := hval0
  have hW' := hW
  obtain ⟨p, q, hA0, hV, rfl, hfz, hnd⟩ := hW
  have hA : DataW.TrodAll enc Try.prog W 0 (fun _ => true) true Try.f4.params.toList args.toList ds p := hA0
  rw [Try.params4] at hA hval
  obtain ⟨v0, vs0, d0, ds0, p0, q0, hargs, rfl, rfl, h0, r0⟩ := trodAll_cons hA
  obtain ⟨v1, vs1, d1, ds1, p1, q1, rfl, rfl, rfl, h1, r1⟩ := trodAll_cons r0
  obtain ⟨v2, vs2, d2, ds2, p2, q2, rfl, rfl, rfl, h2, r2⟩ := trodAll_cons r1
  obtain ⟨v3, vs3, d3, ds3, p3, q3, rfl, rfl, rfl, h3, r3⟩ := trodAll_cons r2
  obtain ⟨rfl, rfl, rfl⟩ := trodAll_nil r3
  obtain rfl : args = #[v0, v1, v2, v3] := by cases args; simp_all
  obtain ⟨rfl, rfl⟩ := trodVars_none hV
  obtain ⟨a0, rfl, rfl, rfl, w0⟩ := open_int Try.underlying3 (hval 0 3 v0 rfl rfl) h0
  obtain ⟨a1, rfl, rfl, rfl, w1⟩ := open_int Try.underlying3 (hval 1 3 v1 rfl rfl) h1
  have k2 := h2
  have lt2 : ∀ x ∈ p2, x.block < W.heap.size := by obtain ⟨m, hm⟩ := k2; exact DataW.trod_lt m _ _ _ hm
  obtain ⟨ok2, op2, imp2⟩ := open2
  obtain ⟨cs2, x2, rfl, hK2, o2⟩ := opens_top Try.underlying37 op2 (hval 2 37 v2 rfl rfl) h2
  have o2 := imp2 _ o2
  obtain ⟨_, _, rfl, rfl, ⟨A2_1, c2_1, rfl, hc2_1, hr2_1⟩⟩ := hK2
  have k3 := h3
  have lt3 : ∀ x ∈ p3, x.block < W.heap.size := by obtain ⟨m, hm⟩ := k3; exact DataW.trod_lt m _ _ _ hm
  obtain ⟨ok3, op3, imp3⟩ := open3
  obtain ⟨A3, c3, x3, rfl, hc3, hr3, o3⟩ := opens_row Try.underlying38 op3 (hval 3 38 v3 rfl rfl) h3
  have o3 := imp3 _ o3
  clear hA0 hval0 hsz0
  obtain ⟨k, h⟩ := Pure.FnExactVerifyRow a0 a1 x2.1 x2.2 x3 w0 w1 o2.1 o2.2 o3
  refine (Q.laws_FnExactVerifyRow.calls k a0 a1 x2.1 _ _ x2.2 _ _ x3 true W hr2_1 hc2_1 hr3 hc3 h).mono fun e W' ⟨he, bel0⟩ => ?_
  have bel := bel0
  subst he
  exact ⟨_, rfl, _, _, _, [], _, [], hW', trodAll_mk1 (shut_bool Try.underlying4 _), (trodAll_cons_mk (shut_int Try.underlying3 w0) (trodAll_cons_mk (shut_int Try.underlying3 w1) (trodAll_cons_mk (Below.trod laidOut (by kernel_rfl) (of_decide_eq_true (by kernel_rfl)) k2 bel lt2) (trodAll_cons_mk (Below.trod laidOut (by kernel_rfl) (of_decide_eq_true (by kernel_rfl)) k3 bel lt3) trodAll_mk0)))), rfl, bel.frame _, fun h => by cases h⟩
theorem over : Rows.fnExactVerifyRowRow.holds Try.pinned (OpenSpec.ofChange Rows.fnExactVerifyRowSpec) :=
  OpenClaim.holds_of_wide 4 Try.f4 rfl rfl rfl rfl rfl rfl rfl ⟨rfl, rfl, rfl, rfl, rfl⟩ rfl rfl rfl rfl rfl (by kernel_rfl) Try.func4 (by kernel_rfl)
    (of_decide_eq_true (by kernel_rfl)) (by unfold Func.isWrapper; first | (rw [if_pos (by decide +kernel)]; kernel_rfl) | (rw [if_neg (by decide +kernel)]; exact ⟨rfl, rfl⟩))
    (fun os started H enc _ => lifted os started H enc)
theorem proved : Rows.FnExactVerifyRowSaid := over
#print axioms proved
end Go.Proofs.Ytofkfagfdeohmaa.fnExactVerifyRow
namespace Go.Proofs.Ytofkfagfdeohmaa
/-- The row, under a short name, for the claim. -/
theorem fnExactVerifyRow_holds : Rows.FnExactVerifyRowSaid := fnExactVerifyRow.proved
end Go.Proofs.Ytofkfagfdeohmaa
