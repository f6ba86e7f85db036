/- The law FnExactRowHash answers true for every input, and leaves its arguments as they were. No condition. -/
import Derived.Test.YtbffeiakdigdmaaRows
import Derived.Test.YtbffeiakdigdmaaQx6
import Derived.Test.YtbffeiakdigdmaaPureFnExactRowHash
import Derived.Test.YtbffeiakdigdmaaWO
import Derived.WalkKit
import Derived.ProofKit
import Derived.OpenShut
import Derived.ShutString
import Derived.ChangeOld
import Derived.Below
import Derived.SizedLaws
namespace Go.Proofs.Ytbffeiakdigdmaa.fnExactRowHash
open Go.ChangeShapes Go.WideShapes Go.ChangeAt Go.RowKit
open Go.Proofs.YtbffeiakdigdmaaW.PrintWords Go.Proofs.YtbffeiakdigdmaaW.PrintWords.QPW Go.Proofs.Ytbffeiakdigdmaa.Q
open Go.ChangeMaps (open_string shut_string)
set_option linter.unusedVariables false
theorem own : ownKnob Try.prog.godebug = none := by kernel_rfl
theorem laidOut : laidOutB Try.prog = true := by kernel_rfl
theorem open1 : ∃ (ok : _ → Prop), Opens Try.prog 27 (Kd.slice 5 (Kd.int .u8)) ok ∧ ∀ x_, ok x_ → x_.length ≤ maxLen ∧ ∀ z740 ∈ x_, (Lit.int .u8 z740).wf = true := ⟨_, (opens_slice Try.underlying27 (by kernel_rfl) (opens_int Try.underlying5)), fun x_ h_ => h_⟩
set_option maxRecDepth 100000 in
theorem lifted (os : Os) (started : os.Started) (H : Type) (enc : TypeId × Value → H) :
    ReturnsInHanded {} Try.checked os 7 .any (Rows.fnExactRowHashSpec.pre6 enc Try.prog Try.f7 Rows.fnExactRowHashRow.domain false) (Rows.fnExactRowHashSpec.post enc Try.prog Try.f7 false true false false) := by
  refine returnsInHanded_of_change_sized (C := Try.checked) own started (by kernel_rfl) Try.func7
    (ChangeSpec.witness6 (enc := enc) (C := Try.checked) false ⟨#[], #[.int .i64 0, .slice none 0 0], []⟩ 8 (by kernel_rfl) (by kernel_rfl) (by kernel_rfl) (by kernel_rfl)) ?_
  intro W base args ds gs before hval0 hW hcnd hsz0 _
  have hval : ∀ (j : Nat) t v, Try.f7.params[j]? = some t → args[j]? = some v → Value.okWide Try.prog W .any base t v := hval0
  have hW' := hW
  obtain ⟨p, q, hA0, hV, rfl, hfz, hnd⟩ := hW
  have hA : DataW.TrodAll enc Try.prog W 0 (fun _ => true) true Try.f7.params.toList args.toList ds p := hA0
  rw [Try.params7] at hA hval
  obtain ⟨v0, vs0, d0, ds0, p0, q0, hargs, rfl, rfl, h0, r0⟩ := trodAll_cons hA
  obtain ⟨v1, vs1, d1, ds1, p1, q1, rfl, rfl, rfl, h1, r1⟩ := trodAll_cons r0
  obtain ⟨rfl, rfl, rfl⟩ := trodAll_nil r1
  obtain rfl : args = #[v0, v1] := by cases args; simp_all
  obtain ⟨rfl, rfl⟩ := trodVars_none hV
  obtain ⟨a0, rfl, rfl, rfl, w0⟩ := open_int Try.underlying3 (hval 0 3 v0 rfl rfl) h0
  have k1 := h1
  have lt1 : ∀ x ∈ p1, x.block < W.heap.size := by obtain ⟨m, hm⟩ := k1; exact DataW.trod_lt m _ _ _ hm
  obtain ⟨ok1, op1, imp1⟩ := open1
  obtain ⟨A1, c1, x1, rfl, hc1, hr1, o1⟩ := opens_row Try.underlying27 op1 (hval 1 27 v1 rfl rfl) h1
  have o1 := imp1 _ o1
  clear hA0 hval0 hsz0
  obtain ⟨k, h⟩ := Pure.FnExactRowHash a0 x1 w0 o1
  refine (Q.laws_FnExactRowHash.calls k a0 _ _ x1 true W hr1 hc1 h).mono fun e W' ⟨he, bel0⟩ => ?_
  have bel := bel0
  subst he
  exact ⟨_, rfl, _, _, _, [], _, [], hW', trodAll_mk1 (shut_bool Try.underlying4 _), (trodAll_cons_mk (shut_int Try.underlying3 w0) (trodAll_cons_mk (Below.trod laidOut (by kernel_rfl) (of_decide_eq_true (by kernel_rfl)) k1 bel lt1) trodAll_mk0)), rfl, bel.frame _, fun h => by cases h⟩
theorem over : Rows.fnExactRowHashRow.holds Try.pinned (OpenSpec.ofChange Rows.fnExactRowHashSpec) :=
  OpenClaim.holds_of_wide 7 Try.f7 rfl rfl rfl rfl rfl rfl rfl ⟨rfl, rfl, rfl, rfl, rfl⟩ rfl rfl rfl rfl rfl (by kernel_rfl) Try.func7 (by kernel_rfl)
    (of_decide_eq_true (by kernel_rfl)) (by unfold Func.isWrapper; first | (rw [if_pos (by decide +kernel)]; kernel_rfl) | (rw [if_neg (by decide +kernel)]; exact ⟨rfl, rfl⟩))
    (fun os started H enc _ => lifted os started H enc)
theorem proved : Rows.FnExactRowHashSaid := over
#print axioms proved
end Go.Proofs.Ytbffeiakdigdmaa.fnExactRowHash
namespace Go.Proofs.Ytbffeiakdigdmaa
/-- The row, under a short name, for the claim. -/
theorem fnExactRowHash_holds : Rows.FnExactRowHashSaid := fnExactRowHash.proved
end Go.Proofs.Ytbffeiakdigdmaa
