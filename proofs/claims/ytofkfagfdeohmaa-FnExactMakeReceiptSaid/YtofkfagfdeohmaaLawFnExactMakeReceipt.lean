/- The law FnExactMakeReceipt answers true for every input, and leaves its arguments as they were. No condition. -/
import Derived.Test.YtofkfagfdeohmaaRows
import Derived.Test.YtofkfagfdeohmaaQxJKPNKC
import Derived.Test.YtofkfagfdeohmaaPureFnExactMakeReceipt
import Derived.Test.YtofkfagfdeohmaaWO
import Derived.WalkKit
import Derived.ProofKit
import Derived.OpenShut
import Derived.ShutString
import Derived.ChangeOld
import Derived.Below
import Derived.SizedLaws
namespace Go.Proofs.Ytofkfagfdeohmaa.fnExactMakeReceipt
open Go.ChangeShapes Go.WideShapes Go.ChangeAt Go.RowKit
open Go.Proofs.YtofkfagfdeohmaaW.PrintWords Go.Proofs.YtofkfagfdeohmaaW.PrintWords.QPW Go.Proofs.Ytofkfagfdeohmaa.Q
open Go.ChangeMaps (open_string shut_string)
set_option linter.unusedVariables false
theorem own : ownKnob Try.prog.godebug = none := by kernel_rfl
theorem laidOut : laidOutB Try.prog = true := by kernel_rfl
theorem open4 : ∃ (ok : _ → Prop), Opens Try.prog 26 (Kd.slice 38 (Kd.slice 5 (Kd.int .u8))) ok ∧ ∀ x_, ok x_ → (x_.length ≤ maxLen ∧ ∀ z153 ∈ x_, z153.length ≤ maxLen ∧ ∀ z154 ∈ z153, (Lit.int .u8 z154).wf = true) := ⟨_, opens_struct Try.underlying26 (by kernel_rfl) (opensF_one rfl (by kernel_rfl) (opens_slice Try.underlying24 (by kernel_rfl) (opens_slice Try.underlying38 (by kernel_rfl) (opens_int Try.underlying5)))), fun x_ h_ => h_⟩
set_option maxRecDepth 100000 in
theorem lifted (os : Os) (started : os.Started) (H : Type) (enc : TypeId × Value → H) :
    ReturnsInHanded {} Try.checked os 7 .any (Rows.fnExactMakeReceiptSpec.pre6 enc Try.prog Try.f7 Rows.fnExactMakeReceiptRow.domain false) (Rows.fnExactMakeReceiptSpec.post enc Try.prog Try.f7 false true false false) := by
  refine returnsInHanded_of_change_sized (C := Try.checked) own started (by kernel_rfl) Try.func7
    (ChangeSpec.witness6 (enc := enc) (C := Try.checked) false ⟨#[], #[.int .i64 0, .int .i64 0, .int .i64 0, .int .i64 0, .agg #[.slice none 0 0]], []⟩ 8 (by kernel_rfl) (by kernel_rfl) (by kernel_rfl) (by kernel_rfl)) ?_
  intro W base args ds gs before hval0 hW hcnd hsz0 _
  have hval : ∀ (j : Nat) t v, Try.f7.params[j]? = some t → args[j]? = some v → Value.okWide Try.prog W .any base t v := hval0
  have hW' := hW
  obtain ⟨p, q, hA0, hV, rfl, hfz, hnd⟩ := hW
  have hA : DataW.TrodAll enc Try.prog W 0 (fun _ => true) true Try.f7.params.toList args.toList ds p := hA0
  rw [Try.params7] at hA hval
  obtain ⟨v0, vs0, d0, ds0, p0, q0, hargs, rfl, rfl, h0, r0⟩ := trodAll_cons hA
  obtain ⟨v1, vs1, d1, ds1, p1, q1, rfl, rfl, rfl, h1, r1⟩ := trodAll_cons r0
  obtain ⟨v2, vs2, d2, ds2, p2, q2, rfl, rfl, rfl, h2, r2⟩ := trodAll_cons r1
  obtain ⟨v3, vs3, d3, ds3, p3, q3, rfl, rfl, rfl, h3, r3⟩ := trodAll_cons r2
  obtain ⟨v4, vs4, d4, ds4, p4, q4, rfl, rfl, rfl, h4, r4⟩ := trodAll_cons r3
  obtain ⟨rfl, rfl, rfl⟩ := trodAll_nil r4
  obtain rfl : args = #[v0, v1, v2, v3, v4] := by cases args; simp_all
  obtain ⟨rfl, rfl⟩ := trodVars_none hV
  obtain ⟨a0, rfl, rfl, rfl, w0⟩ := open_int Try.underlying3 (hval 0 3 v0 rfl rfl) h0
  obtain ⟨a1, rfl, rfl, rfl, w1⟩ := open_int Try.underlying3 (hval 1 3 v1 rfl rfl) h1
  obtain ⟨a2, rfl, rfl, rfl, w2⟩ := open_int Try.underlying3 (hval 2 3 v2 rfl rfl) h2
  obtain ⟨a3, rfl, rfl, rfl, w3⟩ := open_int Try.underlying3 (hval 3 3 v3 rfl rfl) h3
  have k4 := h4
  have lt4 : ∀ x ∈ p4, x.block < W.heap.size := by obtain ⟨m, hm⟩ := k4; exact DataW.trod_lt m _ _ _ hm
  obtain ⟨ok4, op4, imp4⟩ := open4
  obtain ⟨cs4, x4, rfl, hK4, o4⟩ := opens_top Try.underlying26 op4 (hval 4 26 v4 rfl rfl) h4
  have o4 := imp4 _ o4
  obtain ⟨A4_0, c4_0, rfl, hc4_0, hr4_0⟩ := hK4
  clear hA0 hval0 hsz0
  obtain ⟨k, h⟩ := Pure.FnExactMakeReceipt a0 a1 a2 a3 x4 w0 w1 w2 w3 o4
  refine (Q.laws_FnExactMakeReceipt.calls k a0 a1 a2 a3 _ _ x4 true W hr4_0 hc4_0 h).mono fun e W' ⟨he, bel0⟩ => ?_
  have bel := bel0
  subst he
  exact ⟨_, rfl, _, _, _, [], _, [], hW', trodAll_mk1 (shut_bool Try.underlying4 _), (trodAll_cons_mk (shut_int Try.underlying3 w0) (trodAll_cons_mk (shut_int Try.underlying3 w1) (trodAll_cons_mk (shut_int Try.underlying3 w2) (trodAll_cons_mk (shut_int Try.underlying3 w3) (trodAll_cons_mk (Below.trod laidOut (by kernel_rfl) (of_decide_eq_true (by kernel_rfl)) k4 bel lt4) trodAll_mk0))))), rfl, bel.frame _, fun h => by cases h⟩
theorem over : Rows.fnExactMakeReceiptRow.holds Try.pinned (OpenSpec.ofChange Rows.fnExactMakeReceiptSpec) :=
  OpenClaim.holds_of_wide 7 Try.f7 rfl rfl rfl rfl rfl rfl rfl ⟨rfl, rfl, rfl, rfl, rfl⟩ rfl rfl rfl rfl rfl (by kernel_rfl) Try.func7 (by kernel_rfl)
    (of_decide_eq_true (by kernel_rfl)) (by unfold Func.isWrapper; first | (rw [if_pos (by decide +kernel)]; kernel_rfl) | (rw [if_neg (by decide +kernel)]; exact ⟨rfl, rfl⟩))
    (fun os started H enc _ => lifted os started H enc)
theorem proved : Rows.FnExactMakeReceiptSaid := over
#print axioms proved
end Go.Proofs.Ytofkfagfdeohmaa.fnExactMakeReceipt
namespace Go.Proofs.Ytofkfagfdeohmaa
/-- The row, under a short name, for the claim. -/
theorem fnExactMakeReceipt_holds : Rows.FnExactMakeReceiptSaid := fnExactMakeReceipt.proved
end Go.Proofs.Ytofkfagfdeohmaa
