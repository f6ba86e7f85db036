/- The law FnExactShareDigest answers true for every input, and leaves its arguments as they were. No condition. -/
import Derived.Test.YtcdaiclfomekhaaRows
import Derived.Test.YtcdaiclfomekhaaQxGLOMHI
import Derived.Test.YtcdaiclfomekhaaPureFnExactShareDigest
import Derived.Test.YtcdaiclfomekhaaWO
import Derived.WalkKit
import Derived.ProofKit
import Derived.OpenShut
import Derived.ShutString
import Derived.ChangeOld
import Derived.Below
import Derived.SizedLaws
namespace Go.Proofs.Ytcdaiclfomekhaa.fnExactShareDigest
open Go.ChangeShapes Go.WideShapes Go.ChangeAt Go.RowKit
open Go.Proofs.YtcdaiclfomekhaaW.PrintWords Go.Proofs.YtcdaiclfomekhaaW.PrintWords.QPW Go.Proofs.Ytcdaiclfomekhaa.Q
open Go.ChangeMaps (open_string shut_string)
set_option linter.unusedVariables false
theorem own : ownKnob Try.prog.godebug = none := by kernel_rfl
theorem laidOut : laidOutB Try.prog = true := by kernel_rfl
theorem open2 : ∃ (ok : _ → Prop), Opens Try.prog 93 (Kd.slice 22 (Kd.slice 5 (Kd.int .u8))) ok ∧ ∀ x_, ok x_ → (x_.length ≤ maxLen ∧ ∀ z140 ∈ x_, z140.length ≤ maxLen ∧ ∀ z141 ∈ z140, (Lit.int .u8 z141).wf = true) := ⟨_, opens_struct Try.underlying93 (by kernel_rfl) (opensF_one rfl (by kernel_rfl) (opens_slice Try.underlying36 (by kernel_rfl) (opens_slice Try.underlying22 (by kernel_rfl) (opens_int Try.underlying5)))), fun x_ h_ => h_⟩
set_option maxRecDepth 100000 in
theorem lifted (os : Os) (started : os.Started) (H : Type) (enc : TypeId × Value → H) :
    ReturnsInHanded {} Try.checked os 10 .any (Rows.fnExactShareDigestSpec.pre6 enc Try.prog Try.f10 Rows.fnExactShareDigestRow.domain false) (Rows.fnExactShareDigestSpec.post enc Try.prog Try.f10 false true false false) := by
  refine returnsInHanded_of_change_sized (C := Try.checked) own started (by kernel_rfl) Try.func10
    (ChangeSpec.witness6 (enc := enc) (C := Try.checked) false ⟨#[], #[.int .i64 0, .int .i64 0, .agg #[.slice none 0 0]], []⟩ 8 (by kernel_rfl) (by kernel_rfl) (by kernel_rfl) (by kernel_rfl)) ?_
  intro W base args ds gs before hval0 hW hcnd hsz0 _
  have hval : ∀ (j : Nat) t v, Try.f10.params[j]? = some t → args[j]? = some v → Value.okWide Try.prog W .any base t v := hval0
  have hW' := hW
  obtain ⟨p, q, hA0, hV, rfl, hfz, hnd⟩ := hW
  have hA : DataW.TrodAll enc Try.prog W 0 (fun _ => true) true Try.f10.params.toList args.toList ds p := hA0
  rw [Try.params10] at hA hval
  obtain ⟨v0, vs0, d0, ds0, p0, q0, hargs, rfl, rfl, h0, r0⟩ := trodAll_cons hA
  obtain ⟨v1, vs1, d1, ds1, p1, q1, rfl, rfl, rfl, h1, r1⟩ := trodAll_cons r0
  obtain ⟨v2, vs2, d2, ds2, p2, q2, rfl, rfl, rfl, h2, r2⟩ := trodAll_cons r1
  obtain ⟨rfl, rfl, rfl⟩ := trodAll_nil r2
  obtain rfl : args = #[v0, v1, v2] := by cases args; simp_all
  obtain ⟨rfl, rfl⟩ := trodVars_none hV
  obtain ⟨a0, rfl, rfl, rfl, w0⟩ := open_int Try.underlying3 (hval 0 3 v0 rfl rfl) h0
  obtain ⟨a1, rfl, rfl, rfl, w1⟩ := open_int Try.underlying3 (hval 1 3 v1 rfl rfl) h1
  have k2 := h2
  have lt2 : ∀ x ∈ p2, x.block < W.heap.size := by obtain ⟨m, hm⟩ := k2; exact DataW.trod_lt m _ _ _ hm
  obtain ⟨ok2, op2, imp2⟩ := open2
  obtain ⟨cs2, x2, rfl, hK2, o2⟩ := opens_top Try.underlying93 op2 (hval 2 93 v2 rfl rfl) h2
  have o2 := imp2 _ o2
  obtain ⟨A2_0, c2_0, rfl, hc2_0, hr2_0⟩ := hK2
  clear hA0 hval0 hsz0
  obtain ⟨k, h⟩ := Pure.FnExactShareDigest a0 a1 x2 w0 w1 o2
  refine (Q.laws_FnExactShareDigest.calls k a0 a1 _ _ x2 true W hr2_0 hc2_0 h).mono fun e W' ⟨he, bel0⟩ => ?_
  have bel := bel0
  subst he
  exact ⟨_, rfl, _, _, _, [], _, [], hW', trodAll_mk1 (shut_bool Try.underlying4 _), (trodAll_cons_mk (shut_int Try.underlying3 w0) (trodAll_cons_mk (shut_int Try.underlying3 w1) (trodAll_cons_mk (Below.trod laidOut (by kernel_rfl) (of_decide_eq_true (by kernel_rfl)) k2 bel lt2) trodAll_mk0))), rfl, bel.frame _, fun h => by cases h⟩
theorem over : Rows.fnExactShareDigestRow.holds Try.pinned (OpenSpec.ofChange Rows.fnExactShareDigestSpec) :=
  OpenClaim.holds_of_wide 10 Try.f10 rfl rfl rfl rfl rfl rfl rfl ⟨rfl, rfl, rfl, rfl, rfl⟩ rfl rfl rfl rfl rfl (by kernel_rfl) Try.func10 (by kernel_rfl)
    (of_decide_eq_true (by kernel_rfl)) (by unfold Func.isWrapper; first | (rw [if_pos (by decide +kernel)]; kernel_rfl) | (rw [if_neg (by decide +kernel)]; exact ⟨rfl, rfl⟩))
    (fun os started H enc _ => lifted os started H enc)
theorem proved : Rows.FnExactShareDigestSaid := over
#print axioms proved
end Go.Proofs.Ytcdaiclfomekhaa.fnExactShareDigest
namespace Go.Proofs.Ytcdaiclfomekhaa
/-- The row, under a short name, for the claim. -/
theorem fnExactShareDigest_holds : Rows.FnExactShareDigestSaid := fnExactShareDigest.proved
end Go.Proofs.Ytcdaiclfomekhaa
