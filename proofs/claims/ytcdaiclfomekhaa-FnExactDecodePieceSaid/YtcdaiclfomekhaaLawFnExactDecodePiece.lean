/- The law FnExactDecodePiece answers true for every input, and leaves its arguments as they were. No condition. -/
import Derived.Test.YtcdaiclfomekhaaRows
import Derived.Test.YtcdaiclfomekhaaQxEPMHCG
import Derived.Test.YtcdaiclfomekhaaPureFnExactDecodePiece
import Derived.Test.YtcdaiclfomekhaaWO
import Derived.WalkKit
import Derived.ProofKit
import Derived.OpenShut
import Derived.ShutString
import Derived.ChangeOld
import Derived.Below
import Derived.SizedLaws
namespace Go.Proofs.Ytcdaiclfomekhaa.fnExactDecodePiece
open Go.ChangeShapes Go.WideShapes Go.ChangeAt Go.RowKit
open Go.Proofs.YtcdaiclfomekhaaW.PrintWords Go.Proofs.YtcdaiclfomekhaaW.PrintWords.QPW Go.Proofs.Ytcdaiclfomekhaa.Q
open Go.ChangeMaps (open_string shut_string)
set_option linter.unusedVariables false
theorem own : ownKnob Try.prog.godebug = none := by kernel_rfl
theorem laidOut : laidOutB Try.prog = true := by kernel_rfl
theorem open0 : ∃ (ok : _ → Prop), Opens Try.prog 22 (Kd.slice 5 (Kd.int .u8)) ok ∧ ∀ x_, ok x_ → x_.length ≤ maxLen ∧ ∀ z134 ∈ x_, (Lit.int .u8 z134).wf = true := ⟨_, (opens_slice Try.underlying22 (by kernel_rfl) (opens_int Try.underlying5)), fun x_ h_ => h_⟩
set_option maxRecDepth 100000 in
theorem lifted (os : Os) (started : os.Started) (H : Type) (enc : TypeId × Value → H) :
    ReturnsInHanded {} Try.checked os 3 .any (Rows.fnExactDecodePieceSpec.pre6 enc Try.prog Try.f3 Rows.fnExactDecodePieceRow.domain false) (Rows.fnExactDecodePieceSpec.post enc Try.prog Try.f3 false true false false) := by
  refine returnsInHanded_of_change_sized (C := Try.checked) own started (by kernel_rfl) Try.func3
    (ChangeSpec.witness6 (enc := enc) (C := Try.checked) false ⟨#[], #[.slice none 0 0], []⟩ 8 (by kernel_rfl) (by kernel_rfl) (by kernel_rfl) (by kernel_rfl)) ?_
  intro W base args ds gs before hval0 hW hcnd hsz0 _
  have hval : ∀ (j : Nat) t v, Try.f3.params[j]? = some t → args[j]? = some v → Value.okWide Try.prog W .any base t v := hval0
  have hW' := hW
  obtain ⟨p, q, hA0, hV, rfl, hfz, hnd⟩ := hW
  have hA : DataW.TrodAll enc Try.prog W 0 (fun _ => true) true Try.f3.params.toList args.toList ds p := hA0
  rw [Try.params3] at hA hval
  obtain ⟨v0, vs0, d0, ds0, p0, q0, hargs, rfl, rfl, h0, r0⟩ := trodAll_cons hA
  obtain ⟨rfl, rfl, rfl⟩ := trodAll_nil r0
  obtain rfl : args = #[v0] := by cases args; simp_all
  obtain ⟨rfl, rfl⟩ := trodVars_none hV
  have k0 := h0
  have lt0 : ∀ x ∈ p0, x.block < W.heap.size := by obtain ⟨m, hm⟩ := k0; exact DataW.trod_lt m _ _ _ hm
  obtain ⟨ok0, op0, imp0⟩ := open0
  obtain ⟨A0, c0, x0, rfl, hc0, hr0, o0⟩ := opens_row Try.underlying22 op0 (hval 0 22 v0 rfl rfl) h0
  have o0 := imp0 _ o0
  clear hA0 hval0 hsz0
  obtain ⟨k, h⟩ := Pure.FnExactDecodePiece x0 o0
  refine (Q.laws_FnExactDecodePiece.calls k _ _ x0 true W hr0 hc0 h).mono fun e W' ⟨he, bel0⟩ => ?_
  have bel := bel0
  subst he
  exact ⟨_, rfl, _, _, _, [], _, [], hW', trodAll_mk1 (shut_bool Try.underlying4 _), (trodAll_cons_mk (Below.trod laidOut (by kernel_rfl) (of_decide_eq_true (by kernel_rfl)) k0 bel lt0) trodAll_mk0), rfl, bel.frame _, fun h => by cases h⟩
theorem over : Rows.fnExactDecodePieceRow.holds Try.pinned (OpenSpec.ofChange Rows.fnExactDecodePieceSpec) :=
  OpenClaim.holds_of_wide 3 Try.f3 rfl rfl rfl rfl rfl rfl rfl ⟨rfl, rfl, rfl, rfl, rfl⟩ rfl rfl rfl rfl rfl (by kernel_rfl) Try.func3 (by kernel_rfl)
    (of_decide_eq_true (by kernel_rfl)) (by unfold Func.isWrapper; first | (rw [if_pos (by decide +kernel)]; kernel_rfl) | (rw [if_neg (by decide +kernel)]; exact ⟨rfl, rfl⟩))
    (fun os started H enc _ => lifted os started H enc)
theorem proved : Rows.FnExactDecodePieceSaid := over
#print axioms proved
end Go.Proofs.Ytcdaiclfomekhaa.fnExactDecodePiece
namespace Go.Proofs.Ytcdaiclfomekhaa
/-- The row, under a short name, for the claim. -/
theorem fnExactDecodePiece_holds : Rows.FnExactDecodePieceSaid := fnExactDecodePiece.proved
end Go.Proofs.Ytcdaiclfomekhaa
