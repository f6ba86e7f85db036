/- FnExactAuditName: what the law's functions compute, over numbers and lists, answers true for every input that its bounds let in. -/
import Derived.Test.YtbffeiakdigdmaaM
import Derived.Test.YtbffeiakdigdmaaQx1
namespace Go.Proofs.Ytbffeiakdigdmaa.Pure
open Go.RowKit Go.Proofs.Ytbffeiakdigdmaa.M Go.Proofs.Ytbffeiakdigdmaa.Q Go.Proofs.YtbffeiakdigdmaaW.PrintWords Go.Proofs.YtbffeiakdigdmaaW.PrintLast
set_option linter.unusedVariables false
set_option linter.unusedSimpArgs false
-- l1In
theorem E_spec_l1In (a b c : Int) : spec_l1In.f a b c = some (decide (b ≤ a ∧ a ≤ c)) := by
  unfold spec_l1In.f
  by_cases h : a ≥ b
  · rw [if_pos h]; simp [show b ≤ a from h]
  · rw [if_neg h]; simp [show ¬ b ≤ a from h]

-- InRange
theorem E_impl_InRange (a b c : Int) : impl_InRange.f a b c = some (decide (b ≤ a ∧ a ≤ c)) := by
  unfold impl_InRange.f
  by_cases h : b ≤ a
  · rw [if_pos h]; simp [h]
  · rw [if_neg h]; simp [h]

-- FnExactAuditName
theorem FnExactAuditName : laws_FnExactAuditName.Pure := by
  intro a0 _
  unfold laws_FnExactAuditName.f spec_AuditName.f impl_AuditName.f
  simp only [Option.bind_some, E_spec_l1In, E_impl_InRange]
  rw [show wrap64 ((([(⟨#[111, 107]⟩ : ByteArray), (⟨#[110, 111, 45, 115, 104, 97, 114, 101]⟩ : ByteArray), (⟨#[119, 114, 111, 110, 103, 45, 115, 104, 97, 114, 101]⟩ : ByteArray), (⟨#[119, 114, 111, 110, 103, 45, 115, 117, 109]⟩ : ByteArray)] : List ByteArray).length : Int) - 1) = 3 by simp [wrap64]]
  by_cases h : 0 ≤ a0 ∧ a0 ≤ 3
  · have h4 : a0 < ((4 : Nat) : Int) := by omega
    simp [h, show a0 < 4 by omega]
  · simp [h]
end Go.Proofs.Ytbffeiakdigdmaa.Pure
