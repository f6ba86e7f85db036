/- FnExactCountPieces: what the law's functions compute, over numbers and lists, answers true for every input that its bounds let in. -/
import Derived.Test.YtbffeiakdigdmaaM
import Derived.Test.YtbffeiakdigdmaaQx2
namespace Go.Proofs.Ytbffeiakdigdmaa.Pure
open Go.RowKit Go.Proofs.Ytbffeiakdigdmaa.M Go.Proofs.Ytbffeiakdigdmaa.Q Go.Proofs.YtbffeiakdigdmaaW.PrintWords Go.Proofs.YtbffeiakdigdmaaW.PrintLast
set_option linter.unusedVariables false
set_option linter.unusedSimpArgs false
-- l1In
theorem E_spec_l1In (a b c : Int) : spec_l1In.f a b c = some (decide (b ≤ a ∧ a ≤ c)) := by
  unfold spec_l1In.f
  by_cases h : a ≥ b
  · rw [if_pos h]; simp [show b ≤ a from h]
  · rw [if_neg h]; simp [show ¬ b ≤ a from h]

-- InRange
theorem E_impl_InRange (a b c : Int) : impl_InRange.f a b c = some (decide (b ≤ a ∧ a ≤ c)) := by
  unfold impl_InRange.f
  by_cases h : b ≤ a
  · rw [if_pos h]; simp [h]
  · rw [if_neg h]; simp [h]

-- FnExactCountPieces
theorem FnExactCountPieces : laws_FnExactCountPieces.Pure := by
  intro a0 hw
  have hb := wf64 hw
  unfold laws_FnExactCountPieces.f spec_CountPieces.f impl_CountPieces.f spec_CeilDiv.f
  simp only [Option.bind_some, E_spec_l1In, E_impl_InRange, decide_eq_true_eq]
  by_cases h : 0 ≤ a0 ∧ a0 ≤ 400
  · have e1 : wrap64 (a0 + 1) = a0 + 1 := w64 (by omega) (by omega)
    have e2 : wrap64 (a0 + 12) = a0 + 12 := w64 (by omega) (by omega)
    have e3 : wrap64 (wrap64 (a0 + 1 + 12) - 1) = a0 + 12 := by rw [w64 (x := a0 + 1 + 12) (by omega) (by omega), w64 (by omega) (by omega)]; omega
    have e4 : wrap64 (Int.tdiv (a0 + 12) 12) = (a0 + 12) / 12 := by rw [Int.tdiv_eq_ediv_of_nonneg (by omega), w64 (by omega) (by omega)]
    obtain ⟨d, hd⟩ : ∃ d, d = (a0 + 12) / 12 := ⟨_, rfl⟩
    rw [← hd] at e4
    have hd1 : 1 ≤ d ∧ d ≤ 34 := by omega
    have e5 : wrap64 (wrap64 (d + 4) - 1) = d + 3 := by rw [w64 (x := d + 4) (by omega) (by omega), w64 (by omega) (by omega)]; omega
    have e6 : wrap64 (Int.tdiv (d + 3) 4) = (d + 3) / 4 := by rw [Int.tdiv_eq_ediv_of_nonneg (by omega), w64 (by omega) (by omega)]
    have e7 : wrap64 (d + (d + 3) / 4) = d + (d + 3) / 4 := w64 (by omega) (by omega)
    simp only [e1, e2, e3, e4, e5, e6, e7]
    rw [if_pos h, if_pos (by omega), if_pos (by omega), if_neg (by omega)]
    simp only [Option.bind_some]
    rw [if_pos (by omega), if_pos (by omega), if_neg (by omega)]
    simp only [Option.bind_some, e5, e6, e7]
    by_cases h2 : d + (d + 3) / 4 > 16
    · rw [if_pos h2]
      simp only [Option.bind_some]
      by_cases h3 : 0 ≤ a0 ∧ a0 ≤ 192
      · rw [if_pos h3]
        rfl
      · rw [if_neg h3]
        rfl
    · rw [if_neg h2]
      simp only [Option.bind_some]
      rw [if_pos (show 0 ≤ a0 ∧ a0 ≤ 192 by omega)]
      simp
  · rw [if_neg h, if_neg (by omega)]
    rfl
end Go.Proofs.Ytbffeiakdigdmaa.Pure
