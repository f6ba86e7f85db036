/- FnExactTreeDepth: what the law's functions compute, over numbers and lists, answers true for every input that its bounds let in. -/
import Derived.Test.YtbffeiakdigdmaaM
import Derived.Test.YtbffeiakdigdmaaQx2
namespace Go.Proofs.Ytbffeiakdigdmaa.Pure
open Go.RowKit Go.Proofs.Ytbffeiakdigdmaa.M Go.Proofs.Ytbffeiakdigdmaa.Q Go.Proofs.YtbffeiakdigdmaaW.PrintWords Go.Proofs.YtbffeiakdigdmaaW.PrintLast
set_option linter.unusedVariables false
set_option linter.unusedSimpArgs false
-- l1In
theorem E_spec_l1In (a b c : Int) : spec_l1In.f a b c = some (decide (b ≤ a ∧ a ≤ c)) := by
  unfold spec_l1In.f
  by_cases h : a ≥ b
  · rw [if_pos h]; simp [show b ≤ a from h]
  · rw [if_neg h]; simp [show ¬ b ≤ a from h]

-- InRange
theorem E_impl_InRange (a b c : Int) : impl_InRange.f a b c = some (decide (b ≤ a ∧ a ≤ c)) := by
  unfold impl_InRange.f
  by_cases h : b ≤ a
  · rw [if_pos h]; simp [h]
  · rw [if_neg h]; simp [h]

-- FnExactTreeDepth
theorem tree_same : ∀ (k : Nat) (x i : Int), spec_TreeDepth.l0 k x i = impl_TreeDepth.l0 k x i := by
  intro k
  induction k with
  | zero => intro x i; rfl
  | succ k ih => intro x i; simp only [spec_TreeDepth.l0, impl_TreeDepth.l0, ih]
theorem tree_ends (x : Int) (hx : x ≤ 64) : ∀ (d : Nat) (k i : Nat), i + d = 6 → d < k → ∃ r, impl_TreeDepth.l0 k x (i : Int) = some r := by
  intro d
  induction d with
  | zero =>
    intro k i hi hk
    obtain ⟨k, rfl⟩ : ∃ m, k = m + 1 := ⟨k - 1, by omega⟩
    obtain rfl : i = 6 := by omega
    refine ⟨((6 : Nat) : Int), ?_⟩
    simp only [impl_TreeDepth.l0]
    rw [if_pos (by omega), if_neg (by rw [show shl .i64 1 ((6 : Nat) : Int) = 64 by decide]; omega)]
  | succ d ih =>
    intro k i hi hk
    obtain ⟨k, rfl⟩ : ∃ m, k = m + 1 := ⟨k - 1, by omega⟩
    simp only [impl_TreeDepth.l0]
    rw [if_pos (by omega)]
    split
    · rw [w64 (by omega) (by omega)]
      have := ih k (i + 1) (by omega) (by omega)
      simpa using this
    · exact ⟨_, rfl⟩
theorem FnExactTreeDepth : laws_FnExactTreeDepth.Pure := by
  intro a0 _
  refine ⟨8, ?_⟩
  unfold laws_FnExactTreeDepth.f spec_TreeDepth.f impl_TreeDepth.f
  rw [E_spec_l1In, E_impl_InRange]
  simp only [Option.bind_some, decide_eq_true_eq]
  by_cases h : 0 ≤ a0 ∧ a0 ≤ 64
  · rw [if_pos h, if_pos h, tree_same]
    obtain ⟨r, hr⟩ := tree_ends a0 h.2 6 8 0 (by omega) (by omega)
    rw [show ((0 : Nat) : Int) = 0 from rfl] at hr
    rw [hr]
    simp
  · rw [if_neg h, if_neg h]
    simp
end Go.Proofs.Ytbffeiakdigdmaa.Pure
