/- FnExactEqualGroups: what the law's functions compute, over numbers and lists, answers true for every input that its bounds let in. -/
import Derived.Test.YtbffeiakdigdmaaM
import Derived.Test.YtbffeiakdigdmaaQx28
namespace Go.Proofs.Ytbffeiakdigdmaa.Pure
open Go.RowKit Go.Proofs.Ytbffeiakdigdmaa.M Go.Proofs.Ytbffeiakdigdmaa.Q Go.Proofs.YtbffeiakdigdmaaW.PrintWords Go.Proofs.YtbffeiakdigdmaaW.PrintLast
set_option linter.unusedVariables false
set_option linter.unusedSimpArgs false
-- laws_toIntS
theorem E_laws_toIntS_l0 (l : List Int) (hl : l.length ≤ 2097152) : ∀ (d n k : Nat) (m : List Int), n + d = l.length → d + 0 < k → (m.length = l.length) → laws_toIntS.l0 k l m (n : Int) = some (m.take n ++ l.drop n) := by
  intro d
  induction d with
  | zero =>
    intro n k m hn hk hm
    obtain ⟨k, rfl⟩ : ∃ m, k = m + 1 := ⟨k - 1, by omega⟩
    simp only [laws_toIntS.l0]
    rw [if_neg (by omega), List.drop_eq_nil_of_le (by omega), List.append_nil, List.take_of_length_le (by omega)]
  | succ d ih =>
    intro n k m hn hk hm
    obtain ⟨k, rfl⟩ : ∃ m, k = m + 1 := ⟨k - 1, by omega⟩
    have e1 : wrap64 ((n : Int) + 1) = ((n + 1 : Nat) : Int) := by rw [w64 (by omega) (by omega)]; omega
    simp only [laws_toIntS.l0]
    rw [if_pos (by omega), if_pos (by omega), if_pos (by omega), e1, rd_nat]
    rw [ih (n + 1) k _ (by omega) (by omega) (by simp; omega), getD_drop l n 0 (by omega)]
    rw [show (n : Int).toNat = n by omega, take_set_snoc _ n _ (by omega), List.append_assoc]
    rfl

theorem E_laws_toIntS (k : Nat) (l : List Int) (hk : 4194304 < k) (hl : l.length ≤ 2097152) : laws_toIntS.f k l = some l := by
  unfold laws_toIntS.f
  rw [if_pos (by omega), if_pos (by omega)]
  have := E_laws_toIntS_l0 l hl l.length 0 k (List.replicate ((l.length : Int) : Int).toNat 0) (by omega) (by omega) (by simp)
  simpa using this

-- laws_toSenderGroup
theorem E_laws_toSenderGroup (k : Nat) (a b c : Int) (l : List Int) (hk : 4194304 < k) (hl : l.length ≤ 2097152) : laws_toSenderGroup.f k a b c l = some (a, b, c, l) := by
  unfold laws_toSenderGroup.f
  rw [E_laws_toIntS k l hk hl]
  rfl

-- laws_eqIntS
theorem E_laws_eqIntS_l0 (l m : List Int) (hl : l.length ≤ 2097152) (hm : l.length = m.length) : ∀ (d n k : Nat) , n + d = l.length → d + 0 < k → laws_eqIntS.l0 k l m (n : Int) = some (decide (l.drop n = m.drop n)) := by
  intro d
  induction d with
  | zero =>
    intro n k  hn hk 
    obtain ⟨k, rfl⟩ : ∃ m, k = m + 1 := ⟨k - 1, by omega⟩
    simp only [laws_eqIntS.l0]
    rw [if_neg (by omega), List.drop_eq_nil_of_le (by omega), List.drop_eq_nil_of_le (by omega)]
    rfl
  | succ d ih =>
    intro n k  hn hk 
    obtain ⟨k, rfl⟩ : ∃ m, k = m + 1 := ⟨k - 1, by omega⟩
    have e1 : wrap64 ((n : Int) + 1) = ((n + 1 : Nat) : Int) := by rw [w64 (by omega) (by omega)]; omega
    simp only [laws_eqIntS.l0]
    rw [if_pos (by omega), if_pos (by omega), if_pos (by omega), e1, rd_nat, rd_nat, getD_drop l n 0 (by omega), getD_drop m n 0 (by omega)]
    by_cases h : l.getD n 0 = m.getD n 0
    · rw [if_pos h, ih (n + 1) k (by omega) (by omega), h]
      simp only [List.cons.injEq, true_and]
    · rw [if_neg h, decide_eq_false (fun e => h (List.cons.inj e).1)]

theorem E_laws_eqIntS (k : Nat) (l m : List Int) (hk : 4194304 < k) (hl : l.length ≤ 2097152) : laws_eqIntS.f k l m = some (decide (l = m)) := by
  unfold laws_eqIntS.f
  by_cases h : (l.length : Int) = (m.length : Int)
  · rw [if_pos h]
    have := E_laws_eqIntS_l0 l m hl (by omega) l.length 0 k (by omega) (by omega)
    simpa using this
  · rw [if_neg h]
    have : l ≠ m := fun e => h (by rw [e])
    simp [this]

-- laws_eqSenderGroup
theorem E_laws_eqSenderGroup (k : Nat) (a b c : Int) (l : List Int) (hk : 4194304 < k) (hl : l.length ≤ 2097152) : laws_eqSenderGroup.f k a b c l a b c l = some true := by
  unfold laws_eqSenderGroup.f
  rw [if_pos rfl, if_pos rfl, if_pos rfl, E_laws_eqIntS k l l hk hl]
  simp

-- laws_szSenderGroup
theorem E_laws_szSenderGroup (a b c : Int) (l : List Int) (n : Int) (hl : l.length ≤ 9223372036854775807) (h0 : 0 ≤ n) (h1 : n ≤ 1048576) : laws_szSenderGroup.f a b c l n = some (if (l.length : Int) ≤ n then n - l.length else -1) := by
  unfold laws_szSenderGroup.f laws_szIntS.f
  rw [w64 (by omega) (by omega)]
  by_cases h : (l.length : Int) ≤ n
  · rw [if_neg (by omega), if_pos h]
    simp only [Option.bind_some]
    rw [if_neg (by omega)]
  · rw [if_pos (by omega), if_neg h]
    simp

-- spec_EqualInts
theorem E_spec_EqualInts_l0 (l m : List Int) (hl : l.length ≤ 2097152) (hm : l.length = m.length) : ∀ (d n k : Nat) , n + d = l.length → d + 0 < k → spec_EqualInts.l0 k l m (n : Int) = some (decide (l.drop n = m.drop n)) := by
  intro d
  induction d with
  | zero =>
    intro n k  hn hk 
    obtain ⟨k, rfl⟩ : ∃ m, k = m + 1 := ⟨k - 1, by omega⟩
    simp only [spec_EqualInts.l0]
    rw [if_neg (by omega), List.drop_eq_nil_of_le (by omega), List.drop_eq_nil_of_le (by omega)]
    rfl
  | succ d ih =>
    intro n k  hn hk 
    obtain ⟨k, rfl⟩ : ∃ m, k = m + 1 := ⟨k - 1, by omega⟩
    have e1 : wrap64 ((n : Int) + 1) = ((n + 1 : Nat) : Int) := by rw [w64 (by omega) (by omega)]; omega
    simp only [spec_EqualInts.l0]
    rw [if_pos (by omega), if_pos (by omega), if_pos (by omega), e1, rd_nat, rd_nat, getD_drop l n 0 (by omega), getD_drop m n 0 (by omega)]
    by_cases h : l.getD n 0 = m.getD n 0
    · rw [if_pos h, ih (n + 1) k (by omega) (by omega), h]
      simp only [List.cons.injEq, true_and]
    · rw [if_neg h, decide_eq_false (fun e => h (List.cons.inj e).1)]

theorem E_spec_EqualInts (k : Nat) (l m : List Int) (hk : 4194304 < k) (hl : l.length ≤ 2097152) : spec_EqualInts.f k l m = some (decide (l = m)) := by
  unfold spec_EqualInts.f
  by_cases h : (l.length : Int) = (m.length : Int)
  · rw [if_pos h]
    have := E_spec_EqualInts_l0 l m hl (by omega) l.length 0 k (by omega) (by omega)
    simpa using this
  · rw [if_neg h]
    have : l ≠ m := fun e => h (by rw [e])
    simp [this]

-- spec_EqualGroups
theorem E_spec_EqualGroups (k : Nat) (a b c : Int) (l : List Int) (a' b' c' : Int) (l' : List Int) (hk : 4194304 < k) (hl : l.length ≤ 2097152) : spec_EqualGroups.f k a b c l a' b' c' l' = some (decide (a = a' ∧ b = b' ∧ c = c' ∧ l = l')) := by
  unfold spec_EqualGroups.f
  rw [E_spec_EqualInts k l l' hk hl]
  by_cases h1 : a = a' <;> by_cases h2 : b = b' <;> by_cases h3 : c = c' <;> simp [h1, h2, h3]

-- slices_Equal_int
theorem E_slices_Equal_int_l0 (l m : List Int) (hl : l.length ≤ 2097152) (hm : l.length = m.length) : ∀ (d n k : Nat) , n + d = l.length → d + 0 < k → slices_Equal_int.l0 k l m (l.length : Int) (n : Int) = some (decide (l.drop n = m.drop n)) := by
  intro d
  induction d with
  | zero =>
    intro n k  hn hk 
    obtain ⟨k, rfl⟩ : ∃ m, k = m + 1 := ⟨k - 1, by omega⟩
    simp only [slices_Equal_int.l0]
    rw [if_neg (by omega), List.drop_eq_nil_of_le (by omega), List.drop_eq_nil_of_le (by omega)]
    rfl
  | succ d ih =>
    intro n k  hn hk 
    obtain ⟨k, rfl⟩ : ∃ m, k = m + 1 := ⟨k - 1, by omega⟩
    have e1 : wrap64 ((n : Int) + 1) = ((n + 1 : Nat) : Int) := by rw [w64 (by omega) (by omega)]; omega
    simp only [slices_Equal_int.l0]
    rw [if_pos (by omega), if_pos (by omega), if_pos (by omega), if_pos (by omega), e1, rd_nat, rd_nat, getD_drop l n 0 (by omega), getD_drop m n 0 (by omega)]
    by_cases h : l.getD n 0 = m.getD n 0
    · rw [if_pos h, ih (n + 1) k (by omega) (by omega), h]
      simp only [List.cons.injEq, true_and]
    · rw [if_neg h, decide_eq_false (fun e => h (List.cons.inj e).1)]

theorem E_slices_Equal_int (k : Nat) (l m : List Int) (hk : 4194304 < k) (hl : l.length ≤ 2097152) : slices_Equal_int.f k l m = some (decide (l = m)) := by
  unfold slices_Equal_int.f
  by_cases h : (l.length : Int) = (m.length : Int)
  · rw [if_pos h]
    have := E_slices_Equal_int_l0 l m hl (by omega) l.length 0 k (by omega) (by omega)
    simpa using this
  · rw [if_neg h]
    have : l ≠ m := fun e => h (by rw [e])
    simp [this]

-- impl_EqualGroups
theorem E_impl_EqualGroups (k : Nat) (a b c : Int) (l : List Int) (a' b' c' : Int) (l' : List Int) (hk : 4194304 < k) (hl : l.length ≤ 2097152) : impl_EqualGroups.f k a b c l a' b' c' l' = some (decide (a = a' ∧ b = b' ∧ c = c' ∧ l = l')) := by
  unfold impl_EqualGroups.f
  rw [E_slices_Equal_int k l l' hk hl]
  by_cases h1 : a = a' <;> by_cases h2 : b = b' <;> by_cases h3 : c = c' <;> simp [h1, h2, h3]

-- FnExactEqualGroups
theorem FnExactEqualGroups : laws_FnExactEqualGroups.Pure := by
  intro a b c l a' b' c' l' _ _ _ hl _ _ _ hl'
  have hm := hl.1
  have hm' := hl'.1
  unfold maxLen at hm hm'
  refine ⟨8388608, ?_⟩
  unfold laws_FnExactEqualGroups.f
  rw [E_laws_szSenderGroup a b c l _ (by omega) (by omega) (by omega)]
  simp only [Option.bind_some]
  by_cases h : (l.length : Int) ≤ 1048576
  · rw [if_pos h, if_neg (by omega), E_laws_szSenderGroup a' b' c' l' _ (by omega) (by omega) (by omega)]
    simp only [Option.bind_some]
    by_cases h' : (l'.length : Int) ≤ 1048576 - l.length
    · rw [if_pos h', if_neg (by omega), E_laws_toSenderGroup _ a b c l (by omega) (by omega), E_laws_toSenderGroup _ a' b' c' l' (by omega) (by omega)]
      simp only [Option.bind_some]
      rw [E_spec_EqualGroups _ _ _ _ _ _ _ _ _ (by omega) (by omega), E_impl_EqualGroups _ _ _ _ _ _ _ _ _ (by omega) (by omega)]
      simp only [Option.bind_some]
      rw [E_laws_eqSenderGroup _ a b c l (by omega) (by omega), E_laws_eqSenderGroup _ a' b' c' l' (by omega) (by omega)]
      simp
    · rw [if_neg h', if_pos (by omega)]
  · rw [if_neg h, if_pos (by omega)]
end Go.Proofs.Ytbffeiakdigdmaa.Pure
