/- FnExactRowHash: what the law's functions compute, over numbers and lists, answers true for every input that its bounds let in. -/
import Derived.Test.YtbffeiakdigdmaaM
import Derived.Test.YtbffeiakdigdmaaQx6
namespace Go.Proofs.Ytbffeiakdigdmaa.Pure
open Go.RowKit Go.Proofs.Ytbffeiakdigdmaa.M Go.Proofs.Ytbffeiakdigdmaa.Q Go.Proofs.YtbffeiakdigdmaaW.PrintWords Go.Proofs.YtbffeiakdigdmaaW.PrintLast
set_option linter.unusedVariables false
set_option linter.unusedSimpArgs false
-- spec_BytesToInts
theorem E_spec_BytesToInts_l0 (l : List Int) (hl : l.length ≤ 2097152) (hb : ∀ x ∈ l, 0 ≤ x ∧ x ≤ 255) : ∀ (d n k : Nat) (acc : List Int), n + d = l.length → d + 0 < k → (acc.length ≤ n + 1) → spec_BytesToInts.l0 k l acc (n : Int) = some (acc ++ l.drop n) := by
  intro d
  induction d with
  | zero =>
    intro n k acc hn hk ha
    obtain ⟨k, rfl⟩ : ∃ m, k = m + 1 := ⟨k - 1, by omega⟩
    simp only [spec_BytesToInts.l0]
    rw [if_neg (by omega), List.drop_eq_nil_of_le (by omega), List.append_nil]
  | succ d ih =>
    intro n k acc hn hk ha
    obtain ⟨k, rfl⟩ : ∃ m, k = m + 1 := ⟨k - 1, by omega⟩
    have e1 : wrap64 ((n : Int) + 1) = ((n + 1 : Nat) : Int) := by rw [w64 (by omega) (by omega)]; omega
    simp only [spec_BytesToInts.l0]
    have hx := hb (l.getD n 0) (by rw [List.getD_eq_getElem?_getD, List.getElem?_eq_getElem (show n < l.length by omega)]; exact List.getElem_mem _)
    rw [if_pos (by omega), if_pos (by omega), if_pos (by omega), e1, rd_nat, w64 (by omega) (by omega)]
    rw [ih (n + 1) k _ (by omega) (by omega) (by simp; omega), getD_drop l n 0 (by omega), List.append_assoc]
    rfl

theorem E_spec_BytesToInts (k : Nat) (l : List Int) (hk : 4194304 < k) (hl : l.length ≤ 2097152) (hb : ∀ x ∈ l, 0 ≤ x ∧ x ≤ 255) : spec_BytesToInts.f k l = some ((l.length : Int) :: l) := by
  unfold spec_BytesToInts.f
  have := E_spec_BytesToInts_l0 l hl hb l.length 0 k [(l.length : Int)] (by omega) (by omega) (by simp)
  simpa using this

-- l1In
theorem E_spec_l1In (a b c : Int) : spec_l1In.f a b c = some (decide (b ≤ a ∧ a ≤ c)) := by
  unfold spec_l1In.f
  by_cases h : a ≥ b
  · rw [if_pos h]; simp [show b ≤ a from h]
  · rw [if_neg h]; simp [show ¬ b ≤ a from h]

-- spec_Mod
theorem E_spec_Mod (a b : Int) : spec_Mod.f a b = some (modM a b) := by
  unfold spec_Mod.f modM
  rw [E_spec_l1In]
  simp only [Option.bind_some, decide_eq_true_eq]
  by_cases h : 1 ≤ b ∧ b ≤ 1000000000000
  · rw [if_pos h, if_pos h, if_neg (by omega)]
  · rw [if_neg h, if_neg h]

-- spec_Hash
theorem E_spec_Hash_l0 (l : List Int) (hl : l.length ≤ 4194304) : ∀ (d n k : Nat) (h : Int), n + d = l.length → d + 0 < k → spec_Hash.l0 k l h (n : Int) = some ((l.drop n).foldl stepM h) := by
  intro d
  induction d with
  | zero =>
    intro n k h hn hk 
    obtain ⟨k, rfl⟩ : ∃ m, k = m + 1 := ⟨k - 1, by omega⟩
    simp only [spec_Hash.l0]
    rw [if_neg (by omega), List.drop_eq_nil_of_le (by omega)]
    rfl
  | succ d ih =>
    intro n k h hn hk 
    obtain ⟨k, rfl⟩ : ∃ m, k = m + 1 := ⟨k - 1, by omega⟩
    have e1 : wrap64 ((n : Int) + 1) = ((n + 1 : Nat) : Int) := by rw [w64 (by omega) (by omega)]; omega
    simp only [spec_Hash.l0]
    rw [if_pos (by omega), if_pos (by omega), E_spec_Mod]
    simp only [Option.bind_some]
    rw [e1, rd_nat]
    rw [show (Int.tmod (wrap64 (wrap64 (wrap64 (h * 1000003) + modM (l.getD n 0) 2147483647) + 13)) 2147483647) = stepM h (l.getD n 0) from rfl]
    rw [ih (n + 1) k _ (by omega) (by omega), getD_drop l n 0 (by omega)]
    rfl

theorem E_spec_Hash (k : Nat) (l : List Int) (hk : 4194304 < k) (hl : l.length ≤ 4194304) : spec_Hash.f k l = some (hashM l) := by
  unfold spec_Hash.f
  have := E_spec_Hash_l0 l hl l.length 0 k 11 (by omega) (by omega)
  simpa [hashM] using this

-- spec_RowHash
theorem E_spec_RowHash (k : Nat) (a : Int) (l : List Int) (hk : 4194304 < k) (hl : l.length ≤ 2097152) (hb : ∀ x ∈ l, 0 ≤ x ∧ x ≤ 255) : spec_RowHash.f k a l = some (hashM (163 :: a :: (l.length : Int) :: l)) := by
  unfold spec_RowHash.f
  simp only [Option.bind_some]
  rw [E_spec_BytesToInts k l hk hl hb]
  simp only [Option.bind_some]
  rw [if_pos (by simp; omega), E_spec_Hash k _ hk (by simp; omega)]
  rfl

-- impl_BytesToInts
theorem E_impl_BytesToInts_l0 (l : List Int) (hl : l.length ≤ 2097152) (hb : ∀ x ∈ l, 0 ≤ x ∧ x ≤ 255) : ∀ (d n k : Nat) (acc : List Int), n + d = l.length → d + 0 < k → (acc.length ≤ n + 1) → impl_BytesToInts.l0 k acc l (l.length : Int) (n : Int) = some (acc ++ l.drop n) := by
  intro d
  induction d with
  | zero =>
    intro n k acc hn hk ha
    obtain ⟨k, rfl⟩ : ∃ m, k = m + 1 := ⟨k - 1, by omega⟩
    simp only [impl_BytesToInts.l0]
    rw [if_neg (by omega), List.drop_eq_nil_of_le (by omega), List.append_nil]
  | succ d ih =>
    intro n k acc hn hk ha
    obtain ⟨k, rfl⟩ : ∃ m, k = m + 1 := ⟨k - 1, by omega⟩
    have e1 : wrap64 ((n : Int) + 1) = ((n + 1 : Nat) : Int) := by rw [w64 (by omega) (by omega)]; omega
    simp only [impl_BytesToInts.l0]
    have hx := hb (l.getD n 0) (by rw [List.getD_eq_getElem?_getD, List.getElem?_eq_getElem (show n < l.length by omega)]; exact List.getElem_mem _)
    rw [if_pos (by omega), if_pos (by omega), if_pos (by omega), if_pos (by omega), e1, rd_nat, w64 (by omega) (by omega)]
    rw [ih (n + 1) k _ (by omega) (by omega) (by simp; omega), getD_drop l n 0 (by omega), List.append_assoc]
    rfl

theorem E_impl_BytesToInts (k : Nat) (l : List Int) (hk : 4194304 < k) (hl : l.length ≤ 2097152) (hb : ∀ x ∈ l, 0 ≤ x ∧ x ≤ 255) : impl_BytesToInts.f k l = some ((l.length : Int) :: l) := by
  unfold impl_BytesToInts.f
  have := E_impl_BytesToInts_l0 l hl hb l.length 0 k [(l.length : Int)] (by omega) (by omega) (by simp)
  simpa using this

-- InRange
theorem E_impl_InRange (a b c : Int) : impl_InRange.f a b c = some (decide (b ≤ a ∧ a ≤ c)) := by
  unfold impl_InRange.f
  by_cases h : b ≤ a
  · rw [if_pos h]; simp [h]
  · rw [if_neg h]; simp [h]

-- impl_Mod
theorem E_impl_Mod (a b : Int) : impl_Mod.f a b = some (modM a b) := by
  unfold impl_Mod.f modM
  rw [E_impl_InRange]
  simp only [Option.bind_some, decide_eq_true_eq]
  by_cases h : 1 ≤ b ∧ b ≤ 1000000000000
  · rw [if_pos h, if_pos h, if_neg (by omega)]
  · rw [if_neg h, if_neg h]

-- impl_Hash
theorem E_impl_Hash_l0 (l : List Int) (hl : l.length ≤ 4194304) : ∀ (d n k : Nat) (h : Int), n + d = l.length → d + 0 < k → impl_Hash.l0 k h l (l.length : Int) (n : Int) = some ((l.drop n).foldl stepM h) := by
  intro d
  induction d with
  | zero =>
    intro n k h hn hk 
    obtain ⟨k, rfl⟩ : ∃ m, k = m + 1 := ⟨k - 1, by omega⟩
    simp only [impl_Hash.l0]
    rw [if_neg (by omega), List.drop_eq_nil_of_le (by omega)]
    rfl
  | succ d ih =>
    intro n k h hn hk 
    obtain ⟨k, rfl⟩ : ∃ m, k = m + 1 := ⟨k - 1, by omega⟩
    have e1 : wrap64 ((n : Int) + 1) = ((n + 1 : Nat) : Int) := by rw [w64 (by omega) (by omega)]; omega
    simp only [impl_Hash.l0]
    rw [if_pos (by omega), if_pos (by omega), if_pos (by omega), E_impl_Mod]
    simp only [Option.bind_some]
    rw [e1, rd_nat]
    rw [show (Int.tmod (wrap64 (wrap64 (wrap64 (h * 1000003) + modM (l.getD n 0) 2147483647) + 13)) 2147483647) = stepM h (l.getD n 0) from rfl]
    rw [ih (n + 1) k _ (by omega) (by omega), getD_drop l n 0 (by omega)]
    rfl

theorem E_impl_Hash (k : Nat) (l : List Int) (hk : 4194304 < k) (hl : l.length ≤ 4194304) : impl_Hash.f k l = some (hashM l) := by
  unfold impl_Hash.f
  have := E_impl_Hash_l0 l hl l.length 0 k 11 (by omega) (by omega)
  simpa [hashM] using this

-- impl_RowHash
theorem E_impl_RowHash (k : Nat) (a : Int) (l : List Int) (hk : 4194304 < k) (hl : l.length ≤ 2097152) (hb : ∀ x ∈ l, 0 ≤ x ∧ x ≤ 255) : impl_RowHash.f k a l = some (hashM (163 :: a :: (l.length : Int) :: l)) := by
  unfold impl_RowHash.f
  simp only [Option.bind_some]
  rw [E_impl_BytesToInts k l hk hl hb]
  simp only [Option.bind_some]
  rw [if_pos (by simp; omega), E_impl_Hash k _ hk (by simp; omega)]
  rfl

-- laws_toByteS
theorem E_laws_toByteS_l0 (l : List Int) (hl : l.length ≤ 2097152) : ∀ (d n k : Nat) (m : List Int), n + d = l.length → d + 0 < k → (m.length = l.length) → laws_toByteS.l0 k l m (n : Int) = some (m.take n ++ l.drop n) := by
  intro d
  induction d with
  | zero =>
    intro n k m hn hk hm
    obtain ⟨k, rfl⟩ : ∃ m, k = m + 1 := ⟨k - 1, by omega⟩
    simp only [laws_toByteS.l0]
    rw [if_neg (by omega), List.drop_eq_nil_of_le (by omega), List.append_nil, List.take_of_length_le (by omega)]
  | succ d ih =>
    intro n k m hn hk hm
    obtain ⟨k, rfl⟩ : ∃ m, k = m + 1 := ⟨k - 1, by omega⟩
    have e1 : wrap64 ((n : Int) + 1) = ((n + 1 : Nat) : Int) := by rw [w64 (by omega) (by omega)]; omega
    simp only [laws_toByteS.l0]
    rw [if_pos (by omega), if_pos (by omega), if_pos (by omega), e1, rd_nat]
    rw [ih (n + 1) k _ (by omega) (by omega) (by simp; omega), getD_drop l n 0 (by omega)]
    rw [show (n : Int).toNat = n by omega, take_set_snoc _ n _ (by omega), List.append_assoc]
    rfl

theorem E_laws_toByteS (k : Nat) (l : List Int) (hk : 4194304 < k) (hl : l.length ≤ 2097152) : laws_toByteS.f k l = some l := by
  unfold laws_toByteS.f
  rw [if_pos (by omega), if_pos (by omega)]
  have := E_laws_toByteS_l0 l hl l.length 0 k (List.replicate ((l.length : Int) : Int).toNat 0) (by omega) (by omega) (by simp)
  simpa using this

-- laws_eqByteS
theorem E_laws_eqByteS_l0 (l m : List Int) (hl : l.length ≤ 2097152) (hm : l.length = m.length) : ∀ (d n k : Nat) , n + d = l.length → d + 0 < k → laws_eqByteS.l0 k l m (n : Int) = some (decide (l.drop n = m.drop n)) := by
  intro d
  induction d with
  | zero =>
    intro n k  hn hk 
    obtain ⟨k, rfl⟩ : ∃ m, k = m + 1 := ⟨k - 1, by omega⟩
    simp only [laws_eqByteS.l0]
    rw [if_neg (by omega), List.drop_eq_nil_of_le (by omega), List.drop_eq_nil_of_le (by omega)]
    rfl
  | succ d ih =>
    intro n k  hn hk 
    obtain ⟨k, rfl⟩ : ∃ m, k = m + 1 := ⟨k - 1, by omega⟩
    have e1 : wrap64 ((n : Int) + 1) = ((n + 1 : Nat) : Int) := by rw [w64 (by omega) (by omega)]; omega
    simp only [laws_eqByteS.l0]
    rw [if_pos (by omega), if_pos (by omega), if_pos (by omega), e1, rd_nat, rd_nat, getD_drop l n 0 (by omega), getD_drop m n 0 (by omega)]
    by_cases h : l.getD n 0 = m.getD n 0
    · rw [if_pos h, ih (n + 1) k (by omega) (by omega), h]
      simp only [List.cons.injEq, true_and]
    · rw [if_neg h, decide_eq_false (fun e => h (List.cons.inj e).1)]

theorem E_laws_eqByteS (k : Nat) (l m : List Int) (hk : 4194304 < k) (hl : l.length ≤ 2097152) : laws_eqByteS.f k l m = some (decide (l = m)) := by
  unfold laws_eqByteS.f
  by_cases h : (l.length : Int) = (m.length : Int)
  · rw [if_pos h]
    have := E_laws_eqByteS_l0 l m hl (by omega) l.length 0 k (by omega) (by omega)
    simpa using this
  · rw [if_neg h]
    have : l ≠ m := fun e => h (by rw [e])
    simp [this]

-- FnExactRowHash
theorem FnExactRowHash : laws_FnExactRowHash.Pure := by
  intro a l _ hw0
  have hw := hw0.2
  refine ⟨8388608, ?_⟩
  unfold laws_FnExactRowHash.f
  by_cases h : (l.length : Int) > 1048576
  · rw [if_pos h]
  · have hb : ∀ x ∈ l, 0 ≤ x ∧ x ≤ 255 := fun x hx => wf8 (hw x hx)
    have hl : l.length ≤ 2097152 := by omega
    rw [if_neg h, E_laws_toByteS _ l (by omega) hl]
    simp only [Option.bind_some]
    rw [E_spec_RowHash _ a l (by omega) hl hb, E_impl_RowHash _ a l (by omega) hl hb]
    simp only [Option.bind_some]
    rw [if_pos trivial, E_laws_eqByteS _ l l (by omega) hl]
    simp
end Go.Proofs.Ytbffeiakdigdmaa.Pure
