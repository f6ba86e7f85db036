/- FnExactSenderKey: what the law's functions compute, over numbers and lists, answers true for every input that its bounds let in. -/
import Derived.Test.YtcdaiclfomekhaaM
import Derived.Test.YtcdaiclfomekhaaQxDDONMK
namespace Go.Proofs.Ytcdaiclfomekhaa.Pure
open Go.RowKit Go.Proofs.Ytcdaiclfomekhaa.M Go.Proofs.Ytcdaiclfomekhaa.Q Go.Proofs.YtcdaiclfomekhaaW.PrintWords Go.Proofs.YtcdaiclfomekhaaW.PrintLast
set_option linter.unusedVariables false
set_option linter.unusedSimpArgs false
-- l1In
theorem E_spec_l1In (a b c : Int) : spec_l1In.f a b c = some (decide (b ≤ a ∧ a ≤ c)) := by
  unfold spec_l1In.f
  by_cases h : a ≥ b
  · rw [if_pos h]; simp [show b ≤ a from h]
  · rw [if_neg h]; simp [show ¬ b ≤ a from h]

-- spec_Mod
theorem E_spec_Mod (a b : Int) : spec_Mod.f a b = some (modM a b) := by
  unfold spec_Mod.f modM
  rw [E_spec_l1In]
  simp only [Option.bind_some, decide_eq_true_eq]
  by_cases h : 1 ≤ b ∧ b ≤ 1000000000000
  · rw [if_pos h, if_pos h, if_neg (by omega)]
  · rw [if_neg h, if_neg h]

-- spec_Hash
theorem E_spec_Hash_l0 (l : List Int) (hl : l.length ≤ 4194304) : ∀ (d n k : Nat) (h : Int), n + d = l.length → d + 0 < k → spec_Hash.l0 k l h (n : Int) = some ((l.drop n).foldl stepM h) := by
  intro d
  induction d with
  | zero =>
    intro n k h hn hk 
    obtain ⟨k, rfl⟩ : ∃ m, k = m + 1 := ⟨k - 1, by omega⟩
    simp only [spec_Hash.l0]
    rw [if_neg (by omega), List.drop_eq_nil_of_le (by omega)]
    rfl
  | succ d ih =>
    intro n k h hn hk 
    obtain ⟨k, rfl⟩ : ∃ m, k = m + 1 := ⟨k - 1, by omega⟩
    have e1 : wrap64 ((n : Int) + 1) = ((n + 1 : Nat) : Int) := by rw [w64 (by omega) (by omega)]; omega
    simp only [spec_Hash.l0]
    rw [if_pos (by omega), if_pos (by omega), E_spec_Mod]
    simp only [Option.bind_some]
    rw [e1, rd_nat]
    rw [show (Int.tmod (wrap64 (wrap64 (wrap64 (h * 1000003) + modM (l.getD n 0) 2147483647) + 13)) 2147483647) = stepM h (l.getD n 0) from rfl]
    rw [ih (n + 1) k _ (by omega) (by omega), getD_drop l n 0 (by omega)]
    rfl

theorem E_spec_Hash (k : Nat) (l : List Int) (hk : 4194304 < k) (hl : l.length ≤ 4194304) : spec_Hash.f k l = some (hashM l) := by
  unfold spec_Hash.f
  have := E_spec_Hash_l0 l hl l.length 0 k 11 (by omega) (by omega)
  simpa [hashM] using this

-- spec_KeyedHash
theorem E_spec_KeyedHash (k : Nat) (a : Int) (l : List Int) (hk : 4194304 < k) (hl : l.length ≤ 4194300) : spec_KeyedHash.f k a l = some (khashM a l) := by
  unfold spec_KeyedHash.f
  simp only [Option.bind_some]
  rw [if_pos (by simp; omega), if_pos (by simp; omega), E_spec_Hash k _ hk (by simp; omega)]
  rfl

-- InRange
theorem E_impl_InRange (a b c : Int) : impl_InRange.f a b c = some (decide (b ≤ a ∧ a ≤ c)) := by
  unfold impl_InRange.f
  by_cases h : b ≤ a
  · rw [if_pos h]; simp [h]
  · rw [if_neg h]; simp [h]

-- impl_Mod
theorem E_impl_Mod (a b : Int) : impl_Mod.f a b = some (modM a b) := by
  unfold impl_Mod.f modM
  rw [E_impl_InRange]
  simp only [Option.bind_some, decide_eq_true_eq]
  by_cases h : 1 ≤ b ∧ b ≤ 1000000000000
  · rw [if_pos h, if_pos h, if_neg (by omega)]
  · rw [if_neg h, if_neg h]

-- impl_Hash
theorem E_impl_Hash_l0 (l : List Int) (hl : l.length ≤ 4194304) : ∀ (d n k : Nat) (h : Int), n + d = l.length → d + 0 < k → impl_Hash.l0 k h l (l.length : Int) (n : Int) = some ((l.drop n).foldl stepM h) := by
  intro d
  induction d with
  | zero =>
    intro n k h hn hk 
    obtain ⟨k, rfl⟩ : ∃ m, k = m + 1 := ⟨k - 1, by omega⟩
    simp only [impl_Hash.l0]
    rw [if_neg (by omega), List.drop_eq_nil_of_le (by omega)]
    rfl
  | succ d ih =>
    intro n k h hn hk 
    obtain ⟨k, rfl⟩ : ∃ m, k = m + 1 := ⟨k - 1, by omega⟩
    have e1 : wrap64 ((n : Int) + 1) = ((n + 1 : Nat) : Int) := by rw [w64 (by omega) (by omega)]; omega
    simp only [impl_Hash.l0]
    rw [if_pos (by omega), if_pos (by omega), if_pos (by omega), E_impl_Mod]
    simp only [Option.bind_some]
    rw [e1, rd_nat]
    rw [show (Int.tmod (wrap64 (wrap64 (wrap64 (h * 1000003) + modM (l.getD n 0) 2147483647) + 13)) 2147483647) = stepM h (l.getD n 0) from rfl]
    rw [ih (n + 1) k _ (by omega) (by omega), getD_drop l n 0 (by omega)]
    rfl

theorem E_impl_Hash (k : Nat) (l : List Int) (hk : 4194304 < k) (hl : l.length ≤ 4194304) : impl_Hash.f k l = some (hashM l) := by
  unfold impl_Hash.f
  have := E_impl_Hash_l0 l hl l.length 0 k 11 (by omega) (by omega)
  simpa [hashM] using this

-- slices_Grow_int_at_nil
theorem E_slices_Grow_int_at_nil (n : Int) (h0 : 0 ≤ n) (h1 : n < 17592186044416) : slices_Grow_int_at_nil.f n = some [] := by
  unfold slices_Grow_int_at_nil.f
  rw [if_neg (by omega)]
  have e : wrap64 n = n := w64 (by omega) (by omega)
  rw [e]
  by_cases h : n > 0
  · rw [if_pos h, if_pos (by omega), if_pos (by simp; omega)]
    simp
  · rw [if_neg h]

-- slices_Concat_int
def sumLen (ls : List (List Int)) : Int := (ls.map (fun l => (l.length : Int))).foldl (· + ·) 0
theorem foldl_add (l : List Int) : ∀ (a : Int), l.foldl (· + ·) a = a + l.foldl (· + ·) 0 := by
  induction l with
  | nil => intro a; simp
  | cons x l ih => intro a; simp only [List.foldl_cons]; rw [ih (a + x), ih (0 + x)]; omega
theorem sumLen_cons (l : List Int) (ls : List (List Int)) : sumLen (l :: ls) = l.length + sumLen ls := by
  unfold sumLen
  simp only [List.map_cons, List.foldl_cons]
  rw [foldl_add]
  omega
theorem sumLen_nonneg (ls : List (List Int)) : 0 ≤ sumLen ls := by
  induction ls with
  | nil => simp [sumLen]
  | cons l ls ih => rw [sumLen_cons]; omega
theorem E_slices_Concat_int_l1 (ls : List (List Int)) (hl : ls.length ≤ 1048576) : ∀ (d n k : Nat) (acc : List Int), n + d = ls.length → d + 0 < k → ((acc.length : Int) + sumLen (ls.drop n) < 17592186044416) → slices_Concat_int.l1 k acc ls (ls.length : Int) (n : Int) = some (acc ++ (ls.drop n).flatten) := by
  intro d
  induction d with
  | zero =>
    intro n k acc hn hk hs
    obtain ⟨k, rfl⟩ : ∃ m, k = m + 1 := ⟨k - 1, by omega⟩
    simp only [slices_Concat_int.l1]
    rw [if_neg (by omega), List.drop_eq_nil_of_le (by omega), List.flatten_nil, List.append_nil]
  | succ d ih =>
    intro n k acc hn hk hs
    obtain ⟨k, rfl⟩ : ∃ m, k = m + 1 := ⟨k - 1, by omega⟩
    have e1 : wrap64 ((n : Int) + 1) = ((n + 1 : Nat) : Int) := by rw [w64 (by omega) (by omega)]; omega
    simp only [slices_Concat_int.l1]
    rw [getD_drop ls n [] (by omega), sumLen_cons] at hs
    have hn0 := sumLen_nonneg (ls.drop (n + 1))
    have er : rd_L10 ls (n : Int) = ls.getD n [] := by simp [rd_L10]
    rw [if_pos (by omega), if_pos (by omega), if_pos (by omega), er, if_pos (by omega), e1]
    rw [ih (n + 1) k _ (by omega) (by omega) (by rw [List.length_append]; omega), getD_drop ls n [] (by omega), List.flatten_cons, List.append_assoc]
theorem E_slices_Concat_int_l0 (ls : List (List Int)) (hl : ls.length ≤ 1048576) : ∀ (d n k : Nat) (s : Int), n + d = ls.length → d + 1048578 < k → (0 ≤ s) → (s + sumLen (ls.drop n) < 17592186044416) → (sumLen ls < 17592186044416) → slices_Concat_int.l0 k ls s ls (ls.length : Int) (n : Int) = some (ls.flatten) := by
  intro d
  induction d with
  | zero =>
    intro n k s hn hk h0 hs ht
    obtain ⟨k, rfl⟩ : ∃ m, k = m + 1 := ⟨k - 1, by omega⟩
    simp only [slices_Concat_int.l0]
    rw [if_neg (by omega)]
    rw [List.drop_eq_nil_of_le (by omega)] at hs
    have hz : sumLen ([] : List (List Int)) = 0 := by simp [sumLen]
    rw [E_slices_Grow_int_at_nil s (by omega) (by omega)]
    simp only [Option.bind_some]
    have := E_slices_Concat_int_l1 ls hl ls.length 0 k [] (by omega) (by omega) (by simp; omega)
    simpa using this
  | succ d ih =>
    intro n k s hn hk h0 hs ht
    obtain ⟨k, rfl⟩ : ∃ m, k = m + 1 := ⟨k - 1, by omega⟩
    have e1 : wrap64 ((n : Int) + 1) = ((n + 1 : Nat) : Int) := by rw [w64 (by omega) (by omega)]; omega
    simp only [slices_Concat_int.l0]
    rw [getD_drop ls n [] (by omega), sumLen_cons] at hs
    have hn0 := sumLen_nonneg (ls.drop (n + 1))
    have er : rd_L10 ls (n : Int) = ls.getD n [] := by simp [rd_L10]
    rw [if_pos (by omega), if_pos (by omega), if_pos (by omega), er, w64 (x := s + ((ls.getD n []).length : Int)) (by omega) (by omega), if_neg (by omega), e1]
    rw [ih (n + 1) k _ (by omega) (by omega) (by omega) (by omega) ht]

theorem E_slices_Concat_int (k : Nat) (ls : List (List Int)) (hk : 4194304 < k) (hl : ls.length ≤ 1048576) (hs : sumLen ls < 17592186044416) : slices_Concat_int.f k ls = some ls.flatten := by
  unfold slices_Concat_int.f
  exact E_slices_Concat_int_l0 ls hl ls.length 0 k 0 (by omega) (by omega) (by omega) (by simpa using hs) hs

-- impl_KeyedHash
theorem E_impl_KeyedHash (k : Nat) (a : Int) (l : List Int) (hk : 4194304 < k) (hl : l.length ≤ 4194300) : impl_KeyedHash.f k a l = some (khashM a l) := by
  unfold impl_KeyedHash.f
  have hs : sumLen [[a], l, [a]] = l.length + 2 := by simp [sumLen_cons, sumLen]; omega
  rw [E_slices_Concat_int k _ hk (by simp) (by omega)]
  simp only [Option.bind_some, List.flatten_cons, List.flatten_nil, List.append_nil]
  rw [E_impl_Hash k _ hk (by simp; omega)]
  rfl

-- Max
theorem E_spec_Max1 (h : Int) (h0 : 0 ≤ h) : spec_Max.f 1 h = some (oneM h) := by
  unfold spec_Max.f oneM
  by_cases c : h = 0
  · rw [if_pos c, if_neg (by omega)]
  · rw [if_neg c]
    by_cases c2 : h > 1
    · rw [if_pos c2]
    · rw [if_neg c2, show h = 1 by omega]

-- orOne
theorem E_impl_orOne (h : Int) : impl_orOne.f h = some (oneM h) := by
  unfold impl_orOne.f oneM
  split <;> rfl

-- laws_toIntS
theorem E_laws_toIntS_l0 (l : List Int) (hl : l.length ≤ 2097152) : ∀ (d n k : Nat) (m : List Int), n + d = l.length → d + 0 < k → (m.length = l.length) → laws_toIntS.l0 k l m (n : Int) = some (m.take n ++ l.drop n) := by
  intro d
  induction d with
  | zero =>
    intro n k m hn hk hm
    obtain ⟨k, rfl⟩ : ∃ m, k = m + 1 := ⟨k - 1, by omega⟩
    simp only [laws_toIntS.l0]
    rw [if_neg (by omega), List.drop_eq_nil_of_le (by omega), List.append_nil, List.take_of_length_le (by omega)]
  | succ d ih =>
    intro n k m hn hk hm
    obtain ⟨k, rfl⟩ : ∃ m, k = m + 1 := ⟨k - 1, by omega⟩
    have e1 : wrap64 ((n : Int) + 1) = ((n + 1 : Nat) : Int) := by rw [w64 (by omega) (by omega)]; omega
    simp only [laws_toIntS.l0]
    rw [if_pos (by omega), if_pos (by omega), if_pos (by omega), e1, rd_nat]
    rw [ih (n + 1) k _ (by omega) (by omega) (by simp; omega), getD_drop l n 0 (by omega)]
    rw [show (n : Int).toNat = n by omega, take_set_snoc _ n _ (by omega), List.append_assoc]
    rfl

theorem E_laws_toIntS (k : Nat) (l : List Int) (hk : 4194304 < k) (hl : l.length ≤ 2097152) : laws_toIntS.f k l = some l := by
  unfold laws_toIntS.f
  rw [if_pos (by omega), if_pos (by omega)]
  have := E_laws_toIntS_l0 l hl l.length 0 k (List.replicate ((l.length : Int) : Int).toNat 0) (by omega) (by omega) (by simp)
  simpa using this

-- laws_toSenderGroup
theorem E_laws_toSenderGroup (k : Nat) (a b c : Int) (l : List Int) (hk : 4194304 < k) (hl : l.length ≤ 2097152) : laws_toSenderGroup.f k a b c l = some (a, b, c, l) := by
  unfold laws_toSenderGroup.f
  rw [E_laws_toIntS k l hk hl]
  rfl

-- laws_eqIntS
theorem E_laws_eqIntS_l0 (l m : List Int) (hl : l.length ≤ 2097152) (hm : l.length = m.length) : ∀ (d n k : Nat) , n + d = l.length → d + 0 < k → laws_eqIntS.l0 k l m (n : Int) = some (decide (l.drop n = m.drop n)) := by
  intro d
  induction d with
  | zero =>
    intro n k  hn hk 
    obtain ⟨k, rfl⟩ : ∃ m, k = m + 1 := ⟨k - 1, by omega⟩
    simp only [laws_eqIntS.l0]
    rw [if_neg (by omega), List.drop_eq_nil_of_le (by omega), List.drop_eq_nil_of_le (by omega)]
    rfl
  | succ d ih =>
    intro n k  hn hk 
    obtain ⟨k, rfl⟩ : ∃ m, k = m + 1 := ⟨k - 1, by omega⟩
    have e1 : wrap64 ((n : Int) + 1) = ((n + 1 : Nat) : Int) := by rw [w64 (by omega) (by omega)]; omega
    simp only [laws_eqIntS.l0]
    rw [if_pos (by omega), if_pos (by omega), if_pos (by omega), e1, rd_nat, rd_nat, getD_drop l n 0 (by omega), getD_drop m n 0 (by omega)]
    by_cases h : l.getD n 0 = m.getD n 0
    · rw [if_pos h, ih (n + 1) k (by omega) (by omega), h]
      simp only [List.cons.injEq, true_and]
    · rw [if_neg h, decide_eq_false (fun e => h (List.cons.inj e).1)]

theorem E_laws_eqIntS (k : Nat) (l m : List Int) (hk : 4194304 < k) (hl : l.length ≤ 2097152) : laws_eqIntS.f k l m = some (decide (l = m)) := by
  unfold laws_eqIntS.f
  by_cases h : (l.length : Int) = (m.length : Int)
  · rw [if_pos h]
    have := E_laws_eqIntS_l0 l m hl (by omega) l.length 0 k (by omega) (by omega)
    simpa using this
  · rw [if_neg h]
    have : l ≠ m := fun e => h (by rw [e])
    simp [this]

-- laws_eqSenderGroup
theorem E_laws_eqSenderGroup (k : Nat) (a b c : Int) (l : List Int) (hk : 4194304 < k) (hl : l.length ≤ 2097152) : laws_eqSenderGroup.f k a b c l a b c l = some true := by
  unfold laws_eqSenderGroup.f
  rw [if_pos rfl, if_pos rfl, if_pos rfl, E_laws_eqIntS k l l hk hl]
  simp

-- Z_szIntS
theorem Z_laws_szIntS (l : List Int) (n : Int) (hl : l.length ≤ 9223372036854775807) (h0 : 0 ≤ n) (h1 : n ≤ 1048576) : ∃ v, laws_szIntS.f l n = some v ∧ -1 ≤ v ∧ (0 ≤ v → v ≤ n ∧ (l.length : Int) ≤ n) := by
  unfold laws_szIntS.f
  rw [w64 (by omega) (by omega)]
  by_cases h : (l.length : Int) ≤ n
  · rw [if_neg (by omega)]
    exact ⟨_, rfl, by omega, fun _ => by omega⟩
  · rw [if_pos (by omega)]
    exact ⟨_, rfl, by omega, fun h => absurd h (by omega)⟩

-- FnExactSenderKey
theorem FnExactSenderKey : laws_FnExactSenderKey.Pure := by
  intro a b cc l n ha hb hc hl hn
  have hm := hl.1
  unfold maxLen at hm
  refine ⟨8388608, ?_⟩
  unfold laws_FnExactSenderKey.f laws_szSenderGroup.f spec_SenderKey.f impl_SenderKey.f
  obtain ⟨v, hv, hv1, hv2⟩ := Z_laws_szIntS l 1048576 (by omega) (by omega) (by omega)
  rw [hv]
  simp only [Option.bind_some]
  by_cases c : v < 0
  · rw [if_pos c]
    rfl
  · rw [if_neg c]
    have h2 := hv2 (by omega)
    simp only [Option.bind_some]
    rw [if_neg c, E_laws_toSenderGroup _ a b cc l (by omega) (by omega)]
    simp only [Option.bind_some]
    rw [E_spec_KeyedHash _ _ _ (by omega) (by simp), E_impl_KeyedHash _ _ _ (by omega) (by simp)]
    simp only [Option.bind_some]
    rw [E_spec_Max1 _ (khashM_range _ _).1, E_impl_orOne]
    simp only [Option.bind_some]
    rw [if_pos trivial, E_laws_eqSenderGroup _ a b cc l (by omega) (by omega)]
    simp
end Go.Proofs.Ytcdaiclfomekhaa.Pure
