/- FnExactRemoveMember: what the law's functions compute, over numbers and lists, answers true for every input that its bounds let in. -/
import Derived.Test.YtgdfnoipcompkaaM
import Derived.Test.YtgdfnoipcompkaaQxPKFACK
namespace Go.Proofs.Ytgdfnoipcompkaa.Pure
open Go.RowKit Go.Proofs.Ytgdfnoipcompkaa.M Go.Proofs.Ytgdfnoipcompkaa.Q Go.Proofs.YtgdfnoipcompkaaW.PrintWords Go.Proofs.YtgdfnoipcompkaaW.PrintLast
set_option linter.unusedVariables false
set_option linter.unusedSimpArgs false
-- markI
theorem E_laws_markIntS_l0 (l : List Int) (hl : l.length ≤ 2097152) : ∀ (d n k : Nat) (m : List Int) (x : Int), n + d = l.length → d + 0 < k → (m.length = l.length) → (0 ≤ x) → (x + (l.length - n : Nat) ≤ 4194304) → laws_markIntS.l0 k m x (n : Int) = some ((x + (l.length - n : Nat), m.take n ++ markI x (l.length - n))) := by
  intro d
  induction d with
  | zero =>
    intro n k m x hn hk hm h0 h1
    obtain ⟨k, rfl⟩ : ∃ m, k = m + 1 := ⟨k - 1, by omega⟩
    simp only [laws_markIntS.l0]
    have e : l.length - n = 0 := by omega
    rw [if_neg (by omega), e]
    simp only [markI, List.append_nil]
    rw [List.take_of_length_le (by omega)]
    simp
  | succ d ih =>
    intro n k m x hn hk hm h0 h1
    obtain ⟨k, rfl⟩ : ∃ m, k = m + 1 := ⟨k - 1, by omega⟩
    have e1 : wrap64 ((n : Int) + 1) = ((n + 1 : Nat) : Int) := by rw [w64 (by omega) (by omega)]; omega
    simp only [laws_markIntS.l0]
    have e : l.length - n = (l.length - (n + 1)) + 1 := by omega
    rw [if_pos (by omega), if_pos (by omega), e1, w64 (x := x + 1) (by omega) (by omega)]
    rw [ih (n + 1) k _ _ (by omega) (by omega) (by simp; omega) (by omega) (by omega), e]
    simp only [markI]
    rw [show (n : Int).toNat = n by omega, take_set_snoc _ n _ (by omega), List.append_assoc]
    rw [show x + 1 + ((l.length - (n + 1) : Nat) : Int) = x + ((l.length - (n + 1) + 1 : Nat) : Int) by omega]
    rfl

theorem E_laws_markIntS (k : Nat) (l : List Int) (x : Int) (hk : 4194304 < k) (hl : l.length ≤ 2097152) (h0 : 0 ≤ x) (h1 : x ≤ 2097152) : laws_markIntS.f k l x = some (x + l.length, markI x l.length) := by
  unfold laws_markIntS.f
  have := E_laws_markIntS_l0 l hl l.length 0 k l x (by omega) (by omega) rfl h0 (by omega)
  simpa using this
theorem E_laws_heldIntS_l0 (l : List Int) (x0 : Int) (n0 : Nat) (hn0 : n0 ≤ 2097152) (h0 : 0 ≤ x0) (h1 : x0 ≤ 2097152) (hl : l = markI x0 n0) : ∀ (d n k : Nat), n + d = n0 → d < k → laws_heldIntS.l0 k l (x0 + n) (n : Int) = some (x0 + n0) := by
  have hlen : l.length = n0 := by rw [hl, markI_length]
  intro d
  induction d with
  | zero =>
    intro n k hn hk
    obtain ⟨k, rfl⟩ : ∃ m, k = m + 1 := ⟨k - 1, by omega⟩
    simp only [laws_heldIntS.l0]
    rw [if_neg (by omega)]
    congr 1
    omega
  | succ d ih =>
    intro n k hn hk
    obtain ⟨k, rfl⟩ : ∃ m, k = m + 1 := ⟨k - 1, by omega⟩
    simp only [laws_heldIntS.l0]
    rw [if_pos (by omega), if_pos (by omega), rd_nat, hl, markI_get _ _ _ (by omega), if_pos rfl, w64 (by omega) (by omega), w64 (by omega) (by omega), ← hl]
    have := ih (n + 1) k (by omega) (by omega)
    rw [← this]
    congr 1
    · omega
theorem E_laws_heldIntS (k : Nat) (x : Int) (n : Nat) (hk : 4194304 < k) (hn : n ≤ 2097152) (h0 : 0 ≤ x) (h1 : x ≤ 2097152) : laws_heldIntS.f k (markI x n) x = some (x + n) := by
  unfold laws_heldIntS.f
  have := E_laws_heldIntS_l0 (markI x n) x n hn h0 h1 rfl n 0 k (by omega) (by omega)
  simpa using this

-- l1In
theorem E_spec_l1In (a b c : Int) : spec_l1In.f a b c = some (decide (b ≤ a ∧ a ≤ c)) := by
  unfold spec_l1In.f
  by_cases h : a ≥ b
  · rw [if_pos h]; simp [show b ≤ a from h]
  · rw [if_neg h]; simp [show ¬ b ≤ a from h]

-- spec_IsValidKey
theorem E_spec_IsValidKey (a : Int) : spec_IsValidKey.f a = some (decide (1 ≤ a ∧ a ≤ 2147483646)) := by
  unfold spec_IsValidKey.f
  rw [E_spec_l1In]
  rfl

-- ascFrom
def ascAt (l : List Int) (i : Nat) : Prop := (0 ≤ l.getD i 0 ∧ l.getD i 0 ≤ 1000000000000) ∧ (0 < i → l.getD (i - 1) 0 < l.getD i 0)
def ascFrom (l : List Int) (n : Nat) : Prop := ∀ i, n ≤ i → i < l.length → ascAt l i
theorem ascFrom_end (l : List Int) (n : Nat) (h : l.length ≤ n) : ascFrom l n := fun i h1 h2 => absurd h2 (by omega)
theorem ascFrom_step (l : List Int) (n : Nat) (h : n < l.length) : ascFrom l n ↔ ascAt l n ∧ ascFrom l (n + 1) := by
  constructor
  · exact fun hh => ⟨hh n (Nat.le_refl _) h, fun i h1 h2 => hh i (by omega) h2⟩
  · rintro ⟨h0, hh⟩ i h1 h2
    rcases Nat.lt_or_ge n i with h3 | h3
    · exact hh i h3 h2
    · obtain rfl : i = n := by omega
      exact h0
def groupOk (a b c : Int) (l : List Int) : Prop := (0 ≤ a ∧ a ≤ 1000000000000) ∧ (0 ≤ b ∧ b ≤ 100000) ∧ (1 ≤ c ∧ c ≤ 2147483646) ∧ (l.length : Int) ≤ 8 ∧ ascFrom l 0

-- spec_IsValidGroup
theorem E_spec_IsValidGroup_l0 (a b c : Int) (l : List Int) (hl : l.length ≤ 1048577) : ∀ (d n k : Nat) , n + d = l.length → d + 0 < k → ∃ v, spec_IsValidGroup.l0 k (n : Int) a b c l = some v ∧ (v = true ↔ ascFrom l n ∧ (0 ≤ a ∧ a ≤ 1000000000000) ∧ (0 ≤ b ∧ b ≤ 100000) ∧ (1 ≤ c ∧ c ≤ 2147483646) ∧ (l.length : Int) ≤ 8) := by
  intro d
  induction d with
  | zero =>
    intro n k  hn hk 
    obtain ⟨k, rfl⟩ : ∃ m, k = m + 1 := ⟨k - 1, by omega⟩
    simp only [spec_IsValidGroup.l0]
    rw [if_neg (by omega), E_spec_l1In, E_spec_l1In, E_spec_IsValidKey]
    simp only [Option.bind_some, decide_eq_true_eq]
    have h0 := ascFrom_end l n (by omega)
    by_cases c0 : 0 ≤ a ∧ a ≤ 1000000000000
    · rw [if_pos c0]
      by_cases c1 : 0 ≤ b ∧ b ≤ 100000
      · rw [if_pos c1]
        by_cases c2 : 1 ≤ c ∧ c ≤ 2147483646
        · rw [if_pos c2]
          exact ⟨_, rfl, by rw [decide_eq_true_eq]; exact ⟨fun h => ⟨h0, c0, c1, c2, h⟩, fun h => h.2.2.2.2⟩⟩
        · rw [if_neg c2]
          exact ⟨false, rfl, by simp only [Bool.false_eq_true, false_iff]; exact fun h => c2 h.2.2.2.1⟩
      · rw [if_neg c1]
        exact ⟨false, rfl, by simp only [Bool.false_eq_true, false_iff]; exact fun h => c1 h.2.2.1⟩
    · rw [if_neg c0]
      exact ⟨false, rfl, by simp only [Bool.false_eq_true, false_iff]; exact fun h => c0 h.2.1⟩
  | succ d ih =>
    intro n k  hn hk 
    obtain ⟨k, rfl⟩ : ∃ m, k = m + 1 := ⟨k - 1, by omega⟩
    have e1 : wrap64 ((n : Int) + 1) = ((n + 1 : Nat) : Int) := by rw [w64 (by omega) (by omega)]; omega
    simp only [spec_IsValidGroup.l0]
    rw [if_pos (by omega), if_pos (by omega), rd_nat, E_spec_l1In]
    simp only [Option.bind_some, decide_eq_true_eq]
    by_cases c0 : 0 ≤ l.getD n 0 ∧ l.getD n 0 ≤ 1000000000000
    · rw [if_pos c0]
      by_cases c1 : (n : Int) > 0
      · have e2 : wrap64 ((n : Int) - 1) = ((n - 1 : Nat) : Int) := by rw [w64 (by omega) (by omega)]; omega
        rw [if_pos c1, e2, if_pos (by omega), if_pos (by omega), rd_nat]
        by_cases c2 : l.getD (n - 1) 0 ≥ l.getD n 0
        · rw [if_pos c2]
          refine ⟨false, rfl, ?_⟩
          simp only [Bool.false_eq_true, false_iff]
          intro h
          have := (((ascFrom_step l n (by omega)).1 h.1).1).2 (by omega)
          omega
        · rw [if_neg c2, e1]
          obtain ⟨v, hv, h3⟩ := ih (n + 1) k (by omega) (by omega)
          refine ⟨v, hv, h3.trans ?_⟩
          rw [ascFrom_step l n (by omega)]
          have : ascAt l n := ⟨c0, fun _ => by omega⟩
          simp [this]
      · rw [if_neg c1, e1]
        obtain ⟨v, hv, h3⟩ := ih (n + 1) k (by omega) (by omega)
        refine ⟨v, hv, h3.trans ?_⟩
        rw [ascFrom_step l n (by omega)]
        have : ascAt l n := ⟨c0, fun h => absurd h (by omega)⟩
        simp [this]
    · rw [if_neg c0]
      refine ⟨false, rfl, ?_⟩
      simp only [Bool.false_eq_true, false_iff]
      intro h
      exact c0 (((ascFrom_step l n (by omega)).1 h.1).1).1

theorem E_spec_IsValidGroup (k : Nat) (a b c : Int) (l : List Int) (hk : 4194304 < k) (hl : l.length ≤ 1048577) : ∃ v, spec_IsValidGroup.f k a b c l = some v ∧ (v = true ↔ groupOk a b c l) := by
  unfold spec_IsValidGroup.f groupOk
  obtain ⟨v, hv, h⟩ := E_spec_IsValidGroup_l0 a b c l hl l.length 0 k (by omega) (by omega)
  exact ⟨v, hv, h.trans ⟨fun h => ⟨h.2.1, h.2.2.1, h.2.2.2.1, h.2.2.2.2, h.1⟩, fun h => ⟨h.2.2.2.2, h.1, h.2.1, h.2.2.1, h.2.2.2.1⟩⟩⟩

-- spec_Mod
theorem E_spec_Mod (a b : Int) : spec_Mod.f a b = some (modM a b) := by
  unfold spec_Mod.f modM
  rw [E_spec_l1In]
  simp only [Option.bind_some, decide_eq_true_eq]
  by_cases h : 1 ≤ b ∧ b ≤ 1000000000000
  · rw [if_pos h, if_pos h, if_neg (by omega)]
  · rw [if_neg h, if_neg h]

-- spec_Hash
theorem E_spec_Hash_l0 (l : List Int) (hl : l.length ≤ 4194304) : ∀ (d n k : Nat) (h : Int), n + d = l.length → d + 0 < k → spec_Hash.l0 k l h (n : Int) = some ((l.drop n).foldl stepM h) := by
  intro d
  induction d with
  | zero =>
    intro n k h hn hk 
    obtain ⟨k, rfl⟩ : ∃ m, k = m + 1 := ⟨k - 1, by omega⟩
    simp only [spec_Hash.l0]
    rw [if_neg (by omega), List.drop_eq_nil_of_le (by omega)]
    rfl
  | succ d ih =>
    intro n k h hn hk 
    obtain ⟨k, rfl⟩ : ∃ m, k = m + 1 := ⟨k - 1, by omega⟩
    have e1 : wrap64 ((n : Int) + 1) = ((n + 1 : Nat) : Int) := by rw [w64 (by omega) (by omega)]; omega
    simp only [spec_Hash.l0]
    rw [if_pos (by omega), if_pos (by omega), E_spec_Mod]
    simp only [Option.bind_some]
    rw [e1, rd_nat]
    rw [show (Int.tmod (wrap64 (wrap64 (wrap64 (h * 1000003) + modM (l.getD n 0) 2147483647) + 13)) 2147483647) = stepM h (l.getD n 0) from rfl]
    rw [ih (n + 1) k _ (by omega) (by omega), getD_drop l n 0 (by omega)]
    rfl

theorem E_spec_Hash (k : Nat) (l : List Int) (hk : 4194304 < k) (hl : l.length ≤ 4194304) : spec_Hash.f k l = some (hashM l) := by
  unfold spec_Hash.f
  have := E_spec_Hash_l0 l hl l.length 0 k 11 (by omega) (by omega)
  simpa [hashM] using this

-- spec_KeyedHash
theorem E_spec_KeyedHash (k : Nat) (a : Int) (l : List Int) (hk : 4194304 < k) (hl : l.length ≤ 4194300) : spec_KeyedHash.f k a l = some (khashM a l) := by
  unfold spec_KeyedHash.f
  simp only [Option.bind_some]
  rw [if_pos (by simp; omega), if_pos (by simp; omega), E_spec_Hash k _ hk (by simp; omega)]
  rfl

-- Max
theorem E_spec_Max1 (h : Int) (h0 : 0 ≤ h) : spec_Max.f 1 h = some (oneM h) := by
  unfold spec_Max.f oneM
  by_cases c : h = 0
  · rw [if_pos c, if_neg (by omega)]
  · rw [if_neg c]
    by_cases c2 : h > 1
    · rw [if_pos c2]
    · rw [if_neg c2, show h = 1 by omega]

-- spec_FreshSecret
theorem E_spec_FreshSecret (k : Nat) (a : Int) (hk : 4194304 < k) : spec_FreshSecret.f k a = some (oneM (khashM a [139])) := by
  unfold spec_FreshSecret.f
  rw [E_spec_KeyedHash k _ _ hk (by simp)]
  simp only [Option.bind_some]
  rw [E_spec_Max1 _ (khashM_range _ _).1]
  rfl

-- copies
theorem E_spec_l20Copy (a b c : Int) (l : List Int) (hl : l.length ≤ 2097152) : spec_l20Copy.f a b c l = some (a, b, c, l) := by
  unfold spec_l20Copy.f
  simp only [Option.bind_some, List.nil_append]
  rw [if_pos (by simp; omega)]
theorem E_impl_copySenders (a b c : Int) (l : List Int) (hl : l.length ≤ 2097152) : impl_copySenders.f a b c l = some (a, b, c, l) := by
  unfold impl_copySenders.f slices_Clone_int.f
  simp only [Option.bind_some, List.nil_append]
  rw [if_pos (by simp; omega)]
  rfl

-- spec_RemoveMember
theorem E_spec_RemoveMember_l0 (x a b c : Int) (l : List Int) (a2 b2 c2 : Int) (hl : l.length ≤ 1048576) : ∀ (d n k : Nat) (m : List Int), n + d = l.length → d + 4194310 < k → (m.length ≤ n) → ∃ v w : Bool, (v = true ↔ groupOk a b c l) ∧ (w = true ↔ groupOk a2 b2 c2 (m ++ (l.drop n).filter (fun y => !decide (y = x)))) ∧ spec_RemoveMember.l0 k x (n : Int) a b c l a2 b2 c2 m = some (if v = true ∧ w = true ∧ ¬ ((m ++ (l.drop n).filter (fun y => !decide (y = x))).length : Int) = l.length then (a2, b2, c2, m ++ (l.drop n).filter (fun y => !decide (y = x)), true) else (a, b, c, l, false)) := by
  intro d
  induction d with
  | zero =>
    intro n k m hn hk hm
    obtain ⟨k, rfl⟩ : ∃ m, k = m + 1 := ⟨k - 1, by omega⟩
    simp only [spec_RemoveMember.l0]
    rw [List.drop_eq_nil_of_le (by omega), List.filter_nil, List.append_nil]
    
    rw [if_neg (by omega)]
    obtain ⟨v, hv, hv1⟩ := E_spec_IsValidGroup k a b c l (by omega) (by omega)
    obtain ⟨w, hw, hw1⟩ := E_spec_IsValidGroup k a2 b2 c2 m (by omega) (by omega)
    refine ⟨v, w, hv1, hw1, ?_⟩
    rw [hv, hw, E_spec_l20Copy a b c l (by omega)]
    simp only [Option.bind_some]
    by_cases h1 : v = true
    · rw [if_pos h1]
      by_cases h2 : w = true
      · rw [if_pos h2]
        by_cases h3 : (m.length : Int) = (l.length : Int)
        · rw [if_pos h3, if_neg (fun h => h.2.2 h3)]
        · rw [if_neg h3, if_pos ⟨h1, h2, h3⟩]
      · rw [if_neg h2, if_neg (fun h => h2 h.2.1)]
    · rw [if_neg h1, if_neg (fun h => h1 h.1)]
  | succ d ih =>
    intro n k m hn hk hm
    obtain ⟨k, rfl⟩ : ∃ m, k = m + 1 := ⟨k - 1, by omega⟩
    have e1 : wrap64 ((n : Int) + 1) = ((n + 1 : Nat) : Int) := by rw [w64 (by omega) (by omega)]; omega
    simp only [spec_RemoveMember.l0]
    rw [if_pos (by omega), if_pos (by omega), rd_nat, getD_drop l n 0 (by omega), e1]
    by_cases c1 : l.getD n 0 = x
    · rw [if_pos c1, List.filter_cons_of_neg (by show ¬ (!decide (l.getD n 0 = x)) = true; rw [decide_eq_true c1]; decide)]
      exact ih (n + 1) k m (by omega) (by omega) (by omega)
    · rw [if_neg c1, if_pos (by omega), List.filter_cons_of_pos (by show (!decide (l.getD n 0 = x)) = true; rw [decide_eq_false c1]; rfl)]
      have := ih (n + 1) k (m ++ [l.getD n 0]) (by omega) (by omega) (by rw [List.length_append, List.length_singleton]; omega)
      rw [List.append_assoc] at this
      exact this

-- InRange
theorem E_impl_InRange (a b c : Int) : impl_InRange.f a b c = some (decide (b ≤ a ∧ a ≤ c)) := by
  unfold impl_InRange.f
  by_cases h : b ≤ a
  · rw [if_pos h]; simp [h]
  · rw [if_neg h]; simp [h]

-- impl_IsValidKey
theorem E_impl_IsValidKey (a : Int) : impl_IsValidKey.f a = some (decide (1 ≤ a ∧ a ≤ 2147483646)) := by
  unfold impl_IsValidKey.f
  rw [E_impl_InRange]
  rfl

-- impl_IsValidGroup
theorem E_impl_areAscending_l0 (l : List Int) (hl : l.length ≤ 1048577) : ∀ (d n k : Nat) , n + d = l.length → d + 0 < k → ∃ v, impl_areAscending.l0 k l 0 1000000000000 l (l.length : Int) (n : Int) = some v ∧ (v = true ↔ ascFrom l n) := by
  intro d
  induction d with
  | zero =>
    intro n k  hn hk 
    obtain ⟨k, rfl⟩ : ∃ m, k = m + 1 := ⟨k - 1, by omega⟩
    simp only [impl_areAscending.l0]
    rw [if_neg (by omega)]
    exact ⟨true, rfl, by simp only [true_iff]; exact ascFrom_end l n (by omega)⟩
  | succ d ih =>
    intro n k  hn hk 
    obtain ⟨k, rfl⟩ : ∃ m, k = m + 1 := ⟨k - 1, by omega⟩
    have e1 : wrap64 ((n : Int) + 1) = ((n + 1 : Nat) : Int) := by rw [w64 (by omega) (by omega)]; omega
    simp only [impl_areAscending.l0]
    rw [if_pos (by omega), if_pos (by omega), if_pos (by omega), rd_nat, E_impl_InRange]
    simp only [Option.bind_some, decide_eq_true_eq]
    by_cases c0 : 0 ≤ l.getD n 0 ∧ l.getD n 0 ≤ 1000000000000
    · rw [if_pos c0]
      by_cases c1 : (n : Int) > 0
      · have e2 : wrap64 ((n : Int) - 1) = ((n - 1 : Nat) : Int) := by rw [w64 (by omega) (by omega)]; omega
        rw [if_pos c1, e2, if_pos (by omega), if_pos (by omega), rd_nat]
        by_cases c2 : l.getD (n - 1) 0 ≥ l.getD n 0
        · rw [if_pos c2]
          refine ⟨false, rfl, ?_⟩
          simp only [Bool.false_eq_true, false_iff]
          intro h
          have := (((ascFrom_step l n (by omega)).1 h).1).2 (by omega)
          omega
        · rw [if_neg c2, e1]
          obtain ⟨v, hv, h3⟩ := ih (n + 1) k (by omega) (by omega)
          refine ⟨v, hv, h3.trans ?_⟩
          rw [ascFrom_step l n (by omega)]
          have : ascAt l n := ⟨c0, fun _ => by omega⟩
          simp [this]
      · rw [if_neg c1, e1]
        obtain ⟨v, hv, h3⟩ := ih (n + 1) k (by omega) (by omega)
        refine ⟨v, hv, h3.trans ?_⟩
        rw [ascFrom_step l n (by omega)]
        have : ascAt l n := ⟨c0, fun h => absurd h (by omega)⟩
        simp [this]
    · rw [if_neg c0]
      refine ⟨false, rfl, ?_⟩
      simp only [Bool.false_eq_true, false_iff]
      intro h
      exact c0 (((ascFrom_step l n (by omega)).1 h).1).1

theorem E_impl_IsValidGroup (k : Nat) (a b c : Int) (l : List Int) (hk : 4194304 < k) (hl : l.length ≤ 1048577) : ∃ v, impl_IsValidGroup.f k a b c l = some v ∧ (v = true ↔ groupOk a b c l) := by
  unfold impl_IsValidGroup.f groupOk
  rw [E_impl_InRange, E_impl_InRange, E_impl_IsValidKey]
  simp only [Option.bind_some, decide_eq_true_eq]
  by_cases c0 : 0 ≤ a ∧ a ≤ 1000000000000
  · rw [if_pos c0]
    by_cases c1 : 0 ≤ b ∧ b ≤ 100000
    · rw [if_pos c1]
      by_cases c2 : 1 ≤ c ∧ c ≤ 2147483646
      · rw [if_pos c2]
        by_cases c3 : (l.length : Int) ≤ 8
        · rw [if_pos c3]
          obtain ⟨v, hv, h⟩ := E_impl_areAscending_l0 l hl l.length 0 k (by omega) (by omega)
          rw [show ((0 : Nat) : Int) = 0 from rfl] at hv
          unfold impl_areAscending.f
          rw [hv]
          exact ⟨v, rfl, h.trans ⟨fun h => ⟨c0, c1, c2, c3, h⟩, fun h => h.2.2.2.2⟩⟩
        · rw [if_neg c3]
          exact ⟨false, rfl, by simp only [Bool.false_eq_true, false_iff]; exact fun h => c3 h.2.2.2.1⟩
      · rw [if_neg c2]
        exact ⟨false, rfl, by simp only [Bool.false_eq_true, false_iff]; exact fun h => c2 h.2.2.1⟩
    · rw [if_neg c1]
      exact ⟨false, rfl, by simp only [Bool.false_eq_true, false_iff]; exact fun h => c1 h.2.1⟩
  · rw [if_neg c0]
    exact ⟨false, rfl, by simp only [Bool.false_eq_true, false_iff]; exact fun h => c0 h.1⟩

-- impl_Mod
theorem E_impl_Mod (a b : Int) : impl_Mod.f a b = some (modM a b) := by
  unfold impl_Mod.f modM
  rw [E_impl_InRange]
  simp only [Option.bind_some, decide_eq_true_eq]
  by_cases h : 1 ≤ b ∧ b ≤ 1000000000000
  · rw [if_pos h, if_pos h, if_neg (by omega)]
  · rw [if_neg h, if_neg h]

-- impl_Hash
theorem E_impl_Hash_l0 (l : List Int) (hl : l.length ≤ 4194304) : ∀ (d n k : Nat) (h : Int), n + d = l.length → d + 0 < k → impl_Hash.l0 k h l (l.length : Int) (n : Int) = some ((l.drop n).foldl stepM h) := by
  intro d
  induction d with
  | zero =>
    intro n k h hn hk 
    obtain ⟨k, rfl⟩ : ∃ m, k = m + 1 := ⟨k - 1, by omega⟩
    simp only [impl_Hash.l0]
    rw [if_neg (by omega), List.drop_eq_nil_of_le (by omega)]
    rfl
  | succ d ih =>
    intro n k h hn hk 
    obtain ⟨k, rfl⟩ : ∃ m, k = m + 1 := ⟨k - 1, by omega⟩
    have e1 : wrap64 ((n : Int) + 1) = ((n + 1 : Nat) : Int) := by rw [w64 (by omega) (by omega)]; omega
    simp only [impl_Hash.l0]
    rw [if_pos (by omega), if_pos (by omega), if_pos (by omega), E_impl_Mod]
    simp only [Option.bind_some]
    rw [e1, rd_nat]
    rw [show (Int.tmod (wrap64 (wrap64 (wrap64 (h * 1000003) + modM (l.getD n 0) 2147483647) + 13)) 2147483647) = stepM h (l.getD n 0) from rfl]
    rw [ih (n + 1) k _ (by omega) (by omega), getD_drop l n 0 (by omega)]
    rfl

theorem E_impl_Hash (k : Nat) (l : List Int) (hk : 4194304 < k) (hl : l.length ≤ 4194304) : impl_Hash.f k l = some (hashM l) := by
  unfold impl_Hash.f
  have := E_impl_Hash_l0 l hl l.length 0 k 11 (by omega) (by omega)
  simpa [hashM] using this

-- slices_Grow_int_at_nil
theorem E_slices_Grow_int_at_nil (n : Int) (h0 : 0 ≤ n) (h1 : n < 17592186044416) : slices_Grow_int_at_nil.f n = some [] := by
  unfold slices_Grow_int_at_nil.f
  rw [if_neg (by omega)]
  have e : wrap64 n = n := w64 (by omega) (by omega)
  rw [e]
  by_cases h : n > 0
  · rw [if_pos h, if_pos (by omega), if_pos (by simp; omega)]
    simp
  · rw [if_neg h]

-- sumLen
def sumLen (ls : List (List Int)) : Int := (ls.map (fun l => (l.length : Int))).foldl (· + ·) 0
theorem foldl_add (l : List Int) : ∀ (a : Int), l.foldl (· + ·) a = a + l.foldl (· + ·) 0 := by
  induction l with
  | nil => intro a; simp
  | cons x l ih => intro a; simp only [List.foldl_cons]; rw [ih (a + x), ih (0 + x)]; omega
theorem sumLen_cons (l : List Int) (ls : List (List Int)) : sumLen (l :: ls) = l.length + sumLen ls := by
  unfold sumLen
  simp only [List.map_cons, List.foldl_cons]
  rw [foldl_add]
  omega
theorem sumLen_nonneg (ls : List (List Int)) : 0 ≤ sumLen ls := by
  induction ls with
  | nil => simp [sumLen]
  | cons l ls ih => rw [sumLen_cons]; omega
theorem sumLen_append (l m : List (List Int)) : sumLen (l ++ m) = sumLen l + sumLen m := by
  induction l with
  | nil => simp [sumLen]
  | cons x l ih => rw [List.cons_append, sumLen_cons, sumLen_cons, ih]; omega
theorem mem_sumLen (l : List (List Int)) : ∀ x ∈ l, (x.length : Int) ≤ sumLen l := by
  induction l with
  | nil => intro x hx; exact absurd hx (by simp)
  | cons y l ih =>
    intro x hx
    rw [sumLen_cons]
    rcases List.mem_cons.1 hx with rfl | hx
    · have := sumLen_nonneg l; omega
    · have := ih x hx; omega

-- slices_Concat_int
theorem E_slices_Concat_int_l1 (ls : List (List Int)) (hl : ls.length ≤ 1048576) : ∀ (d n k : Nat) (acc : List Int), n + d = ls.length → d + 0 < k → ((acc.length : Int) + sumLen (ls.drop n) < 17592186044416) → slices_Concat_int.l1 k acc ls (ls.length : Int) (n : Int) = some (acc ++ (ls.drop n).flatten) := by
  intro d
  induction d with
  | zero =>
    intro n k acc hn hk hs
    obtain ⟨k, rfl⟩ : ∃ m, k = m + 1 := ⟨k - 1, by omega⟩
    simp only [slices_Concat_int.l1]
    rw [if_neg (by omega), List.drop_eq_nil_of_le (by omega), List.flatten_nil, List.append_nil]
  | succ d ih =>
    intro n k acc hn hk hs
    obtain ⟨k, rfl⟩ : ∃ m, k = m + 1 := ⟨k - 1, by omega⟩
    have e1 : wrap64 ((n : Int) + 1) = ((n + 1 : Nat) : Int) := by rw [w64 (by omega) (by omega)]; omega
    simp only [slices_Concat_int.l1]
    rw [getD_drop ls n [] (by omega), sumLen_cons] at hs
    have hn0 := sumLen_nonneg (ls.drop (n + 1))
    have er : rd_L5 ls (n : Int) = ls.getD n [] := by simp [rd_L5]
    rw [if_pos (by omega), if_pos (by omega), if_pos (by omega), er, if_pos (by omega), e1]
    rw [ih (n + 1) k _ (by omega) (by omega) (by rw [List.length_append]; omega), getD_drop ls n [] (by omega), List.flatten_cons, List.append_assoc]
theorem E_slices_Concat_int_l0 (ls : List (List Int)) (hl : ls.length ≤ 1048576) : ∀ (d n k : Nat) (s : Int), n + d = ls.length → d + 1048578 < k → (0 ≤ s) → (s + sumLen (ls.drop n) < 17592186044416) → (sumLen ls < 17592186044416) → slices_Concat_int.l0 k ls s ls (ls.length : Int) (n : Int) = some (ls.flatten) := by
  intro d
  induction d with
  | zero =>
    intro n k s hn hk h0 hs ht
    obtain ⟨k, rfl⟩ : ∃ m, k = m + 1 := ⟨k - 1, by omega⟩
    simp only [slices_Concat_int.l0]
    rw [if_neg (by omega)]
    rw [List.drop_eq_nil_of_le (by omega)] at hs
    have hz : sumLen ([] : List (List Int)) = 0 := by simp [sumLen]
    rw [E_slices_Grow_int_at_nil s (by omega) (by omega)]
    simp only [Option.bind_some]
    have := E_slices_Concat_int_l1 ls hl ls.length 0 k [] (by omega) (by omega) (by simp; omega)
    simpa using this
  | succ d ih =>
    intro n k s hn hk h0 hs ht
    obtain ⟨k, rfl⟩ : ∃ m, k = m + 1 := ⟨k - 1, by omega⟩
    have e1 : wrap64 ((n : Int) + 1) = ((n + 1 : Nat) : Int) := by rw [w64 (by omega) (by omega)]; omega
    simp only [slices_Concat_int.l0]
    rw [getD_drop ls n [] (by omega), sumLen_cons] at hs
    have hn0 := sumLen_nonneg (ls.drop (n + 1))
    have er : rd_L5 ls (n : Int) = ls.getD n [] := by simp [rd_L5]
    rw [if_pos (by omega), if_pos (by omega), if_pos (by omega), er, w64 (x := s + ((ls.getD n []).length : Int)) (by omega) (by omega), if_neg (by omega), e1]
    rw [ih (n + 1) k _ (by omega) (by omega) (by omega) (by omega) ht]

theorem E_slices_Concat_int (k : Nat) (ls : List (List Int)) (hk : 4194304 < k) (hl : ls.length ≤ 1048576) (hs : sumLen ls < 17592186044416) : slices_Concat_int.f k ls = some ls.flatten := by
  unfold slices_Concat_int.f
  exact E_slices_Concat_int_l0 ls hl ls.length 0 k 0 (by omega) (by omega) (by omega) (by simpa using hs) hs

-- impl_KeyedHash
theorem E_impl_KeyedHash (k : Nat) (a : Int) (l : List Int) (hk : 4194304 < k) (hl : l.length ≤ 4194300) : impl_KeyedHash.f k a l = some (khashM a l) := by
  unfold impl_KeyedHash.f
  have hs : sumLen [[a], l, [a]] = l.length + 2 := by simp [sumLen_cons, sumLen]; omega
  rw [E_slices_Concat_int k _ hk (by simp) (by omega)]
  simp only [Option.bind_some, List.flatten_cons, List.flatten_nil, List.append_nil]
  rw [E_impl_Hash k _ hk (by simp; omega)]
  rfl

-- orOne
theorem E_impl_orOne (h : Int) : impl_orOne.f h = some (oneM h) := by
  unfold impl_orOne.f oneM
  split <;> rfl

-- impl_FreshSecret
theorem E_impl_FreshSecret (k : Nat) (a : Int) (hk : 4194304 < k) : impl_FreshSecret.f k a = some (oneM (khashM a [139])) := by
  unfold impl_FreshSecret.f
  rw [E_impl_KeyedHash k _ _ hk (by simp)]
  simp only [Option.bind_some]
  rw [E_impl_orOne]
  rfl

-- slices_Contains_int
theorem E_slices_Index_int_l0 (l : List Int) (a : Int) (hl : l.length ≤ 1048577) : ∀ (d n k : Nat) , n + d = l.length → d + 0 < k → ∃ v, slices_Index_int.l0 k l a (l.length : Int) (n : Int) = some v ∧ (v ≥ 0 ↔ a ∈ l.drop n) := by
  intro d
  induction d with
  | zero =>
    intro n k  hn hk 
    obtain ⟨k, rfl⟩ : ∃ m, k = m + 1 := ⟨k - 1, by omega⟩
    simp only [slices_Index_int.l0]
    rw [if_neg (by omega), List.drop_eq_nil_of_le (by omega)]
    exact ⟨-1, rfl, by simp⟩
  | succ d ih =>
    intro n k  hn hk 
    obtain ⟨k, rfl⟩ : ∃ m, k = m + 1 := ⟨k - 1, by omega⟩
    have e1 : wrap64 ((n : Int) + 1) = ((n + 1 : Nat) : Int) := by rw [w64 (by omega) (by omega)]; omega
    simp only [slices_Index_int.l0]
    rw [if_pos (by omega), if_pos (by omega), if_pos (by omega), rd_nat, getD_drop l n 0 (by omega)]
    by_cases c : a = l.getD n 0
    · rw [if_pos c]
      exact ⟨_, rfl, fun _ => by rw [c]; exact List.mem_cons_self, fun _ => by omega⟩
    · rw [if_neg c, e1]
      obtain ⟨v, hv, h⟩ := ih (n + 1) k (by omega) (by omega)
      exact ⟨v, hv, h.trans ⟨fun h => List.mem_cons_of_mem _ h, fun h => (List.mem_cons.1 h).resolve_left c⟩⟩

theorem E_slices_Contains_int (k : Nat) (l : List Int) (a : Int) (hk : 4194304 < k) (hl : l.length ≤ 1048577) : ∃ v, slices_Contains_int.f k l a = some v ∧ (v = true ↔ a ∈ l) := by
  unfold slices_Contains_int.f slices_Index_int.f
  obtain ⟨v, hv, h⟩ := E_slices_Index_int_l0 l a hl l.length 0 k (by omega) (by omega)
  rw [show ((0 : Nat) : Int) = 0 from rfl] at hv
  rw [hv]
  rw [List.drop_zero] at h
  exact ⟨_, rfl, by rw [decide_eq_true_eq]; exact h⟩

-- impl_RemoveMember
theorem E_impl_RemoveMember_l0 (x a b c : Int) (l : List Int) (a2 b2 c2 : Int) (hl : l.length ≤ 1048576) : ∀ (d n k : Nat) (m : List Int), n + d = l.length → d + 4194310 < k → (m.length ≤ n) → ∃ w : Bool, (w = true ↔ groupOk a2 b2 c2 (m ++ (l.drop n).filter (fun y => !decide (y = x)))) ∧ impl_RemoveMember.l0 k x l (l.length : Int) (n : Int) a b c l a2 b2 c2 m = some (if w = true then (a2, b2, c2, m ++ (l.drop n).filter (fun y => !decide (y = x)), true) else (a, b, c, l, false)) := by
  intro d
  induction d with
  | zero =>
    intro n k m hn hk hm
    obtain ⟨k, rfl⟩ : ∃ m, k = m + 1 := ⟨k - 1, by omega⟩
    simp only [impl_RemoveMember.l0]
    rw [List.drop_eq_nil_of_le (by omega), List.filter_nil, List.append_nil]
    
    rw [if_neg (by omega)]
    obtain ⟨w, hw, hw1⟩ := E_impl_IsValidGroup k a2 b2 c2 m (by omega) (by omega)
    refine ⟨w, hw1, ?_⟩
    rw [hw, E_impl_copySenders a b c l (by omega)]
    simp only [Option.bind_some]
    by_cases h2 : w = true
    · rw [if_pos h2, if_pos h2]
    · rw [if_neg h2, if_neg h2]
  | succ d ih =>
    intro n k m hn hk hm
    obtain ⟨k, rfl⟩ : ∃ m, k = m + 1 := ⟨k - 1, by omega⟩
    have e1 : wrap64 ((n : Int) + 1) = ((n + 1 : Nat) : Int) := by rw [w64 (by omega) (by omega)]; omega
    simp only [impl_RemoveMember.l0]
    rw [if_pos (by omega), if_pos (by omega), if_pos (by omega), rd_nat, getD_drop l n 0 (by omega), e1]
    by_cases c1 : l.getD n 0 = x
    · rw [if_pos c1, List.filter_cons_of_neg (by show ¬ (!decide (l.getD n 0 = x)) = true; rw [decide_eq_true c1]; decide)]
      exact ih (n + 1) k m (by omega) (by omega) (by omega)
    · rw [if_neg c1, if_pos (by omega), List.filter_cons_of_pos (by show (!decide (l.getD n 0 = x)) = true; rw [decide_eq_false c1]; rfl)]
      have := ih (n + 1) k (m ++ [l.getD n 0]) (by omega) (by omega) (by rw [List.length_append, List.length_singleton]; omega)
      rw [List.append_assoc] at this
      exact this

-- removeM
theorem filter_len (l : List Int) (x : Int) : (l.filter (fun y => !decide (y = x))).length = l.length ↔ x ∉ l := by
  rw [List.length_filter_eq_length_iff]
  constructor
  · intro h hx
    have := h x hx
    simp at this
  · intro h y hy
    by_cases e : y = x
    · exact absurd (e ▸ hy) h
    · simp [e]
theorem E_RemoveMember (k : Nat) (a b c : Int) (l : List Int) (x s : Int) (hk : 12582912 < k) (hl : l.length ≤ 1048576) :
    ∃ r : Int × Int × Int × List Int × Bool, spec_RemoveMember.f k a b c l x s = some r ∧ impl_RemoveMember.f k a b c l x s = some r ∧ r.2.2.2.1.length ≤ 1048576 := by
  obtain ⟨v, w, hv, hw, h1⟩ := E_spec_RemoveMember_l0 x a b c l a (wrap64 (b + 1)) (oneM (khashM s [139])) hl l.length 0 k [] (by omega) (by omega) (by simp)
  rw [List.drop_zero, List.nil_append] at hw h1
  rw [show ((0 : Nat) : Int) = 0 from rfl] at h1
  have hfl : (l.filter (fun y => !decide (y = x))).length ≤ l.length := List.length_filter_le _ _
  unfold spec_RemoveMember.f impl_RemoveMember.f
  rw [E_spec_FreshSecret _ s (by omega)]
  simp only [Option.bind_some]
  rw [h1]
  obtain ⟨u, hu, hu1⟩ := E_impl_IsValidGroup k a b c l (by omega) (by omega)
  obtain ⟨z, hz, hz1⟩ := E_slices_Contains_int k l x (by omega) (by omega)
  have huv : u = v := Bool.eq_iff_iff.2 (hu1.trans hv.symm)
  rw [hu, hz, huv]
  simp only [Option.bind_some]
  obtain ⟨k, rfl⟩ : ∃ j, k = j + 1 := ⟨k - 1, by omega⟩
  obtain ⟨w2, hw2, h2⟩ := E_impl_RemoveMember_l0 x a b c l a (wrap64 (b + 1)) (oneM (khashM s [139])) hl l.length 0 k [] (by omega) (by omega) (by simp)
  rw [List.drop_zero, List.nil_append] at hw2 h2
  rw [show ((0 : Nat) : Int) = 0 from rfl] at h2
  have hww : w2 = w := Bool.eq_iff_iff.2 (hw2.trans hw.symm)
  have hj : ∀ t : Bool, impl_RemoveMember.j0 (k + 1) x s t a b c l = some (if t = true then (a, b, c, l, false) else if w = true then (a, wrap64 (b + 1), oneM (khashM s [139]), l.filter (fun y => !decide (y = x)), true) else (a, b, c, l, false)) := by
    intro t
    simp only [impl_RemoveMember.j0]
    by_cases ht : t = true
    · rw [if_pos ht, if_pos ht, E_impl_copySenders a b c l (by omega)]
      rfl
    · rw [if_neg ht, if_neg ht, E_impl_FreshSecret _ s (by omega)]
      simp only [Option.bind_some]
      rw [h2, hww]
  rw [hj, hj]
  by_cases c0 : v = true
  · rw [if_pos c0]
    by_cases c1 : x ∈ l
    · have hz2 : z = true := hz1.2 c1
      have hn : ¬ ((l.filter (fun y => !decide (y = x))).length : Int) = l.length := fun h => (filter_len l x).1 (by omega) c1
      rw [hz2]
      by_cases c2 : w = true
      · rw [if_pos ⟨c0, c2, hn⟩, if_neg (by simp), if_pos c2]
        exact ⟨_, rfl, rfl, by show (l.filter (fun y => !decide (y = x))).length ≤ 1048576; omega⟩
      · rw [if_neg (fun h => c2 h.2.1), if_neg (by simp), if_neg c2]
        exact ⟨_, rfl, rfl, hl⟩
    · have hz2 : z = false := by
        cases z with
        | true => exact absurd (hz1.1 rfl) c1
        | false => rfl
      have hn : ((l.filter (fun y => !decide (y = x))).length : Int) = l.length := by rw [(filter_len l x).2 c1]
      rw [hz2, if_neg (fun h => h.2.2 hn), if_pos (by rfl)]
      exact ⟨_, rfl, rfl, hl⟩
  · rw [if_neg c0, if_neg (fun h => c0 h.1), if_pos rfl]
    exact ⟨_, rfl, rfl, hl⟩

-- laws_toIntS
theorem E_laws_toIntS_l0 (l : List Int) (hl : l.length ≤ 2097152) : ∀ (d n k : Nat) (m : List Int), n + d = l.length → d + 0 < k → (m.length = l.length) → laws_toIntS.l0 k l m (n : Int) = some (m.take n ++ l.drop n) := by
  intro d
  induction d with
  | zero =>
    intro n k m hn hk hm
    obtain ⟨k, rfl⟩ : ∃ m, k = m + 1 := ⟨k - 1, by omega⟩
    simp only [laws_toIntS.l0]
    rw [if_neg (by omega), List.drop_eq_nil_of_le (by omega), List.append_nil, List.take_of_length_le (by omega)]
  | succ d ih =>
    intro n k m hn hk hm
    obtain ⟨k, rfl⟩ : ∃ m, k = m + 1 := ⟨k - 1, by omega⟩
    have e1 : wrap64 ((n : Int) + 1) = ((n + 1 : Nat) : Int) := by rw [w64 (by omega) (by omega)]; omega
    simp only [laws_toIntS.l0]
    rw [if_pos (by omega), if_pos (by omega), if_pos (by omega), e1, rd_nat]
    rw [ih (n + 1) k _ (by omega) (by omega) (by simp; omega), getD_drop l n 0 (by omega)]
    rw [show (n : Int).toNat = n by omega, take_set_snoc _ n _ (by omega), List.append_assoc]
    rfl

theorem E_laws_toIntS (k : Nat) (l : List Int) (hk : 4194304 < k) (hl : l.length ≤ 2097152) : laws_toIntS.f k l = some l := by
  unfold laws_toIntS.f
  rw [if_pos (by omega), if_pos (by omega)]
  have := E_laws_toIntS_l0 l hl l.length 0 k (List.replicate ((l.length : Int) : Int).toNat 0) (by omega) (by omega) (by simp)
  simpa using this

-- laws_toSenderGroup
theorem E_laws_toSenderGroup (k : Nat) (a b c : Int) (l : List Int) (hk : 4194304 < k) (hl : l.length ≤ 2097152) : laws_toSenderGroup.f k a b c l = some (a, b, c, l) := by
  unfold laws_toSenderGroup.f
  rw [E_laws_toIntS k l hk hl]
  rfl

-- laws_eqIntS
theorem E_laws_eqIntS_l0 (l m : List Int) (hl : l.length ≤ 2097152) (hm : l.length = m.length) : ∀ (d n k : Nat) , n + d = l.length → d + 0 < k → laws_eqIntS.l0 k l m (n : Int) = some (decide (l.drop n = m.drop n)) := by
  intro d
  induction d with
  | zero =>
    intro n k  hn hk 
    obtain ⟨k, rfl⟩ : ∃ m, k = m + 1 := ⟨k - 1, by omega⟩
    simp only [laws_eqIntS.l0]
    rw [if_neg (by omega), List.drop_eq_nil_of_le (by omega), List.drop_eq_nil_of_le (by omega)]
    rfl
  | succ d ih =>
    intro n k  hn hk 
    obtain ⟨k, rfl⟩ : ∃ m, k = m + 1 := ⟨k - 1, by omega⟩
    have e1 : wrap64 ((n : Int) + 1) = ((n + 1 : Nat) : Int) := by rw [w64 (by omega) (by omega)]; omega
    simp only [laws_eqIntS.l0]
    rw [if_pos (by omega), if_pos (by omega), if_pos (by omega), e1, rd_nat, rd_nat, getD_drop l n 0 (by omega), getD_drop m n 0 (by omega)]
    by_cases h : l.getD n 0 = m.getD n 0
    · rw [if_pos h, ih (n + 1) k (by omega) (by omega), h]
      simp only [List.cons.injEq, true_and]
    · rw [if_neg h, decide_eq_false (fun e => h (List.cons.inj e).1)]

theorem E_laws_eqIntS (k : Nat) (l m : List Int) (hk : 4194304 < k) (hl : l.length ≤ 2097152) : laws_eqIntS.f k l m = some (decide (l = m)) := by
  unfold laws_eqIntS.f
  by_cases h : (l.length : Int) = (m.length : Int)
  · rw [if_pos h]
    have := E_laws_eqIntS_l0 l m hl (by omega) l.length 0 k (by omega) (by omega)
    simpa using this
  · rw [if_neg h]
    have : l ≠ m := fun e => h (by rw [e])
    simp [this]

-- laws_eqSenderGroup
theorem E_laws_eqSenderGroup (k : Nat) (a b c : Int) (l : List Int) (hk : 4194304 < k) (hl : l.length ≤ 2097152) : laws_eqSenderGroup.f k a b c l a b c l = some true := by
  unfold laws_eqSenderGroup.f
  rw [if_pos rfl, if_pos rfl, if_pos rfl, E_laws_eqIntS k l l hk hl]
  simp

-- Z_szIntS
theorem Z_laws_szIntS (l : List Int) (n : Int) (hl : l.length ≤ 9223372036854775807) (h0 : 0 ≤ n) (h1 : n ≤ 1048576) : ∃ v, laws_szIntS.f l n = some v ∧ -1 ≤ v ∧ (0 ≤ v → v ≤ n ∧ (l.length : Int) ≤ n) := by
  unfold laws_szIntS.f
  rw [w64 (by omega) (by omega)]
  by_cases h : (l.length : Int) ≤ n
  · rw [if_neg (by omega)]
    exact ⟨_, rfl, by omega, fun _ => by omega⟩
  · rw [if_pos (by omega)]
    exact ⟨_, rfl, by omega, fun h => absurd h (by omega)⟩

-- FnExactRemoveMember
theorem RemoveMember_law (k : Nat) (a b c : Int) (l : List Int) (x s : Int) (hk : 16777216 < k) (hl : l.length ≤ 9223372036854775807) : laws_FnExactRemoveMember.f (k + 3) a b c l x s = some true := by
  unfold laws_FnExactRemoveMember.f laws_szSenderGroup.f
  obtain ⟨v, hv, hv1, hv2⟩ := Z_laws_szIntS l 1048576 (by omega) (by omega) (by omega)
  rw [hv]
  simp only [Option.bind_some]
  by_cases cc : v < 0
  · rw [if_pos cc]
    rfl
  · have h2 := hv2 (by omega)
    rw [if_neg cc]
    simp only [Option.bind_some]
    rw [if_neg cc, E_laws_toSenderGroup _ a b c l (by omega) (by omega)]
    simp only [Option.bind_some]
    obtain ⟨r, hr1, hr2, hr3⟩ := E_RemoveMember (k + 3) a b c l x s (by omega) (by omega)
    obtain ⟨r', _, hr4, _⟩ := E_RemoveMember (k + 1) a b c l x s (by omega) (by omega)
    have hrr : r' = r := Option.some.inj (((impl_RemoveMember.mono a b c l x s (k + 1 + 1)) _ ((impl_RemoveMember.mono a b c l x s (k + 1)) _ hr4)).symm.trans hr2)
    rw [hrr] at hr4
    rw [hr1, hr2]
    simp only [Option.bind_some]
    rw [E_laws_eqSenderGroup _ _ _ _ _ (by omega) (by omega)]
    simp only [Option.bind_some]
    rw [if_pos trivial]
    simp only [laws_FnExactRemoveMember.j0]
    rw [if_neg (by simp), E_laws_toSenderGroup _ a b c l (by omega) (by omega)]
    simp only [Option.bind_some]
    rw [E_laws_eqSenderGroup _ a b c l (by omega) (by omega)]
    simp only [Option.bind_some]
    rw [if_pos trivial]
    unfold laws_markSenderGroup.f
    rw [E_laws_markIntS _ l 1 (by omega) (by omega) (by omega) (by omega)]
    simp only [Option.bind_some]
    rw [if_neg (by omega), E_laws_eqSenderGroup _ _ _ _ _ (by omega) (by omega)]
    simp only [Option.bind_some]
    rw [if_pos trivial]
    simp only [laws_FnExactRemoveMember.j1]
    rw [if_neg (by simp)]
    unfold laws_markSenderGroup.f laws_heldSenderGroup.f
    rw [E_laws_markIntS _ r.2.2.2.1 1 (by omega) (by omega) (by omega) (by omega)]
    simp only [Option.bind_some]
    rw [E_laws_heldIntS _ 1 _ (by omega) (by omega) (by omega) (by omega)]
    simp only [Option.bind_some]
    rw [if_neg (by omega)]
    simp only [Option.bind_some]
    rw [if_neg (by omega), if_pos trivial, E_laws_toSenderGroup _ a b c l (by omega) (by omega)]
    simp only [Option.bind_some]
    rw [hr4]
    simp only [Option.bind_some]
    rw [E_laws_eqSenderGroup _ _ _ _ _ (by omega) (by omega)]
    simp only [Option.bind_some]
    rw [if_pos trivial]
    simp only [laws_FnExactRemoveMember.j2]
    rw [if_neg (by simp)]
    unfold laws_heldSenderGroup.f
    rw [E_laws_heldIntS _ 1 _ (by omega) (by omega) (by omega) (by omega)]
    simp only [Option.bind_some]
    rw [if_neg (by omega)]
    simp only [Option.bind_some]
    rw [if_neg (by omega), if_pos trivial]
theorem FnExactRemoveMember : laws_FnExactRemoveMember.Pure := by
  intro a b c l x s ha hb hc hl hx hs
  have hm := hl.1
  unfold maxLen at hm
  exact ⟨20971520 + 3, RemoveMember_law _ a b c l x s (by omega) (by omega)⟩
end Go.Proofs.Ytgdfnoipcompkaa.Pure
