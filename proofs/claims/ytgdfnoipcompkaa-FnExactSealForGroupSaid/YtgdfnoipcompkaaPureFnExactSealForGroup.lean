/- FnExactSealForGroup: what the law's functions compute, over numbers and lists, answers true for every input that its bounds let in. -/
import Derived.Test.YtgdfnoipcompkaaM
import Derived.Test.YtgdfnoipcompkaaQxEOPEFH
namespace Go.Proofs.Ytgdfnoipcompkaa.Pure
open Go.RowKit Go.Proofs.Ytgdfnoipcompkaa.M Go.Proofs.Ytgdfnoipcompkaa.Q Go.Proofs.YtgdfnoipcompkaaW.PrintWords Go.Proofs.YtgdfnoipcompkaaW.PrintLast
set_option linter.unusedVariables false
set_option linter.unusedSimpArgs false
-- laws_toIntS
theorem E_laws_toIntS_l0 (l : List Int) (hl : l.length ≤ 2097152) : ∀ (d n k : Nat) (m : List Int), n + d = l.length → d + 0 < k → (m.length = l.length) → laws_toIntS.l0 k l m (n : Int) = some (m.take n ++ l.drop n) := by
  intro d
  induction d with
  | zero =>
    intro n k m hn hk hm
    obtain ⟨k, rfl⟩ : ∃ m, k = m + 1 := ⟨k - 1, by omega⟩
    simp only [laws_toIntS.l0]
    rw [if_neg (by omega), List.drop_eq_nil_of_le (by omega), List.append_nil, List.take_of_length_le (by omega)]
  | succ d ih =>
    intro n k m hn hk hm
    obtain ⟨k, rfl⟩ : ∃ m, k = m + 1 := ⟨k - 1, by omega⟩
    have e1 : wrap64 ((n : Int) + 1) = ((n + 1 : Nat) : Int) := by rw [w64 (by omega) (by omega)]; omega
    simp only [laws_toIntS.l0]
    rw [if_pos (by omega), if_pos (by omega), if_pos (by omega), e1, rd_nat]
    rw [ih (n + 1) k _ (by omega) (by omega) (by simp; omega), getD_drop l n 0 (by omega)]
    rw [show (n : Int).toNat = n by omega, take_set_snoc _ n _ (by omega), List.append_assoc]
    rfl

theorem E_laws_toIntS (k : Nat) (l : List Int) (hk : 4194304 < k) (hl : l.length ≤ 2097152) : laws_toIntS.f k l = some l := by
  unfold laws_toIntS.f
  rw [if_pos (by omega), if_pos (by omega)]
  have := E_laws_toIntS_l0 l hl l.length 0 k (List.replicate ((l.length : Int) : Int).toNat 0) (by omega) (by omega) (by simp)
  simpa using this

-- laws_toSenderGroup
theorem E_laws_toSenderGroup (k : Nat) (a b c : Int) (l : List Int) (hk : 4194304 < k) (hl : l.length ≤ 2097152) : laws_toSenderGroup.f k a b c l = some (a, b, c, l) := by
  unfold laws_toSenderGroup.f
  rw [E_laws_toIntS k l hk hl]
  rfl

-- laws_eqIntS
theorem E_laws_eqIntS_l0 (l m : List Int) (hl : l.length ≤ 2097152) (hm : l.length = m.length) : ∀ (d n k : Nat) , n + d = l.length → d + 0 < k → laws_eqIntS.l0 k l m (n : Int) = some (decide (l.drop n = m.drop n)) := by
  intro d
  induction d with
  | zero =>
    intro n k  hn hk 
    obtain ⟨k, rfl⟩ : ∃ m, k = m + 1 := ⟨k - 1, by omega⟩
    simp only [laws_eqIntS.l0]
    rw [if_neg (by omega), List.drop_eq_nil_of_le (by omega), List.drop_eq_nil_of_le (by omega)]
    rfl
  | succ d ih =>
    intro n k  hn hk 
    obtain ⟨k, rfl⟩ : ∃ m, k = m + 1 := ⟨k - 1, by omega⟩
    have e1 : wrap64 ((n : Int) + 1) = ((n + 1 : Nat) : Int) := by rw [w64 (by omega) (by omega)]; omega
    simp only [laws_eqIntS.l0]
    rw [if_pos (by omega), if_pos (by omega), if_pos (by omega), e1, rd_nat, rd_nat, getD_drop l n 0 (by omega), getD_drop m n 0 (by omega)]
    by_cases h : l.getD n 0 = m.getD n 0
    · rw [if_pos h, ih (n + 1) k (by omega) (by omega), h]
      simp only [List.cons.injEq, true_and]
    · rw [if_neg h, decide_eq_false (fun e => h (List.cons.inj e).1)]

theorem E_laws_eqIntS (k : Nat) (l m : List Int) (hk : 4194304 < k) (hl : l.length ≤ 2097152) : laws_eqIntS.f k l m = some (decide (l = m)) := by
  unfold laws_eqIntS.f
  by_cases h : (l.length : Int) = (m.length : Int)
  · rw [if_pos h]
    have := E_laws_eqIntS_l0 l m hl (by omega) l.length 0 k (by omega) (by omega)
    simpa using this
  · rw [if_neg h]
    have : l ≠ m := fun e => h (by rw [e])
    simp [this]

-- laws_eqSenderGroup
theorem E_laws_eqSenderGroup (k : Nat) (a b c : Int) (l : List Int) (hk : 4194304 < k) (hl : l.length ≤ 2097152) : laws_eqSenderGroup.f k a b c l a b c l = some true := by
  unfold laws_eqSenderGroup.f
  rw [if_pos rfl, if_pos rfl, if_pos rfl, E_laws_eqIntS k l l hk hl]
  simp

-- laws_szSenderGroup
theorem E_laws_szSenderGroup (a b c : Int) (l : List Int) (n : Int) (hl : l.length ≤ 9223372036854775807) (h0 : 0 ≤ n) (h1 : n ≤ 1048576) : laws_szSenderGroup.f a b c l n = some (if (l.length : Int) ≤ n then n - l.length else -1) := by
  unfold laws_szSenderGroup.f laws_szIntS.f
  rw [w64 (by omega) (by omega)]
  by_cases h : (l.length : Int) ≤ n
  · rw [if_neg (by omega), if_pos h]
    simp only [Option.bind_some]
    rw [if_neg (by omega)]
  · rw [if_pos (by omega), if_neg h]
    simp

-- laws_toByteS
theorem E_laws_toByteS_l0 (l : List Int) (hl : l.length ≤ 2097152) : ∀ (d n k : Nat) (m : List Int), n + d = l.length → d + 0 < k → (m.length = l.length) → laws_toByteS.l0 k l m (n : Int) = some (m.take n ++ l.drop n) := by
  intro d
  induction d with
  | zero =>
    intro n k m hn hk hm
    obtain ⟨k, rfl⟩ : ∃ m, k = m + 1 := ⟨k - 1, by omega⟩
    simp only [laws_toByteS.l0]
    rw [if_neg (by omega), List.drop_eq_nil_of_le (by omega), List.append_nil, List.take_of_length_le (by omega)]
  | succ d ih =>
    intro n k m hn hk hm
    obtain ⟨k, rfl⟩ : ∃ m, k = m + 1 := ⟨k - 1, by omega⟩
    have e1 : wrap64 ((n : Int) + 1) = ((n + 1 : Nat) : Int) := by rw [w64 (by omega) (by omega)]; omega
    simp only [laws_toByteS.l0]
    rw [if_pos (by omega), if_pos (by omega), if_pos (by omega), e1, rd_nat]
    rw [ih (n + 1) k _ (by omega) (by omega) (by simp; omega), getD_drop l n 0 (by omega)]
    rw [show (n : Int).toNat = n by omega, take_set_snoc _ n _ (by omega), List.append_assoc]
    rfl

theorem E_laws_toByteS (k : Nat) (l : List Int) (hk : 4194304 < k) (hl : l.length ≤ 2097152) : laws_toByteS.f k l = some l := by
  unfold laws_toByteS.f
  rw [if_pos (by omega), if_pos (by omega)]
  have := E_laws_toByteS_l0 l hl l.length 0 k (List.replicate ((l.length : Int) : Int).toNat 0) (by omega) (by omega) (by simp)
  simpa using this

-- laws_eqByteS
theorem E_laws_eqByteS_l0 (l m : List Int) (hl : l.length ≤ 2097152) (hm : l.length = m.length) : ∀ (d n k : Nat) , n + d = l.length → d + 0 < k → laws_eqByteS.l0 k l m (n : Int) = some (decide (l.drop n = m.drop n)) := by
  intro d
  induction d with
  | zero =>
    intro n k  hn hk 
    obtain ⟨k, rfl⟩ : ∃ m, k = m + 1 := ⟨k - 1, by omega⟩
    simp only [laws_eqByteS.l0]
    rw [if_neg (by omega), List.drop_eq_nil_of_le (by omega), List.drop_eq_nil_of_le (by omega)]
    rfl
  | succ d ih =>
    intro n k  hn hk 
    obtain ⟨k, rfl⟩ : ∃ m, k = m + 1 := ⟨k - 1, by omega⟩
    have e1 : wrap64 ((n : Int) + 1) = ((n + 1 : Nat) : Int) := by rw [w64 (by omega) (by omega)]; omega
    simp only [laws_eqByteS.l0]
    rw [if_pos (by omega), if_pos (by omega), if_pos (by omega), e1, rd_nat, rd_nat, getD_drop l n 0 (by omega), getD_drop m n 0 (by omega)]
    by_cases h : l.getD n 0 = m.getD n 0
    · rw [if_pos h, ih (n + 1) k (by omega) (by omega), h]
      simp only [List.cons.injEq, true_and]
    · rw [if_neg h, decide_eq_false (fun e => h (List.cons.inj e).1)]

theorem E_laws_eqByteS (k : Nat) (l m : List Int) (hk : 4194304 < k) (hl : l.length ≤ 2097152) : laws_eqByteS.f k l m = some (decide (l = m)) := by
  unfold laws_eqByteS.f
  by_cases h : (l.length : Int) = (m.length : Int)
  · rw [if_pos h]
    have := E_laws_eqByteS_l0 l m hl (by omega) l.length 0 k (by omega) (by omega)
    simpa using this
  · rw [if_neg h]
    have : l ≠ m := fun e => h (by rw [e])
    simp [this]

-- markB
theorem E_laws_markByteS_l0 (l : List Int) (hl : l.length ≤ 2097152) : ∀ (d n k : Nat) (m : List Int) (x : Int), n + d = l.length → d + 0 < k → (m.length = l.length) → (0 ≤ x) → (x + (l.length - n : Nat) ≤ 4194304) → laws_markByteS.l0 k m x (n : Int) = some ((x + (l.length - n : Nat), m.take n ++ markB x (l.length - n))) := by
  intro d
  induction d with
  | zero =>
    intro n k m x hn hk hm h0 h1
    obtain ⟨k, rfl⟩ : ∃ m, k = m + 1 := ⟨k - 1, by omega⟩
    simp only [laws_markByteS.l0]
    have e : l.length - n = 0 := by omega
    rw [if_neg (by omega), e]
    simp only [markB, List.append_nil]
    rw [List.take_of_length_le (by omega)]
    simp
  | succ d ih =>
    intro n k m x hn hk hm h0 h1
    obtain ⟨k, rfl⟩ : ∃ m, k = m + 1 := ⟨k - 1, by omega⟩
    have e1 : wrap64 ((n : Int) + 1) = ((n + 1 : Nat) : Int) := by rw [w64 (by omega) (by omega)]; omega
    simp only [laws_markByteS.l0]
    have e : l.length - n = (l.length - (n + 1)) + 1 := by omega
    rw [if_pos (by omega), if_pos (by omega), e1, w64 (x := x + 1) (by omega) (by omega)]
    rw [ih (n + 1) k _ _ (by omega) (by omega) (by simp; omega) (by omega) (by omega), e]
    simp only [markB]
    rw [show (n : Int).toNat = n by omega, take_set_snoc _ n _ (by omega), List.append_assoc]
    rw [show x + 1 + ((l.length - (n + 1) : Nat) : Int) = x + ((l.length - (n + 1) + 1 : Nat) : Int) by omega]
    rfl

theorem E_laws_markByteS (k : Nat) (l : List Int) (x : Int) (hk : 4194304 < k) (hl : l.length ≤ 2097152) (h0 : 0 ≤ x) (h1 : x ≤ 2097152) : laws_markByteS.f k l x = some (x + l.length, markB x l.length) := by
  unfold laws_markByteS.f
  have := E_laws_markByteS_l0 l hl l.length 0 k l x (by omega) (by omega) rfl h0 (by omega)
  simpa using this
theorem E_laws_heldByteS_l0 (l : List Int) (x0 : Int) (n0 : Nat) (hn0 : n0 ≤ 2097152) (h0 : 0 ≤ x0) (h1 : x0 ≤ 2097152) (hl : l = markB x0 n0) : ∀ (d n k : Nat), n + d = n0 → d < k → laws_heldByteS.l0 k l (x0 + n) (n : Int) = some (x0 + n0) := by
  have hlen : l.length = n0 := by rw [hl, markB_length]
  intro d
  induction d with
  | zero =>
    intro n k hn hk
    obtain ⟨k, rfl⟩ : ∃ m, k = m + 1 := ⟨k - 1, by omega⟩
    simp only [laws_heldByteS.l0]
    rw [if_neg (by omega)]
    congr 1
    omega
  | succ d ih =>
    intro n k hn hk
    obtain ⟨k, rfl⟩ : ∃ m, k = m + 1 := ⟨k - 1, by omega⟩
    simp only [laws_heldByteS.l0]
    rw [if_pos (by omega), if_pos (by omega), rd_nat, hl, markB_get _ _ _ (by omega), if_pos rfl, w64 (by omega) (by omega), w64 (by omega) (by omega), ← hl]
    have := ih (n + 1) k (by omega) (by omega)
    rw [← this]
    congr 1
    · omega
theorem E_laws_heldByteS (k : Nat) (x : Int) (n : Nat) (hk : 4194304 < k) (hn : n ≤ 2097152) (h0 : 0 ≤ x) (h1 : x ≤ 2097152) : laws_heldByteS.f k (markB x n) x = some (x + n) := by
  unfold laws_heldByteS.f
  have := E_laws_heldByteS_l0 (markB x n) x n hn h0 h1 rfl n 0 k (by omega) (by omega)
  simpa using this

-- markIo
theorem E_laws_markIntS_l0 (l : List Int) (hl : l.length ≤ 2097152) : ∀ (d n k : Nat) (m : List Int) (x : Int), n + d = l.length → d + 0 < k → (m.length = l.length) → (0 ≤ x) → (x + (l.length - n : Nat) ≤ 4194304) → laws_markIntS.l0 k m x (n : Int) = some ((x + (l.length - n : Nat), m.take n ++ markI x (l.length - n))) := by
  intro d
  induction d with
  | zero =>
    intro n k m x hn hk hm h0 h1
    obtain ⟨k, rfl⟩ : ∃ m, k = m + 1 := ⟨k - 1, by omega⟩
    simp only [laws_markIntS.l0]
    have e : l.length - n = 0 := by omega
    rw [if_neg (by omega), e]
    simp only [markI, List.append_nil]
    rw [List.take_of_length_le (by omega)]
    simp
  | succ d ih =>
    intro n k m x hn hk hm h0 h1
    obtain ⟨k, rfl⟩ : ∃ m, k = m + 1 := ⟨k - 1, by omega⟩
    have e1 : wrap64 ((n : Int) + 1) = ((n + 1 : Nat) : Int) := by rw [w64 (by omega) (by omega)]; omega
    simp only [laws_markIntS.l0]
    have e : l.length - n = (l.length - (n + 1)) + 1 := by omega
    rw [if_pos (by omega), if_pos (by omega), e1, w64 (x := x + 1) (by omega) (by omega)]
    rw [ih (n + 1) k _ _ (by omega) (by omega) (by simp; omega) (by omega) (by omega), e]
    simp only [markI]
    rw [show (n : Int).toNat = n by omega, take_set_snoc _ n _ (by omega), List.append_assoc]
    rw [show x + 1 + ((l.length - (n + 1) : Nat) : Int) = x + ((l.length - (n + 1) + 1 : Nat) : Int) by omega]
    rfl

theorem E_laws_markIntS (k : Nat) (l : List Int) (x : Int) (hk : 4194304 < k) (hl : l.length ≤ 2097152) (h0 : 0 ≤ x) (h1 : x ≤ 2097152) : laws_markIntS.f k l x = some (x + l.length, markI x l.length) := by
  unfold laws_markIntS.f
  have := E_laws_markIntS_l0 l hl l.length 0 k l x (by omega) (by omega) rfl h0 (by omega)
  simpa using this

-- l1In
theorem E_spec_l1In (a b c : Int) : spec_l1In.f a b c = some (decide (b ≤ a ∧ a ≤ c)) := by
  unfold spec_l1In.f
  by_cases h : a ≥ b
  · rw [if_pos h]; simp [show b ≤ a from h]
  · rw [if_neg h]; simp [show ¬ b ≤ a from h]

-- spec_IsValidKey
theorem E_spec_IsValidKey (a : Int) : spec_IsValidKey.f a = some (decide (1 ≤ a ∧ a ≤ 2147483646)) := by
  unfold spec_IsValidKey.f
  rw [E_spec_l1In]
  rfl

-- ascFrom
def ascAt (l : List Int) (i : Nat) : Prop := (0 ≤ l.getD i 0 ∧ l.getD i 0 ≤ 1000000000000) ∧ (0 < i → l.getD (i - 1) 0 < l.getD i 0)
def ascFrom (l : List Int) (n : Nat) : Prop := ∀ i, n ≤ i → i < l.length → ascAt l i
theorem ascFrom_end (l : List Int) (n : Nat) (h : l.length ≤ n) : ascFrom l n := fun i h1 h2 => absurd h2 (by omega)
theorem ascFrom_step (l : List Int) (n : Nat) (h : n < l.length) : ascFrom l n ↔ ascAt l n ∧ ascFrom l (n + 1) := by
  constructor
  · exact fun hh => ⟨hh n (Nat.le_refl _) h, fun i h1 h2 => hh i (by omega) h2⟩
  · rintro ⟨h0, hh⟩ i h1 h2
    rcases Nat.lt_or_ge n i with h3 | h3
    · exact hh i h3 h2
    · obtain rfl : i = n := by omega
      exact h0
def groupOk (a b c : Int) (l : List Int) : Prop := (0 ≤ a ∧ a ≤ 1000000000000) ∧ (0 ≤ b ∧ b ≤ 100000) ∧ (1 ≤ c ∧ c ≤ 2147483646) ∧ (l.length : Int) ≤ 8 ∧ ascFrom l 0

-- spec_IsValidGroup
theorem E_spec_IsValidGroup_l0 (a b c : Int) (l : List Int) (hl : l.length ≤ 1048577) : ∀ (d n k : Nat) , n + d = l.length → d + 0 < k → ∃ v, spec_IsValidGroup.l0 k (n : Int) a b c l = some v ∧ (v = true ↔ ascFrom l n ∧ (0 ≤ a ∧ a ≤ 1000000000000) ∧ (0 ≤ b ∧ b ≤ 100000) ∧ (1 ≤ c ∧ c ≤ 2147483646) ∧ (l.length : Int) ≤ 8) := by
  intro d
  induction d with
  | zero =>
    intro n k  hn hk 
    obtain ⟨k, rfl⟩ : ∃ m, k = m + 1 := ⟨k - 1, by omega⟩
    simp only [spec_IsValidGroup.l0]
    rw [if_neg (by omega), E_spec_l1In, E_spec_l1In, E_spec_IsValidKey]
    simp only [Option.bind_some, decide_eq_true_eq]
    have h0 := ascFrom_end l n (by omega)
    by_cases c0 : 0 ≤ a ∧ a ≤ 1000000000000
    · rw [if_pos c0]
      by_cases c1 : 0 ≤ b ∧ b ≤ 100000
      · rw [if_pos c1]
        by_cases c2 : 1 ≤ c ∧ c ≤ 2147483646
        · rw [if_pos c2]
          exact ⟨_, rfl, by rw [decide_eq_true_eq]; exact ⟨fun h => ⟨h0, c0, c1, c2, h⟩, fun h => h.2.2.2.2⟩⟩
        · rw [if_neg c2]
          exact ⟨false, rfl, by simp only [Bool.false_eq_true, false_iff]; exact fun h => c2 h.2.2.2.1⟩
      · rw [if_neg c1]
        exact ⟨false, rfl, by simp only [Bool.false_eq_true, false_iff]; exact fun h => c1 h.2.2.1⟩
    · rw [if_neg c0]
      exact ⟨false, rfl, by simp only [Bool.false_eq_true, false_iff]; exact fun h => c0 h.2.1⟩
  | succ d ih =>
    intro n k  hn hk 
    obtain ⟨k, rfl⟩ : ∃ m, k = m + 1 := ⟨k - 1, by omega⟩
    have e1 : wrap64 ((n : Int) + 1) = ((n + 1 : Nat) : Int) := by rw [w64 (by omega) (by omega)]; omega
    simp only [spec_IsValidGroup.l0]
    rw [if_pos (by omega), if_pos (by omega), rd_nat, E_spec_l1In]
    simp only [Option.bind_some, decide_eq_true_eq]
    by_cases c0 : 0 ≤ l.getD n 0 ∧ l.getD n 0 ≤ 1000000000000
    · rw [if_pos c0]
      by_cases c1 : (n : Int) > 0
      · have e2 : wrap64 ((n : Int) - 1) = ((n - 1 : Nat) : Int) := by rw [w64 (by omega) (by omega)]; omega
        rw [if_pos c1, e2, if_pos (by omega), if_pos (by omega), rd_nat]
        by_cases c2 : l.getD (n - 1) 0 ≥ l.getD n 0
        · rw [if_pos c2]
          refine ⟨false, rfl, ?_⟩
          simp only [Bool.false_eq_true, false_iff]
          intro h
          have := (((ascFrom_step l n (by omega)).1 h.1).1).2 (by omega)
          omega
        · rw [if_neg c2, e1]
          obtain ⟨v, hv, h3⟩ := ih (n + 1) k (by omega) (by omega)
          refine ⟨v, hv, h3.trans ?_⟩
          rw [ascFrom_step l n (by omega)]
          have : ascAt l n := ⟨c0, fun _ => by omega⟩
          simp [this]
      · rw [if_neg c1, e1]
        obtain ⟨v, hv, h3⟩ := ih (n + 1) k (by omega) (by omega)
        refine ⟨v, hv, h3.trans ?_⟩
        rw [ascFrom_step l n (by omega)]
        have : ascAt l n := ⟨c0, fun h => absurd h (by omega)⟩
        simp [this]
    · rw [if_neg c0]
      refine ⟨false, rfl, ?_⟩
      simp only [Bool.false_eq_true, false_iff]
      intro h
      exact c0 (((ascFrom_step l n (by omega)).1 h.1).1).1

theorem E_spec_IsValidGroup (k : Nat) (a b c : Int) (l : List Int) (hk : 4194304 < k) (hl : l.length ≤ 1048577) : ∃ v, spec_IsValidGroup.f k a b c l = some v ∧ (v = true ↔ groupOk a b c l) := by
  unfold spec_IsValidGroup.f groupOk
  obtain ⟨v, hv, h⟩ := E_spec_IsValidGroup_l0 a b c l hl l.length 0 k (by omega) (by omega)
  exact ⟨v, hv, h.trans ⟨fun h => ⟨h.2.1, h.2.2.1, h.2.2.2.1, h.2.2.2.2, h.1⟩, fun h => ⟨h.2.2.2.2, h.1, h.2.1, h.2.2.1, h.2.2.2.1⟩⟩⟩

-- spec_l20Has
theorem E_spec_l20Has_l0 (l : List Int) (a : Int) (hl : l.length ≤ 1048577) : ∀ (d n k : Nat) , n + d = l.length → d + 0 < k → ∃ v, spec_l20Has.l0 k l a (n : Int) = some v ∧ (v = true ↔ a ∈ l.drop n) := by
  intro d
  induction d with
  | zero =>
    intro n k  hn hk 
    obtain ⟨k, rfl⟩ : ∃ m, k = m + 1 := ⟨k - 1, by omega⟩
    simp only [spec_l20Has.l0]
    rw [if_neg (by omega), List.drop_eq_nil_of_le (by omega)]
    exact ⟨false, rfl, by simp⟩
  | succ d ih =>
    intro n k  hn hk 
    obtain ⟨k, rfl⟩ : ∃ m, k = m + 1 := ⟨k - 1, by omega⟩
    have e1 : wrap64 ((n : Int) + 1) = ((n + 1 : Nat) : Int) := by rw [w64 (by omega) (by omega)]; omega
    simp only [spec_l20Has.l0]
    rw [if_pos (by omega), if_pos (by omega), rd_nat, getD_drop l n 0 (by omega)]
    by_cases c : l.getD n 0 = a
    · rw [if_pos c]
      exact ⟨true, rfl, by simp only [true_iff]; rw [c]; exact List.mem_cons_self⟩
    · rw [if_neg c, e1]
      obtain ⟨v, hv, h⟩ := ih (n + 1) k (by omega) (by omega)
      exact ⟨v, hv, h.trans ⟨fun h => List.mem_cons_of_mem _ h, fun h => (List.mem_cons.1 h).resolve_left (fun e => c e.symm)⟩⟩

theorem E_spec_l20Has (k : Nat) (l : List Int) (a : Int) (hk : 4194304 < k) (hl : l.length ≤ 1048577) : ∃ v, spec_l20Has.f k l a = some v ∧ (v = true ↔ a ∈ l) := by
  unfold spec_l20Has.f
  obtain ⟨v, hv, h⟩ := E_spec_l20Has_l0 l a hl l.length 0 k (by omega) (by omega)
  rw [List.drop_zero] at h
  exact ⟨v, hv, h⟩

-- spec_Mod
theorem E_spec_Mod (a b : Int) : spec_Mod.f a b = some (modM a b) := by
  unfold spec_Mod.f modM
  rw [E_spec_l1In]
  simp only [Option.bind_some, decide_eq_true_eq]
  by_cases h : 1 ≤ b ∧ b ≤ 1000000000000
  · rw [if_pos h, if_pos h, if_neg (by omega)]
  · rw [if_neg h, if_neg h]

-- spec_Hash
theorem E_spec_Hash_l0 (l : List Int) (hl : l.length ≤ 4194304) : ∀ (d n k : Nat) (h : Int), n + d = l.length → d + 0 < k → spec_Hash.l0 k l h (n : Int) = some ((l.drop n).foldl stepM h) := by
  intro d
  induction d with
  | zero =>
    intro n k h hn hk 
    obtain ⟨k, rfl⟩ : ∃ m, k = m + 1 := ⟨k - 1, by omega⟩
    simp only [spec_Hash.l0]
    rw [if_neg (by omega), List.drop_eq_nil_of_le (by omega)]
    rfl
  | succ d ih =>
    intro n k h hn hk 
    obtain ⟨k, rfl⟩ : ∃ m, k = m + 1 := ⟨k - 1, by omega⟩
    have e1 : wrap64 ((n : Int) + 1) = ((n + 1 : Nat) : Int) := by rw [w64 (by omega) (by omega)]; omega
    simp only [spec_Hash.l0]
    rw [if_pos (by omega), if_pos (by omega), E_spec_Mod]
    simp only [Option.bind_some]
    rw [e1, rd_nat]
    rw [show (Int.tmod (wrap64 (wrap64 (wrap64 (h * 1000003) + modM (l.getD n 0) 2147483647) + 13)) 2147483647) = stepM h (l.getD n 0) from rfl]
    rw [ih (n + 1) k _ (by omega) (by omega), getD_drop l n 0 (by omega)]
    rfl

theorem E_spec_Hash (k : Nat) (l : List Int) (hk : 4194304 < k) (hl : l.length ≤ 4194304) : spec_Hash.f k l = some (hashM l) := by
  unfold spec_Hash.f
  have := E_spec_Hash_l0 l hl l.length 0 k 11 (by omega) (by omega)
  simpa [hashM] using this

-- spec_KeyedHash
theorem E_spec_KeyedHash (k : Nat) (a : Int) (l : List Int) (hk : 4194304 < k) (hl : l.length ≤ 4194300) : spec_KeyedHash.f k a l = some (khashM a l) := by
  unfold spec_KeyedHash.f
  simp only [Option.bind_some]
  rw [if_pos (by simp; omega), if_pos (by simp; omega), E_spec_Hash k _ hk (by simp; omega)]
  rfl

-- Max
theorem E_spec_Max1 (h : Int) (h0 : 0 ≤ h) : spec_Max.f 1 h = some (oneM h) := by
  unfold spec_Max.f oneM
  by_cases c : h = 0
  · rw [if_pos c, if_neg (by omega)]
  · rw [if_neg c]
    by_cases c2 : h > 1
    · rw [if_pos c2]
    · rw [if_neg c2, show h = 1 by omega]

-- spec_SenderKeyM
theorem E_spec_SenderKeyM (k : Nat) (a b c : Int) (l : List Int) (m : Int) (hk : 4194304 < k) : spec_SenderKey.f k a b c l m = some (oneM (khashM c [149, b, m])) := by
  unfold spec_SenderKey.f
  rw [E_spec_KeyedHash k _ _ hk (by simp)]
  simp only [Option.bind_some]
  rw [E_spec_Max1 _ (khashM_range _ _).1]
  rfl

-- streamM
def streamB (s i : Int) : Int := (wrap64 (Int.tdiv (childM s (wrap64 (100 + i))) 256)) % 256
def streamM (s : Int) (n : Nat) : List Int := (List.range n).map fun (i : Nat) => streamB s (i : Int)
theorem streamM_length (s : Int) (n : Nat) : (streamM s n).length = n := by simp [streamM]
theorem streamM_succ (s : Int) (n : Nat) : streamM s (n + 1) = streamM s n ++ [streamB s (n : Int)] := by simp [streamM, List.range_succ]
theorem streamM_byte (s : Int) (n : Nat) : ∀ x ∈ streamM s n, 0 ≤ x ∧ x ≤ 255 := by
  intro x hx
  obtain ⟨i, _, rfl⟩ := List.mem_map.1 hx
  unfold streamB
  omega

-- encM
def encB (s x i : Int) : Int := (x + Int.tmod (khashM s [i]) 256) % 256
def encM (s : Int) : List Int → Nat → List Int
  | [], _ => []
  | x :: l, i => encB s x (i : Int) :: encM s l (i + 1)
theorem encM_length (s : Int) : ∀ (l : List Int) (i : Nat), (encM s l i).length = l.length
  | [], _ => rfl
  | x :: l, i => by simp [encM, encM_length s l (i + 1)]
theorem encM_byte (s : Int) : ∀ (l : List Int) (i : Nat), ∀ x ∈ encM s l i, 0 ≤ x ∧ x ≤ 255
  | [], _ => by intro x hx; simp [encM] at hx
  | y :: l, i => by
    intro x hx
    rcases List.mem_cons.1 hx with rfl | hx
    · unfold encB; omega
    · exact encM_byte s l (i + 1) x hx
theorem encB_spec (s x i : Int) (h0 : 0 ≤ x) (h1 : x ≤ 255) : (Int.tmod (wrap64 ((wrap64 x) + (Int.tmod (khashM s [i]) 256))) 256) % 256 = encB s x i := by
  have h := (khashM_range s [i]).1
  have h2 := Int.tmod_nonneg 256 h
  have h3 := Int.tmod_lt_of_pos (khashM s [i]) (show (0 : Int) < 256 by omega)
  unfold encB
  rw [w64 (x := x) (by omega) (by omega), w64 (by omega) (by omega), Int.tmod_eq_emod_of_nonneg (by omega)]
  omega
theorem encB_impl (s x i : Int) : (x + ((Int.tmod (khashM s [i]) 256) % 256)) % 256 = encB s x i := by
  unfold encB
  omega

-- cellM
def cellM (s c : Int) (l : List Int) : Int := khashM s (71 :: c :: l)
def checkB (x : Int) : List Int := [x % 256, (x / 256) % 256, (x / 65536) % 256, (x / 16777216) % 256]
theorem checkB_byte (x : Int) : ∀ y ∈ checkB x, 0 ≤ y ∧ y ≤ 255 := by
  intro y hy
  simp only [checkB, List.mem_cons, List.not_mem_nil, or_false] at hy
  omega

-- sealM
def ckeyM (s c : Int) : Int := oneM (khashM s [67, c])
def padM (s c a : Int) (l : List Int) : List Int := [a % 256, (l.length : Int) % 256] ++ l ++ (streamM (khashM s [61, c]) 18).drop l.length
def sealM (s c a : Int) (l : List Int) : List Int := encM (ckeyM s c) (padM s c a l) 0 ++ checkB (cellM s c (encM (ckeyM s c) (padM s c a l) 0))
def sealOk (s c a : Int) (l : List Int) : Prop := (1 ≤ s ∧ s ≤ 2147483646) ∧ (0 ≤ c ∧ c ≤ 1000000000000) ∧ plainOk a l
instance (s c a : Int) (l : List Int) : Decidable (sealOk s c a l) := by unfold sealOk; infer_instance
theorem padM_length (s c a : Int) (l : List Int) (hl : l.length ≤ 14) : (padM s c a l).length = 20 := by
  simp only [padM, List.length_append, List.length_drop, streamM_length, List.length_cons, List.length_nil]
  omega
theorem padM_byte (s c a : Int) (l : List Int) (hb : ∀ x ∈ l, 0 ≤ x ∧ x ≤ 255) : ∀ x ∈ padM s c a l, 0 ≤ x ∧ x ≤ 255 := by
  intro x hx
  unfold padM at hx
  rcases List.mem_append.1 hx with hx | hx
  · rcases List.mem_append.1 hx with hx | hx
    · simp only [List.mem_cons, List.not_mem_nil, or_false] at hx
      omega
    · exact hb x hx
  · exact streamM_byte _ _ x (List.mem_of_mem_drop hx)
theorem sealM_length (s c a : Int) (l : List Int) (hl : l.length ≤ 14) : (sealM s c a l).length = 24 := by
  unfold sealM
  rw [List.length_append, encM_length, padM_length _ _ _ _ hl]
  rfl

-- spec_ChildSeed
theorem E_spec_ChildSeed (k : Nat) (a b : Int) (hk : 4194304 < k) : spec_ChildSeed.f k a b = some (childM a b) := by
  unfold spec_ChildSeed.f
  rw [E_spec_KeyedHash k _ _ hk (by simp)]
  rfl

-- spec_StreamBytes
theorem E_spec_StreamBytes_l0 (s : Int) (N : Nat) (hN : N ≤ 400) : ∀ (d n k : Nat) , n + d = N → d + 4194304 < k → spec_StreamBytes.l0 k s (N : Int) (streamM s n) (n : Int) = some (streamM s N) := by
  intro d
  induction d with
  | zero =>
    intro n k  hn hk 
    obtain ⟨k, rfl⟩ : ∃ m, k = m + 1 := ⟨k - 1, by omega⟩
    simp only [spec_StreamBytes.l0]
    rw [if_neg (by omega), show n = N by omega]
  | succ d ih =>
    intro n k  hn hk 
    obtain ⟨k, rfl⟩ : ∃ m, k = m + 1 := ⟨k - 1, by omega⟩
    have e1 : wrap64 ((n : Int) + 1) = ((n + 1 : Nat) : Int) := by rw [w64 (by omega) (by omega)]; omega
    simp only [spec_StreamBytes.l0]
    rw [if_pos (by omega), if_pos (by omega), E_spec_ChildSeed k _ _ (by omega)]
    simp only [Option.bind_some]
    rw [if_pos (by rw [streamM_length]; omega), e1]
    have := ih (n + 1) k (by omega) (by omega)
    rw [streamM_succ] at this
    exact this

theorem E_spec_StreamBytes (k : Nat) (s : Int) (N : Nat) (hk : 8388608 < k) (hN : N ≤ 400) : spec_StreamBytes.f k s (N : Int) = some (streamM s N) := by
  unfold spec_StreamBytes.f
  exact E_spec_StreamBytes_l0 s N hN N 0 k (by omega) (by omega)

-- spec_Encrypt
theorem E_spec_Encrypt_l0 (s : Int) (l : List Int) (hl : l.length ≤ 1048576) (hb : ∀ x ∈ l, 0 ≤ x ∧ x ≤ 255) : ∀ (d n k : Nat) (m : List Int), n + d = l.length → d + 4194304 < k → (m.length = n) → spec_Encrypt.l0 k s l m (n : Int) = some (m ++ encM s (l.drop n) n) := by
  intro d
  induction d with
  | zero =>
    intro n k m hn hk hm
    obtain ⟨k, rfl⟩ : ∃ m, k = m + 1 := ⟨k - 1, by omega⟩
    simp only [spec_Encrypt.l0]
    rw [if_neg (by omega), List.drop_eq_nil_of_le (by omega), encM, List.append_nil]
  | succ d ih =>
    intro n k m hn hk hm
    obtain ⟨k, rfl⟩ : ∃ m, k = m + 1 := ⟨k - 1, by omega⟩
    have e1 : wrap64 ((n : Int) + 1) = ((n + 1 : Nat) : Int) := by rw [w64 (by omega) (by omega)]; omega
    simp only [spec_Encrypt.l0]
    have hx := hb _ (getD_mem l n 0 (by omega))
    rw [if_pos (by omega), if_pos (by omega), E_spec_KeyedHash k _ _ (by omega) (by simp)]
    simp only [Option.bind_some]
    rw [if_pos (by omega), rd_nat, encB_spec s _ _ hx.1 hx.2, e1, ih (n + 1) k _ (by omega) (by omega) (by rw [List.length_append, List.length_singleton]; omega), getD_drop l n 0 (by omega), encM, List.append_assoc]
    rfl

theorem E_spec_Encrypt (k : Nat) (s : Int) (l : List Int) (hk : 8388608 < k) (hl : l.length ≤ 1048576) (hb : ∀ x ∈ l, 0 ≤ x ∧ x ≤ 255) : spec_Encrypt.f k s l = some (encM s l 0) := by
  unfold spec_Encrypt.f
  exact E_spec_Encrypt_l0 s l hl hb l.length 0 k [] (by omega) (by omega) rfl

-- spec_CellCheck
theorem E_spec_CellCheck_l0 (s : Int) (l : List Int) (hl : l.length ≤ 1048576) (hb : ∀ x ∈ l, 0 ≤ x ∧ x ≤ 255) : ∀ (d n k : Nat) (m : List Int), n + d = l.length → d + 4194304 + 1 < k → (m.length = n + 2) → spec_CellCheck.l0 k s l m (n : Int) = some (khashM s (m ++ l.drop n)) := by
  intro d
  induction d with
  | zero =>
    intro n k m hn hk hm
    obtain ⟨k, rfl⟩ : ∃ m, k = m + 1 := ⟨k - 1, by omega⟩
    simp only [spec_CellCheck.l0]
    rw [if_neg (by omega), E_spec_KeyedHash k _ _ (by omega) (by omega), List.drop_eq_nil_of_le (by omega), List.append_nil]
    rfl
  | succ d ih =>
    intro n k m hn hk hm
    obtain ⟨k, rfl⟩ : ∃ m, k = m + 1 := ⟨k - 1, by omega⟩
    have e1 : wrap64 ((n : Int) + 1) = ((n + 1 : Nat) : Int) := by rw [w64 (by omega) (by omega)]; omega
    simp only [spec_CellCheck.l0]
    have hx := hb _ (getD_mem l n 0 (by omega))
    rw [if_pos (by omega), if_pos (by omega), if_pos (by omega), rd_nat, w64 (by omega) (by omega), e1, ih (n + 1) k _ (by omega) (by omega) (by rw [List.length_append, List.length_singleton]; omega), getD_drop l n 0 (by omega), List.append_assoc]
    rfl

theorem E_spec_CellCheck (k : Nat) (s c : Int) (l : List Int) (hk : 8388608 < k) (hl : l.length ≤ 1048576) (hb : ∀ x ∈ l, 0 ≤ x ∧ x ≤ 255) : spec_CellCheck.f k s c l = some (cellM s c l) := by
  unfold spec_CellCheck.f
  exact E_spec_CellCheck_l0 s l hl hb l.length 0 k [71, c] (by omega) (by omega) rfl

-- spec_IsValidPlainM
theorem E_spec_IsValidPlainM (a : Int) (l : List Int) : spec_IsValidPlain.f a l = some (decide (plainOk a l)) := by
  unfold spec_IsValidPlain.f
  rw [E_spec_l1In]
  simp only [Option.bind_some, decide_eq_true_eq]
  by_cases h : plainOk a l
  · have h' := h
    unfold plainOk at h'
    rw [decide_eq_true h, if_pos h'.1, decide_eq_true (by omega)]
  · rw [decide_eq_false h]
    by_cases h1 : 0 ≤ a ∧ a ≤ 3
    · rw [if_pos h1, decide_eq_false (fun h2 => h ⟨h1, by omega⟩)]
    · rw [if_neg h1]

-- spec_SealCell
theorem E_spec_l13Cipher (k : Nat) (s c : Int) (hk : 4194304 < k) : spec_l13Cipher.f k s c = some (ckeyM s c) := by
  unfold spec_l13Cipher.f
  rw [E_spec_KeyedHash k _ _ hk (by simp)]
  simp only [Option.bind_some]
  rw [E_spec_Max1 _ (khashM_range _ _).1]
  rfl

theorem E_spec_SealCell (k : Nat) (s c a : Int) (l : List Int) (hk : 8388608 + 1 < k) (hl : l.length ≤ 1048576) (hb : ∀ x ∈ l, 0 ≤ x ∧ x ≤ 255) : spec_SealCell.f k s c a l = some (if sealOk s c a l then (sealM s c a l, true) else ([], false)) := by
  have hj : ∀ z : Bool, (z = false → l.length ≤ 14) → spec_SealCell.j0 k s c z a l = some (if z = true then ([], false) else (sealM s c a l, true)) := by
    intro z hz
    obtain ⟨k, rfl⟩ : ∃ j, k = j + 1 := ⟨k - 1, by omega⟩
    simp only [spec_SealCell.j0]
    by_cases h : z = true
    · rw [if_pos h, if_pos h]
    · have hl2 := hz (by simpa using h)
      have e18 : ((18 : Nat) : Int) = 18 := rfl
      have hp := padM_length s c a l hl2
      have hpb := padM_byte s c a l hb
      have he := encM_length (ckeyM s c) (padM s c a l) 0
      rw [if_neg h, if_neg h]
      simp only [Option.bind_some]
      rw [if_pos (by simp only [List.length_cons, List.length_nil]; omega), E_spec_KeyedHash k _ _ (by omega) (by simp)]
      simp only [Option.bind_some]
      rw [← e18, E_spec_StreamBytes k _ 18 (by omega) (by omega)]
      simp only [Option.bind_some]
      rw [if_pos (by omega), if_pos (by rw [streamM_length]; omega), if_pos (by simp only [List.length_append, List.length_drop, streamM_length, List.length_cons, List.length_nil]; omega)]
      rw [show ((l.length : Int) : Int).toNat = l.length by omega]
      rw [show ([a % 256, (l.length : Int) % 256] ++ l ++ (streamM (khashM s [61, c]) 18).drop l.length) = padM s c a l from rfl]
      rw [E_spec_l13Cipher k _ _ (by omega)]
      simp only [Option.bind_some]
      rw [E_spec_Encrypt k _ _ (by omega) (by omega) hpb]
      simp only [Option.bind_some]
      rw [E_spec_CellCheck k _ _ _ (by omega) (by omega) (encM_byte _ _ _)]
      simp only [Option.bind_some]
      rw [if_pos (by simp only [List.length_cons, List.length_nil]; omega)]
      rfl
  unfold spec_SealCell.f
  rw [E_spec_IsValidKey, E_spec_l1In, E_spec_IsValidPlainM]
  simp only [Option.bind_some, decide_eq_true_eq]
  by_cases h1 : 1 ≤ s ∧ s ≤ 2147483646
  · rw [if_pos h1]
    by_cases h2 : 0 ≤ c ∧ c ≤ 1000000000000
    · rw [if_pos h2, hj _ (fun h => by simp at h; exact h.2)]
      by_cases h3 : plainOk a l
      · rw [if_neg (by simp [h3]), if_pos (show sealOk s c a l from ⟨h1, h2, h3⟩)]
      · rw [if_pos (by simp [h3]), if_neg (fun h : sealOk s c a l => h3 h.2.2)]
    · rw [if_neg h2, hj true (fun h => by cases h), if_pos rfl, if_neg (fun h : sealOk s c a l => h2 h.2.1)]
  · rw [if_neg h1, hj true (fun h => by cases h), if_pos rfl, if_neg (fun h : sealOk s c a l => h1 h.1)]

-- spec_SealForGroup
theorem E_spec_SealForGroup (k : Nat) (a b c : Int) (l : List Int) (m n : Int) (y : List Int) (hk : 12582912 < k) (hl : l.length ≤ 1048577) (hy : y.length ≤ 1048576) (hb : ∀ x ∈ y, 0 ≤ x ∧ x ≤ 255) :
    ∃ v w : Bool, (v = true ↔ groupOk a b c l) ∧ (w = true ↔ m ∈ l) ∧ spec_SealForGroup.f k a b c l m n y = some (if v = true ∧ w = true ∧ sealOk (oneM (khashM c [149, b, m])) n 1 y then (sealM (oneM (khashM c [149, b, m])) n 1 y, true) else ([], false)) := by
  have hj : ∀ z : Bool, spec_SealForGroup.j0 k m n y z a b c l = some (if z = false ∧ sealOk (oneM (khashM c [149, b, m])) n 1 y then (sealM (oneM (khashM c [149, b, m])) n 1 y, true) else ([], false)) := by
    intro z
    obtain ⟨k, rfl⟩ : ∃ j, k = j + 1 := ⟨k - 1, by omega⟩
    simp only [spec_SealForGroup.j0]
    by_cases h : z = true
    · rw [if_pos h, if_neg (fun hh => by rw [h] at hh; exact absurd hh.1 (by decide))]
    · have h' : z = false := by simpa using h
      rw [if_neg h, E_spec_SenderKeyM k _ _ _ _ _ (by omega)]
      simp only [Option.bind_some]
      rw [E_spec_SealCell k _ _ _ _ (by omega) hy hb]
      simp only [Option.bind_some, h', true_and]
  obtain ⟨v, hv, hv1⟩ := E_spec_IsValidGroup k a b c l (by omega) (by omega)
  obtain ⟨w, hw, hw1⟩ := E_spec_l20Has k l m (by omega) (by omega)
  refine ⟨v, w, hv1, hw1, ?_⟩
  unfold spec_SealForGroup.f
  rw [hv, hw]
  simp only [Option.bind_some]
  by_cases h1 : v = true
  · rw [if_pos h1, hj]
    cases w <;> simp [h1]
  · rw [if_neg h1, hj, if_neg (fun hh => by exact absurd hh.1 (by decide)), if_neg (fun hh => h1 hh.1)]

-- InRange
theorem E_impl_InRange (a b c : Int) : impl_InRange.f a b c = some (decide (b ≤ a ∧ a ≤ c)) := by
  unfold impl_InRange.f
  by_cases h : b ≤ a
  · rw [if_pos h]; simp [h]
  · rw [if_neg h]; simp [h]

-- impl_IsValidKey
theorem E_impl_IsValidKey (a : Int) : impl_IsValidKey.f a = some (decide (1 ≤ a ∧ a ≤ 2147483646)) := by
  unfold impl_IsValidKey.f
  rw [E_impl_InRange]
  rfl

-- impl_IsValidGroup
theorem E_impl_areAscending_l0 (l : List Int) (hl : l.length ≤ 1048577) : ∀ (d n k : Nat) , n + d = l.length → d + 0 < k → ∃ v, impl_areAscending.l0 k l 0 1000000000000 l (l.length : Int) (n : Int) = some v ∧ (v = true ↔ ascFrom l n) := by
  intro d
  induction d with
  | zero =>
    intro n k  hn hk 
    obtain ⟨k, rfl⟩ : ∃ m, k = m + 1 := ⟨k - 1, by omega⟩
    simp only [impl_areAscending.l0]
    rw [if_neg (by omega)]
    exact ⟨true, rfl, by simp only [true_iff]; exact ascFrom_end l n (by omega)⟩
  | succ d ih =>
    intro n k  hn hk 
    obtain ⟨k, rfl⟩ : ∃ m, k = m + 1 := ⟨k - 1, by omega⟩
    have e1 : wrap64 ((n : Int) + 1) = ((n + 1 : Nat) : Int) := by rw [w64 (by omega) (by omega)]; omega
    simp only [impl_areAscending.l0]
    rw [if_pos (by omega), if_pos (by omega), if_pos (by omega), rd_nat, E_impl_InRange]
    simp only [Option.bind_some, decide_eq_true_eq]
    by_cases c0 : 0 ≤ l.getD n 0 ∧ l.getD n 0 ≤ 1000000000000
    · rw [if_pos c0]
      by_cases c1 : (n : Int) > 0
      · have e2 : wrap64 ((n : Int) - 1) = ((n - 1 : Nat) : Int) := by rw [w64 (by omega) (by omega)]; omega
        rw [if_pos c1, e2, if_pos (by omega), if_pos (by omega), rd_nat]
        by_cases c2 : l.getD (n - 1) 0 ≥ l.getD n 0
        · rw [if_pos c2]
          refine ⟨false, rfl, ?_⟩
          simp only [Bool.false_eq_true, false_iff]
          intro h
          have := (((ascFrom_step l n (by omega)).1 h).1).2 (by omega)
          omega
        · rw [if_neg c2, e1]
          obtain ⟨v, hv, h3⟩ := ih (n + 1) k (by omega) (by omega)
          refine ⟨v, hv, h3.trans ?_⟩
          rw [ascFrom_step l n (by omega)]
          have : ascAt l n := ⟨c0, fun _ => by omega⟩
          simp [this]
      · rw [if_neg c1, e1]
        obtain ⟨v, hv, h3⟩ := ih (n + 1) k (by omega) (by omega)
        refine ⟨v, hv, h3.trans ?_⟩
        rw [ascFrom_step l n (by omega)]
        have : ascAt l n := ⟨c0, fun h => absurd h (by omega)⟩
        simp [this]
    · rw [if_neg c0]
      refine ⟨false, rfl, ?_⟩
      simp only [Bool.false_eq_true, false_iff]
      intro h
      exact c0 (((ascFrom_step l n (by omega)).1 h).1).1

theorem E_impl_IsValidGroup (k : Nat) (a b c : Int) (l : List Int) (hk : 4194304 < k) (hl : l.length ≤ 1048577) : ∃ v, impl_IsValidGroup.f k a b c l = some v ∧ (v = true ↔ groupOk a b c l) := by
  unfold impl_IsValidGroup.f groupOk
  rw [E_impl_InRange, E_impl_InRange, E_impl_IsValidKey]
  simp only [Option.bind_some, decide_eq_true_eq]
  by_cases c0 : 0 ≤ a ∧ a ≤ 1000000000000
  · rw [if_pos c0]
    by_cases c1 : 0 ≤ b ∧ b ≤ 100000
    · rw [if_pos c1]
      by_cases c2 : 1 ≤ c ∧ c ≤ 2147483646
      · rw [if_pos c2]
        by_cases c3 : (l.length : Int) ≤ 8
        · rw [if_pos c3]
          obtain ⟨v, hv, h⟩ := E_impl_areAscending_l0 l hl l.length 0 k (by omega) (by omega)
          rw [show ((0 : Nat) : Int) = 0 from rfl] at hv
          unfold impl_areAscending.f
          rw [hv]
          exact ⟨v, rfl, h.trans ⟨fun h => ⟨c0, c1, c2, c3, h⟩, fun h => h.2.2.2.2⟩⟩
        · rw [if_neg c3]
          exact ⟨false, rfl, by simp only [Bool.false_eq_true, false_iff]; exact fun h => c3 h.2.2.2.1⟩
      · rw [if_neg c2]
        exact ⟨false, rfl, by simp only [Bool.false_eq_true, false_iff]; exact fun h => c2 h.2.2.1⟩
    · rw [if_neg c1]
      exact ⟨false, rfl, by simp only [Bool.false_eq_true, false_iff]; exact fun h => c1 h.2.1⟩
  · rw [if_neg c0]
    exact ⟨false, rfl, by simp only [Bool.false_eq_true, false_iff]; exact fun h => c0 h.1⟩

-- slices_Contains_int
theorem E_slices_Index_int_l0 (l : List Int) (a : Int) (hl : l.length ≤ 1048577) : ∀ (d n k : Nat) , n + d = l.length → d + 0 < k → ∃ v, slices_Index_int.l0 k l a (l.length : Int) (n : Int) = some v ∧ (v ≥ 0 ↔ a ∈ l.drop n) := by
  intro d
  induction d with
  | zero =>
    intro n k  hn hk 
    obtain ⟨k, rfl⟩ : ∃ m, k = m + 1 := ⟨k - 1, by omega⟩
    simp only [slices_Index_int.l0]
    rw [if_neg (by omega), List.drop_eq_nil_of_le (by omega)]
    exact ⟨-1, rfl, by simp⟩
  | succ d ih =>
    intro n k  hn hk 
    obtain ⟨k, rfl⟩ : ∃ m, k = m + 1 := ⟨k - 1, by omega⟩
    have e1 : wrap64 ((n : Int) + 1) = ((n + 1 : Nat) : Int) := by rw [w64 (by omega) (by omega)]; omega
    simp only [slices_Index_int.l0]
    rw [if_pos (by omega), if_pos (by omega), if_pos (by omega), rd_nat, getD_drop l n 0 (by omega)]
    by_cases c : a = l.getD n 0
    · rw [if_pos c]
      exact ⟨_, rfl, fun _ => by rw [c]; exact List.mem_cons_self, fun _ => by omega⟩
    · rw [if_neg c, e1]
      obtain ⟨v, hv, h⟩ := ih (n + 1) k (by omega) (by omega)
      exact ⟨v, hv, h.trans ⟨fun h => List.mem_cons_of_mem _ h, fun h => (List.mem_cons.1 h).resolve_left c⟩⟩

theorem E_slices_Contains_int (k : Nat) (l : List Int) (a : Int) (hk : 4194304 < k) (hl : l.length ≤ 1048577) : ∃ v, slices_Contains_int.f k l a = some v ∧ (v = true ↔ a ∈ l) := by
  unfold slices_Contains_int.f slices_Index_int.f
  obtain ⟨v, hv, h⟩ := E_slices_Index_int_l0 l a hl l.length 0 k (by omega) (by omega)
  rw [show ((0 : Nat) : Int) = 0 from rfl] at hv
  rw [hv]
  rw [List.drop_zero] at h
  exact ⟨_, rfl, by rw [decide_eq_true_eq]; exact h⟩

-- impl_Mod
theorem E_impl_Mod (a b : Int) : impl_Mod.f a b = some (modM a b) := by
  unfold impl_Mod.f modM
  rw [E_impl_InRange]
  simp only [Option.bind_some, decide_eq_true_eq]
  by_cases h : 1 ≤ b ∧ b ≤ 1000000000000
  · rw [if_pos h, if_pos h, if_neg (by omega)]
  · rw [if_neg h, if_neg h]

-- impl_Hash
theorem E_impl_Hash_l0 (l : List Int) (hl : l.length ≤ 4194304) : ∀ (d n k : Nat) (h : Int), n + d = l.length → d + 0 < k → impl_Hash.l0 k h l (l.length : Int) (n : Int) = some ((l.drop n).foldl stepM h) := by
  intro d
  induction d with
  | zero =>
    intro n k h hn hk 
    obtain ⟨k, rfl⟩ : ∃ m, k = m + 1 := ⟨k - 1, by omega⟩
    simp only [impl_Hash.l0]
    rw [if_neg (by omega), List.drop_eq_nil_of_le (by omega)]
    rfl
  | succ d ih =>
    intro n k h hn hk 
    obtain ⟨k, rfl⟩ : ∃ m, k = m + 1 := ⟨k - 1, by omega⟩
    have e1 : wrap64 ((n : Int) + 1) = ((n + 1 : Nat) : Int) := by rw [w64 (by omega) (by omega)]; omega
    simp only [impl_Hash.l0]
    rw [if_pos (by omega), if_pos (by omega), if_pos (by omega), E_impl_Mod]
    simp only [Option.bind_some]
    rw [e1, rd_nat]
    rw [show (Int.tmod (wrap64 (wrap64 (wrap64 (h * 1000003) + modM (l.getD n 0) 2147483647) + 13)) 2147483647) = stepM h (l.getD n 0) from rfl]
    rw [ih (n + 1) k _ (by omega) (by omega), getD_drop l n 0 (by omega)]
    rfl

theorem E_impl_Hash (k : Nat) (l : List Int) (hk : 4194304 < k) (hl : l.length ≤ 4194304) : impl_Hash.f k l = some (hashM l) := by
  unfold impl_Hash.f
  have := E_impl_Hash_l0 l hl l.length 0 k 11 (by omega) (by omega)
  simpa [hashM] using this

-- slices_Grow_int_at_nil
theorem E_slices_Grow_int_at_nil (n : Int) (h0 : 0 ≤ n) (h1 : n < 17592186044416) : slices_Grow_int_at_nil.f n = some [] := by
  unfold slices_Grow_int_at_nil.f
  rw [if_neg (by omega)]
  have e : wrap64 n = n := w64 (by omega) (by omega)
  rw [e]
  by_cases h : n > 0
  · rw [if_pos h, if_pos (by omega), if_pos (by simp; omega)]
    simp
  · rw [if_neg h]

-- sumLen
def sumLen (ls : List (List Int)) : Int := (ls.map (fun l => (l.length : Int))).foldl (· + ·) 0
theorem foldl_add (l : List Int) : ∀ (a : Int), l.foldl (· + ·) a = a + l.foldl (· + ·) 0 := by
  induction l with
  | nil => intro a; simp
  | cons x l ih => intro a; simp only [List.foldl_cons]; rw [ih (a + x), ih (0 + x)]; omega
theorem sumLen_cons (l : List Int) (ls : List (List Int)) : sumLen (l :: ls) = l.length + sumLen ls := by
  unfold sumLen
  simp only [List.map_cons, List.foldl_cons]
  rw [foldl_add]
  omega
theorem sumLen_nonneg (ls : List (List Int)) : 0 ≤ sumLen ls := by
  induction ls with
  | nil => simp [sumLen]
  | cons l ls ih => rw [sumLen_cons]; omega
theorem sumLen_append (l m : List (List Int)) : sumLen (l ++ m) = sumLen l + sumLen m := by
  induction l with
  | nil => simp [sumLen]
  | cons x l ih => rw [List.cons_append, sumLen_cons, sumLen_cons, ih]; omega
theorem mem_sumLen (l : List (List Int)) : ∀ x ∈ l, (x.length : Int) ≤ sumLen l := by
  induction l with
  | nil => intro x hx; exact absurd hx (by simp)
  | cons y l ih =>
    intro x hx
    rw [sumLen_cons]
    rcases List.mem_cons.1 hx with rfl | hx
    · have := sumLen_nonneg l; omega
    · have := ih x hx; omega

-- slices_Concat_int
theorem E_slices_Concat_int_l1 (ls : List (List Int)) (hl : ls.length ≤ 1048576) : ∀ (d n k : Nat) (acc : List Int), n + d = ls.length → d + 0 < k → ((acc.length : Int) + sumLen (ls.drop n) < 17592186044416) → slices_Concat_int.l1 k acc ls (ls.length : Int) (n : Int) = some (acc ++ (ls.drop n).flatten) := by
  intro d
  induction d with
  | zero =>
    intro n k acc hn hk hs
    obtain ⟨k, rfl⟩ : ∃ m, k = m + 1 := ⟨k - 1, by omega⟩
    simp only [slices_Concat_int.l1]
    rw [if_neg (by omega), List.drop_eq_nil_of_le (by omega), List.flatten_nil, List.append_nil]
  | succ d ih =>
    intro n k acc hn hk hs
    obtain ⟨k, rfl⟩ : ∃ m, k = m + 1 := ⟨k - 1, by omega⟩
    have e1 : wrap64 ((n : Int) + 1) = ((n + 1 : Nat) : Int) := by rw [w64 (by omega) (by omega)]; omega
    simp only [slices_Concat_int.l1]
    rw [getD_drop ls n [] (by omega), sumLen_cons] at hs
    have hn0 := sumLen_nonneg (ls.drop (n + 1))
    have er : rd_L5 ls (n : Int) = ls.getD n [] := by simp [rd_L5]
    rw [if_pos (by omega), if_pos (by omega), if_pos (by omega), er, if_pos (by omega), e1]
    rw [ih (n + 1) k _ (by omega) (by omega) (by rw [List.length_append]; omega), getD_drop ls n [] (by omega), List.flatten_cons, List.append_assoc]
theorem E_slices_Concat_int_l0 (ls : List (List Int)) (hl : ls.length ≤ 1048576) : ∀ (d n k : Nat) (s : Int), n + d = ls.length → d + 1048578 < k → (0 ≤ s) → (s + sumLen (ls.drop n) < 17592186044416) → (sumLen ls < 17592186044416) → slices_Concat_int.l0 k ls s ls (ls.length : Int) (n : Int) = some (ls.flatten) := by
  intro d
  induction d with
  | zero =>
    intro n k s hn hk h0 hs ht
    obtain ⟨k, rfl⟩ : ∃ m, k = m + 1 := ⟨k - 1, by omega⟩
    simp only [slices_Concat_int.l0]
    rw [if_neg (by omega)]
    rw [List.drop_eq_nil_of_le (by omega)] at hs
    have hz : sumLen ([] : List (List Int)) = 0 := by simp [sumLen]
    rw [E_slices_Grow_int_at_nil s (by omega) (by omega)]
    simp only [Option.bind_some]
    have := E_slices_Concat_int_l1 ls hl ls.length 0 k [] (by omega) (by omega) (by simp; omega)
    simpa using this
  | succ d ih =>
    intro n k s hn hk h0 hs ht
    obtain ⟨k, rfl⟩ : ∃ m, k = m + 1 := ⟨k - 1, by omega⟩
    have e1 : wrap64 ((n : Int) + 1) = ((n + 1 : Nat) : Int) := by rw [w64 (by omega) (by omega)]; omega
    simp only [slices_Concat_int.l0]
    rw [getD_drop ls n [] (by omega), sumLen_cons] at hs
    have hn0 := sumLen_nonneg (ls.drop (n + 1))
    have er : rd_L5 ls (n : Int) = ls.getD n [] := by simp [rd_L5]
    rw [if_pos (by omega), if_pos (by omega), if_pos (by omega), er, w64 (x := s + ((ls.getD n []).length : Int)) (by omega) (by omega), if_neg (by omega), e1]
    rw [ih (n + 1) k _ (by omega) (by omega) (by omega) (by omega) ht]

theorem E_slices_Concat_int (k : Nat) (ls : List (List Int)) (hk : 4194304 < k) (hl : ls.length ≤ 1048576) (hs : sumLen ls < 17592186044416) : slices_Concat_int.f k ls = some ls.flatten := by
  unfold slices_Concat_int.f
  exact E_slices_Concat_int_l0 ls hl ls.length 0 k 0 (by omega) (by omega) (by omega) (by simpa using hs) hs

-- impl_KeyedHash
theorem E_impl_KeyedHash (k : Nat) (a : Int) (l : List Int) (hk : 4194304 < k) (hl : l.length ≤ 4194300) : impl_KeyedHash.f k a l = some (khashM a l) := by
  unfold impl_KeyedHash.f
  have hs : sumLen [[a], l, [a]] = l.length + 2 := by simp [sumLen_cons, sumLen]; omega
  rw [E_slices_Concat_int k _ hk (by simp) (by omega)]
  simp only [Option.bind_some, List.flatten_cons, List.flatten_nil, List.append_nil]
  rw [E_impl_Hash k _ hk (by simp; omega)]
  rfl

-- orOne
theorem E_impl_orOne (h : Int) : impl_orOne.f h = some (oneM h) := by
  unfold impl_orOne.f oneM
  split <;> rfl

-- impl_SenderKeyM
theorem E_impl_SenderKeyM (k : Nat) (a b c : Int) (l : List Int) (m : Int) (hk : 4194304 < k) : impl_SenderKey.f k a b c l m = some (oneM (khashM c [149, b, m])) := by
  unfold impl_SenderKey.f
  rw [E_impl_KeyedHash k _ _ hk (by simp)]
  simp only [Option.bind_some]
  rw [E_impl_orOne]
  rfl

-- impl_ChildSeed
theorem E_impl_ChildSeed (k : Nat) (a b : Int) (hk : 4194304 < k) : impl_ChildSeed.f k a b = some (childM a b) := by
  unfold impl_ChildSeed.f
  rw [E_impl_KeyedHash k _ _ hk (by simp)]
  rfl

-- impl_StreamBytes
theorem E_impl_StreamBytes_l0 (s : Int) (N : Nat) (hN : N ≤ 400) : ∀ (d n k : Nat) , n + d = N → d + 4194304 < k → impl_StreamBytes.l0 k s (streamM s n) (N : Int) (n : Int) = some (streamM s N) := by
  intro d
  induction d with
  | zero =>
    intro n k  hn hk 
    obtain ⟨k, rfl⟩ : ∃ m, k = m + 1 := ⟨k - 1, by omega⟩
    simp only [impl_StreamBytes.l0]
    rw [if_neg (by omega), show n = N by omega]
  | succ d ih =>
    intro n k  hn hk 
    obtain ⟨k, rfl⟩ : ∃ m, k = m + 1 := ⟨k - 1, by omega⟩
    have e1 : wrap64 ((n : Int) + 1) = ((n + 1 : Nat) : Int) := by rw [w64 (by omega) (by omega)]; omega
    simp only [impl_StreamBytes.l0]
    rw [if_pos (by omega), E_impl_ChildSeed k _ _ (by omega)]
    simp only [Option.bind_some]
    rw [if_pos (by rw [streamM_length]; omega), e1]
    have := ih (n + 1) k (by omega) (by omega)
    rw [streamM_succ] at this
    exact this

theorem E_impl_StreamBytes (k : Nat) (s : Int) (N : Nat) (hk : 8388608 < k) (hN : N ≤ 400) : impl_StreamBytes.f k s (N : Int) = some (streamM s N) := by
  unfold impl_StreamBytes.f
  rw [E_impl_InRange]
  simp only [Option.bind_some, decide_eq_true_eq]
  rw [if_pos (by omega)]
  exact E_impl_StreamBytes_l0 s N hN N 0 k (by omega) (by omega)

-- impl_Encrypt
theorem E_impl_Encrypt_l0 (s : Int) (l : List Int) (hl : l.length ≤ 1048576) : ∀ (d n k : Nat) (m : List Int), n + d = l.length → d + 4194304 < k → (m.length = l.length) → (m.drop n = l.drop n) → impl_Encrypt.l0 k s m (l.length : Int) (n : Int) = some (m.take n ++ encM s (l.drop n) n) := by
  intro d
  induction d with
  | zero =>
    intro n k m hn hk hm hd
    obtain ⟨k, rfl⟩ : ∃ m, k = m + 1 := ⟨k - 1, by omega⟩
    simp only [impl_Encrypt.l0]
    rw [if_neg (by omega), List.drop_eq_nil_of_le (by omega), encM, List.append_nil, List.take_of_length_le (by omega)]
  | succ d ih =>
    intro n k m hn hk hm hd
    obtain ⟨k, rfl⟩ : ∃ m, k = m + 1 := ⟨k - 1, by omega⟩
    have e1 : wrap64 ((n : Int) + 1) = ((n + 1 : Nat) : Int) := by rw [w64 (by omega) (by omega)]; omega
    simp only [impl_Encrypt.l0]
    have hg : m.getD n 0 = l.getD n 0 := by rw [getD_drop m n 0 (by omega), getD_drop l n 0 (by omega)] at hd; exact (List.cons.inj hd).1
    have ht : m.drop (n + 1) = l.drop (n + 1) := by rw [getD_drop m n 0 (by omega), getD_drop l n 0 (by omega)] at hd; exact (List.cons.inj hd).2
    rw [if_pos (by omega), if_pos (by omega), if_pos (by omega), E_impl_KeyedHash k _ _ (by omega) (by simp)]
    simp only [Option.bind_some]
    rw [rd_nat, encB_impl, hg, e1, ih (n + 1) k _ (by omega) (by omega) (by rw [List.length_set]; omega) (by rw [show (n : Int).toNat = n by omega, List.drop_set_of_lt (by omega)]; exact ht)]
    rw [show (n : Int).toNat = n by omega, take_set_snoc _ n _ (by omega), getD_drop l n 0 (by omega), encM, List.append_assoc]
    rfl

theorem E_impl_Encrypt (k : Nat) (s : Int) (l : List Int) (hk : 8388608 < k) (hl : l.length ≤ 1048576) : impl_Encrypt.f k s l = some (encM s l 0) := by
  unfold impl_Encrypt.f slices_Clone_byte.f
  simp only [Option.bind_some, List.nil_append]
  rw [if_pos (by simp; omega)]
  simp only [Option.bind_some]
  have := E_impl_Encrypt_l0 s l hl l.length 0 k l (by omega) (by omega) rfl rfl
  simpa using this

-- impl_CellCheck
theorem E_impl_CellCheck_l0 (s : Int) (l : List Int) (hl : l.length ≤ 1048576) (hb : ∀ x ∈ l, 0 ≤ x ∧ x ≤ 255) : ∀ (d n k : Nat) (m : List Int), n + d = l.length → d + 4194304 + 1 < k → (m.length = n + 2) → impl_CellCheck.l0 k s m l (l.length : Int) (n : Int) = some (khashM s (m ++ l.drop n)) := by
  intro d
  induction d with
  | zero =>
    intro n k m hn hk hm
    obtain ⟨k, rfl⟩ : ∃ m, k = m + 1 := ⟨k - 1, by omega⟩
    simp only [impl_CellCheck.l0]
    rw [if_neg (by omega), E_impl_KeyedHash k _ _ (by omega) (by omega), List.drop_eq_nil_of_le (by omega), List.append_nil]
    rfl
  | succ d ih =>
    intro n k m hn hk hm
    obtain ⟨k, rfl⟩ : ∃ m, k = m + 1 := ⟨k - 1, by omega⟩
    have e1 : wrap64 ((n : Int) + 1) = ((n + 1 : Nat) : Int) := by rw [w64 (by omega) (by omega)]; omega
    simp only [impl_CellCheck.l0]
    have hx := hb _ (getD_mem l n 0 (by omega))
    rw [if_pos (by omega), if_pos (by omega), if_pos (by omega), if_pos (by omega), rd_nat, w64 (by omega) (by omega), e1, ih (n + 1) k _ (by omega) (by omega) (by rw [List.length_append, List.length_singleton]; omega), getD_drop l n 0 (by omega), List.append_assoc]
    rfl

theorem E_impl_CellCheck (k : Nat) (s c : Int) (l : List Int) (hk : 8388608 < k) (hl : l.length ≤ 1048576) (hb : ∀ x ∈ l, 0 ≤ x ∧ x ≤ 255) : impl_CellCheck.f k s c l = some (cellM s c l) := by
  unfold impl_CellCheck.f
  exact E_impl_CellCheck_l0 s l hl hb l.length 0 k [71, c] (by omega) (by omega) rfl

-- impl_IsValidPlainM
theorem E_impl_IsValidPlainM (a : Int) (l : List Int) : impl_IsValidPlain.f a l = some (decide (plainOk a l)) := by
  unfold impl_IsValidPlain.f
  rw [E_impl_InRange]
  simp only [Option.bind_some, decide_eq_true_eq]
  by_cases h : plainOk a l
  · have h' := h
    unfold plainOk at h'
    rw [decide_eq_true h, if_pos h'.1, decide_eq_true (by omega)]
  · rw [decide_eq_false h]
    by_cases h1 : 0 ≤ a ∧ a ≤ 3
    · rw [if_pos h1, decide_eq_false (fun h2 => h ⟨h1, by omega⟩)]
    · rw [if_neg h1]

-- impl_SealCell
theorem E_impl_cellKey (k : Nat) (s c : Int) (hk : 4194304 < k) : impl_cellKey.f k s c = some (ckeyM s c) := by
  unfold impl_cellKey.f
  rw [E_impl_KeyedHash k _ _ hk (by simp)]
  simp only [Option.bind_some]
  rw [E_impl_orOne]
  rfl
theorem E_impl_checkBytes (k : Nat) (s c : Int) (l : List Int) (hk : 8388608 < k) (hl : l.length ≤ 1048576) (hb : ∀ x ∈ l, 0 ≤ x ∧ x ≤ 255) : impl_checkBytes.f k s c l = some (checkB (cellM s c l)) := by
  unfold impl_checkBytes.f
  rw [E_impl_CellCheck k s c l hk hl hb]
  rfl

theorem E_impl_SealCell (k : Nat) (s c a : Int) (l : List Int) (hk : 8388608 + 1 < k) (hl : l.length ≤ 1048576) (hb : ∀ x ∈ l, 0 ≤ x ∧ x ≤ 255) : impl_SealCell.f k s c a l = some (if sealOk s c a l then (sealM s c a l, true) else ([], false)) := by
  have hj : ∀ z : Bool, (z = false → l.length ≤ 14) → impl_SealCell.j0 k s c z a l = some (if z = true then ([], false) else (sealM s c a l, true)) := by
    intro z hz
    obtain ⟨k, rfl⟩ : ∃ j, k = j + 1 := ⟨k - 1, by omega⟩
    simp only [impl_SealCell.j0]
    by_cases h : z = true
    · rw [if_pos h, if_pos h]
    · have hl2 := hz (by simpa using h)
      have e18 : ((18 : Nat) : Int) = 18 := rfl
      have hp := padM_length s c a l hl2
      have hpb := padM_byte s c a l hb
      have he := encM_length (ckeyM s c) (padM s c a l) 0
      rw [if_neg h, if_neg h]
      simp only [Option.bind_some]
      rw [if_pos (by simp only [List.length_cons, List.length_nil]; omega), E_impl_KeyedHash k _ _ (by omega) (by simp)]
      simp only [Option.bind_some]
      rw [← e18, E_impl_StreamBytes k _ 18 (by omega) (by omega)]
      simp only [Option.bind_some]
      rw [if_pos (by omega), if_pos (by rw [streamM_length]; omega), if_pos (by simp only [List.length_append, List.length_drop, streamM_length, List.length_cons, List.length_nil]; omega)]
      rw [show ((l.length : Int) : Int).toNat = l.length by omega]
      rw [show ([a % 256, (l.length : Int) % 256] ++ l ++ (streamM (khashM s [61, c]) 18).drop l.length) = padM s c a l from rfl]
      rw [E_impl_cellKey k _ _ (by omega)]
      simp only [Option.bind_some]
      rw [E_impl_Encrypt k _ _ (by omega) (by omega)]
      simp only [Option.bind_some]
      rw [E_impl_checkBytes k _ _ _ (by omega) (by omega) (encM_byte _ _ _)]
      simp only [Option.bind_some]
      rw [if_pos (by simp only [checkB, List.length_cons, List.length_nil]; omega)]
      rfl
  unfold impl_SealCell.f
  rw [E_impl_IsValidKey, E_impl_InRange, E_impl_IsValidPlainM]
  simp only [Option.bind_some, decide_eq_true_eq]
  by_cases h1 : 1 ≤ s ∧ s ≤ 2147483646
  · rw [if_pos h1]
    by_cases h2 : 0 ≤ c ∧ c ≤ 1000000000000
    · rw [if_pos h2, hj _ (fun h => by simp at h; exact h.2)]
      by_cases h3 : plainOk a l
      · rw [if_neg (by simp [h3]), if_pos (show sealOk s c a l from ⟨h1, h2, h3⟩)]
      · rw [if_pos (by simp [h3]), if_neg (fun h : sealOk s c a l => h3 h.2.2)]
    · rw [if_neg h2, hj true (fun h => by cases h), if_pos rfl, if_neg (fun h : sealOk s c a l => h2 h.2.1)]
  · rw [if_neg h1, hj true (fun h => by cases h), if_pos rfl, if_neg (fun h : sealOk s c a l => h1 h.1)]

-- impl_SealForGroup
theorem E_impl_SealForGroup (k : Nat) (a b c : Int) (l : List Int) (m n : Int) (y : List Int) (hk : 12582912 < k) (hl : l.length ≤ 1048577) (hy : y.length ≤ 1048576) (hb : ∀ x ∈ y, 0 ≤ x ∧ x ≤ 255) :
    ∃ v w : Bool, (v = true ↔ groupOk a b c l) ∧ (w = true ↔ m ∈ l) ∧ impl_SealForGroup.f k a b c l m n y = some (if v = true ∧ w = true ∧ sealOk (oneM (khashM c [149, b, m])) n 1 y then (sealM (oneM (khashM c [149, b, m])) n 1 y, true) else ([], false)) := by
  have hj : ∀ z : Bool, impl_SealForGroup.j0 k m n y z a b c l = some (if z = false ∧ sealOk (oneM (khashM c [149, b, m])) n 1 y then (sealM (oneM (khashM c [149, b, m])) n 1 y, true) else ([], false)) := by
    intro z
    obtain ⟨k, rfl⟩ : ∃ j, k = j + 1 := ⟨k - 1, by omega⟩
    simp only [impl_SealForGroup.j0]
    by_cases h : z = true
    · rw [if_pos h, if_neg (fun hh => by rw [h] at hh; exact absurd hh.1 (by decide))]
    · have h' : z = false := by simpa using h
      rw [if_neg h, E_impl_SenderKeyM k _ _ _ _ _ (by omega)]
      simp only [Option.bind_some]
      rw [E_impl_SealCell k _ _ _ _ (by omega) hy hb]
      simp only [Option.bind_some, h', true_and]
  obtain ⟨v, hv, hv1⟩ := E_impl_IsValidGroup k a b c l (by omega) (by omega)
  obtain ⟨w, hw, hw1⟩ := E_slices_Contains_int k l m (by omega) (by omega)
  refine ⟨v, w, hv1, hw1, ?_⟩
  unfold impl_SealForGroup.f
  rw [hv, hw]
  simp only [Option.bind_some]
  by_cases h1 : v = true
  · rw [if_pos h1, hj]
    cases w <;> simp [h1]
  · rw [if_neg h1, hj, if_neg (fun hh => by exact absurd hh.1 (by decide)), if_neg (fun hh => h1 hh.1)]

-- Z_szIntS
theorem Z_laws_szIntS (l : List Int) (n : Int) (hl : l.length ≤ 9223372036854775807) (h0 : 0 ≤ n) (h1 : n ≤ 1048576) : ∃ v, laws_szIntS.f l n = some v ∧ -1 ≤ v ∧ (0 ≤ v → v ≤ n ∧ (l.length : Int) ≤ n) := by
  unfold laws_szIntS.f
  rw [w64 (by omega) (by omega)]
  by_cases h : (l.length : Int) ≤ n
  · rw [if_neg (by omega)]
    exact ⟨_, rfl, by omega, fun _ => by omega⟩
  · rw [if_pos (by omega)]
    exact ⟨_, rfl, by omega, fun h => absurd h (by omega)⟩

-- FnExactSealForGroup
theorem E_laws_markSenderGroupM (k : Nat) (a b c : Int) (l : List Int) (x : Int) (hk : 4194304 < k) (hl : l.length ≤ 2097152) (h0 : 0 ≤ x) (h1 : x ≤ 2097152) : laws_markSenderGroup.f k a b c l x = some (x + l.length, markI x l.length) := by
  unfold laws_markSenderGroup.f
  rw [E_laws_markIntS k l x hk hl h0 h1]
  rfl
theorem FnExactSealForGroup : laws_FnExactSealForGroup.Pure := by
  intro a b c l m n y ha hb hc hl hm hn hy
  have hyb : ∀ x ∈ y, 0 ≤ x ∧ x ≤ 255 := fun x hx => wf8 (hy.2 x hx)
  have hl := hl.1
  unfold maxLen at hl
  refine ⟨16777216, ?_⟩
  unfold laws_FnExactSealForGroup.f
  by_cases hg : (y.length : Int) > 1048576
  · rw [if_pos hg]
  · rw [if_neg hg]
    unfold laws_szSenderGroup.f
    obtain ⟨v, hv, hv1, hv2⟩ := Z_laws_szIntS l 1048576 (by omega) (by omega) (by omega)
    rw [hv]
    simp only [Option.bind_some]
    by_cases cc : v < 0
    · rw [if_pos cc]
      rfl
    · have hs := hv2 (by omega)
      obtain ⟨v1, w1, hv1, hw1, e1⟩ := E_spec_SealForGroup 16777216 a b c l m n y (by omega) (by omega) (by omega) hyb
      obtain ⟨v2, w2, hv2, hw2, e2⟩ := E_impl_SealForGroup 16777216 a b c l m n y (by omega) (by omega) (by omega) hyb
      have ev : v2 = v1 := by rw [Bool.eq_iff_iff, hv1, hv2]
      have ew : w2 = w1 := by rw [Bool.eq_iff_iff, hw1, hw2]
      subst ev
      subst ew
      obtain ⟨r, hr⟩ : ∃ r, r = (if v2 = true ∧ w2 = true ∧ sealOk (oneM (khashM c [149, b, m])) n 1 y then (sealM (oneM (khashM c [149, b, m])) n 1 y, true) else ([], false)) := ⟨_, rfl⟩
      have hrl : r.1.length ≤ 24 := by
        rw [hr]
        split
        · rename_i h
          exact Nat.le_of_eq (sealM_length (oneM (khashM c [149, b, m])) n 1 y h.2.2.2.2.2)
        · simp
      rw [← hr] at e1 e2
      rw [if_neg cc]
      simp only [Option.bind_some]
      rw [if_neg cc, E_laws_toSenderGroup _ a b c l (by omega) (by omega), E_laws_toByteS _ y (by omega) (by omega)]
      simp only [Option.bind_some]
      rw [e1, e2]
      simp only [Option.bind_some]
      rw [E_laws_eqByteS _ r.1 r.1 (by omega) (by omega)]
      simp only [Option.bind_some]
      rw [if_pos (by simp), if_neg (by simp), E_laws_eqSenderGroup _ a b c l (by omega) (by omega)]
      simp only [Option.bind_some]
      rw [if_pos (by simp), E_laws_eqByteS _ y y (by omega) (by omega)]
      simp only [Option.bind_some]
      rw [if_pos (by simp), E_laws_markSenderGroupM _ a b c l 1 (by omega) (by omega) (by omega) (by omega)]
      simp only [Option.bind_some]
      rw [E_laws_markByteS _ y _ (by omega) (by omega) (by omega) (by omega)]
      simp only [Option.bind_some]
      rw [if_neg (by omega), if_pos (by simp), E_laws_markByteS _ r.1 1 (by omega) (by omega) (by omega) (by omega)]
      simp only [Option.bind_some]
      rw [E_laws_heldByteS _ 1 r.1.length (by omega) (by omega) (by omega) (by omega)]
      simp only [Option.bind_some]
      rw [if_neg (by omega), if_pos (by simp), if_pos (by simp), if_neg (by simp), if_neg (by omega), if_pos (by simp)]
end Go.Proofs.Ytgdfnoipcompkaa.Pure
