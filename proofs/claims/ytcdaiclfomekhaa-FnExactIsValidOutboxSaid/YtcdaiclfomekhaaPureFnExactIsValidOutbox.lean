/- FnExactIsValidOutbox: what the law's functions compute, over numbers and lists, answers true for every input that its bounds let in. -/
import Derived.Test.YtcdaiclfomekhaaM
import Derived.Test.YtcdaiclfomekhaaQxKCENNG
namespace Go.Proofs.Ytcdaiclfomekhaa.Pure
open Go.RowKit Go.Proofs.Ytcdaiclfomekhaa.M Go.Proofs.Ytcdaiclfomekhaa.Q Go.Proofs.YtcdaiclfomekhaaW.PrintWords Go.Proofs.YtcdaiclfomekhaaW.PrintLast
set_option linter.unusedVariables false
set_option linter.unusedSimpArgs false
-- Z_szByteS
theorem Z_laws_szByteS (l : List Int) (n : Int) (hl : l.length ≤ 9223372036854775807) (h0 : 0 ≤ n) (h1 : n ≤ 1048576) : ∃ v, laws_szByteS.f l n = some v ∧ -1 ≤ v ∧ (0 ≤ v → v ≤ n ∧ (l.length : Int) ≤ n) := by
  unfold laws_szByteS.f
  rw [w64 (by omega) (by omega)]
  by_cases h : (l.length : Int) ≤ n
  · rw [if_neg (by omega)]
    exact ⟨_, rfl, by omega, fun _ => by omega⟩
  · rw [if_pos (by omega)]
    exact ⟨_, rfl, by omega, fun h => absurd h (by omega)⟩

-- Z_szPlainS
theorem Z_laws_szPlain (a : Int) (l : List Int) (n : Int) (hl : l.length ≤ 9223372036854775807) (h0 : 0 ≤ n) (h1 : n ≤ 1048576) : ∃ v, laws_szPlain.f a l n = some v ∧ -1 ≤ v ∧ (0 ≤ v → v ≤ n ∧ (l.length : Int) ≤ n) := by
  unfold laws_szPlain.f
  obtain ⟨v, hv, hv1, hv2⟩ := Z_laws_szByteS l n hl h0 h1
  rw [hv]
  simp only [Option.bind_some]
  by_cases c : v < 0
  · rw [if_pos c]
    exact ⟨-1, rfl, by omega, fun h => absurd h (by omega)⟩
  · rw [if_neg c]
    exact ⟨v, rfl, hv1, hv2⟩
theorem Z_laws_szPlainS_l0 (l : List S170) (hl : l.length ≤ 1048576) (hw : ∀ x ∈ l, x.f1.length ≤ 9223372036854775807) : ∀ (d n k : Nat) (x : Int), n + d = l.length → d + 0 < k → (0 ≤ x) → (x ≤ 1048576) → ∃ v, laws_szPlainS.l0 k l x (n : Int) = some v ∧ -1 ≤ v ∧ (0 ≤ v → v ≤ x ∧ ∀ y ∈ l.drop n, (y.f1.length : Int) ≤ 1048576) := by
  intro d
  induction d with
  | zero =>
    intro n k x hn hk h0 h1
    obtain ⟨k, rfl⟩ : ∃ m, k = m + 1 := ⟨k - 1, by omega⟩
    simp only [laws_szPlainS.l0]
    rw [if_neg (by omega), List.drop_eq_nil_of_le (by omega)]
    exact ⟨x, rfl, by omega, fun _ => ⟨by omega, fun y hy => absurd hy (by simp)⟩⟩
  | succ d ih =>
    intro n k x hn hk h0 h1
    obtain ⟨k, rfl⟩ : ∃ m, k = m + 1 := ⟨k - 1, by omega⟩
    have e1 : wrap64 ((n : Int) + 1) = ((n + 1 : Nat) : Int) := by rw [w64 (by omega) (by omega)]; omega
    simp only [laws_szPlainS.l0]
    have er : rd_T170 l (n : Int) = l.getD n z170 := by simp [rd_T170]
    have hm : l.getD n z170 ∈ l := getD_mem l n _ (by omega)
    rw [if_pos (by omega), if_pos (by omega), er]
    obtain ⟨v, hv, hv1, hv2⟩ := Z_laws_szPlain (l.getD n z170).f0 (l.getD n z170).f1 x (hw _ hm) h0 h1
    rw [hv]
    simp only [Option.bind_some]
    by_cases c : v < 0
    · rw [if_pos c]
      exact ⟨-1, rfl, by omega, fun h => absurd h (by omega)⟩
    · rw [if_neg c, e1]
      have hv3 := hv2 (by omega)
      obtain ⟨v', hv', hv1', hv2'⟩ := ih (n + 1) k v (by omega) (by omega) (by omega) (by omega)
      refine ⟨v', hv', hv1', fun h => ⟨by have := (hv2' h).1; omega, ?_⟩⟩
      rw [getD_drop l n z170 (by omega)]
      intro y hy
      rcases List.mem_cons.1 hy with rfl | hy
      · omega
      · exact (hv2' h).2 y hy

theorem Z_laws_szOutbox (k : Nat) (a : Int) (l : List S170) (b n : Int) (hk : 4194304 < k) (hl : l.length ≤ 9223372036854775807) (hw : ∀ x ∈ l, x.f1.length ≤ 9223372036854775807) (h0 : 0 ≤ n) (h1 : n ≤ 1048576) :
    ∃ v, laws_szOutbox.f k a l b n = some v ∧ -1 ≤ v ∧ (0 ≤ v → v ≤ n ∧ (l.length : Int) ≤ 1048576 ∧ ∀ y ∈ l, (y.f1.length : Int) ≤ 1048576) := by
  have hS : ∃ v, laws_szPlainS.f k l n = some v ∧ -1 ≤ v ∧ (0 ≤ v → v ≤ n ∧ (l.length : Int) ≤ 1048576 ∧ ∀ y ∈ l, (y.f1.length : Int) ≤ 1048576) := by
    unfold laws_szPlainS.f
    rw [w64 (by omega) (by omega)]
    by_cases h : (l.length : Int) ≤ n
    · rw [if_neg (by omega)]
      obtain ⟨v, hv, hv1, hv2⟩ := Z_laws_szPlainS_l0 l (by omega) hw l.length 0 k (n - l.length) (by omega) (by omega) (by omega) (by omega)
      exact ⟨v, hv, hv1, fun h' => ⟨by have := (hv2 h').1; omega, by omega, by simpa using (hv2 h').2⟩⟩
    · rw [if_pos (by omega)]
      exact ⟨-1, rfl, by omega, fun h => absurd h (by omega)⟩
  unfold laws_szOutbox.f
  obtain ⟨v, hv, hv1, hv2⟩ := hS
  rw [hv]
  simp only [Option.bind_some]
  by_cases c : v < 0
  · rw [if_pos c]
    exact ⟨-1, rfl, by omega, fun h => absurd h (by omega)⟩
  · rw [if_neg c]
    exact ⟨v, rfl, hv1, hv2⟩

-- laws_toByteS
theorem E_laws_toByteS_l0 (l : List Int) (hl : l.length ≤ 2097152) : ∀ (d n k : Nat) (m : List Int), n + d = l.length → d + 0 < k → (m.length = l.length) → laws_toByteS.l0 k l m (n : Int) = some (m.take n ++ l.drop n) := by
  intro d
  induction d with
  | zero =>
    intro n k m hn hk hm
    obtain ⟨k, rfl⟩ : ∃ m, k = m + 1 := ⟨k - 1, by omega⟩
    simp only [laws_toByteS.l0]
    rw [if_neg (by omega), List.drop_eq_nil_of_le (by omega), List.append_nil, List.take_of_length_le (by omega)]
  | succ d ih =>
    intro n k m hn hk hm
    obtain ⟨k, rfl⟩ : ∃ m, k = m + 1 := ⟨k - 1, by omega⟩
    have e1 : wrap64 ((n : Int) + 1) = ((n + 1 : Nat) : Int) := by rw [w64 (by omega) (by omega)]; omega
    simp only [laws_toByteS.l0]
    rw [if_pos (by omega), if_pos (by omega), if_pos (by omega), e1, rd_nat]
    rw [ih (n + 1) k _ (by omega) (by omega) (by simp; omega), getD_drop l n 0 (by omega)]
    rw [show (n : Int).toNat = n by omega, take_set_snoc _ n _ (by omega), List.append_assoc]
    rfl

theorem E_laws_toByteS (k : Nat) (l : List Int) (hk : 4194304 < k) (hl : l.length ≤ 2097152) : laws_toByteS.f k l = some l := by
  unfold laws_toByteS.f
  rw [if_pos (by omega), if_pos (by omega)]
  have := E_laws_toByteS_l0 l hl l.length 0 k (List.replicate ((l.length : Int) : Int).toNat 0) (by omega) (by omega) (by simp)
  simpa using this

-- laws_toOutbox
def cPlain (x : S170) : S147 := ⟨x.f0, x.f1⟩
theorem E_laws_toPlain (k : Nat) (a : Int) (l : List Int) (hk : 4194304 < k) (hl : l.length ≤ 2097152) : laws_toPlain.f k a l = some (a, l) := by
  unfold laws_toPlain.f
  rw [E_laws_toByteS k l hk hl]
  rfl
theorem E_laws_toPlainS_l0 (l : List S170) (hl : l.length ≤ 1048576) (hw : ∀ y ∈ l, (y.f1.length : Int) ≤ 1048576) : ∀ (d n k : Nat) (m : List S147), n + d = l.length → d + 4194304 < k → (m.length = l.length) → laws_toPlainS.l0 k l m (n : Int) = some (m.take n ++ (l.drop n).map cPlain) := by
  intro d
  induction d with
  | zero =>
    intro n k m hn hk hm
    obtain ⟨k, rfl⟩ : ∃ m, k = m + 1 := ⟨k - 1, by omega⟩
    simp only [laws_toPlainS.l0]
    rw [if_neg (by omega), List.drop_eq_nil_of_le (by omega), List.take_of_length_le (by omega)]
    simp
  | succ d ih =>
    intro n k m hn hk hm
    obtain ⟨k, rfl⟩ : ∃ m, k = m + 1 := ⟨k - 1, by omega⟩
    have e1 : wrap64 ((n : Int) + 1) = ((n + 1 : Nat) : Int) := by rw [w64 (by omega) (by omega)]; omega
    simp only [laws_toPlainS.l0]
    have er : rd_T170 l (n : Int) = l.getD n z170 := by simp [rd_T170]
    have hy := hw _ (getD_mem l n z170 (by omega))
    rw [if_pos (by omega), if_pos (by omega), er, E_laws_toPlain k _ _ (by omega) (by omega)]
    simp only [Option.bind_some]
    rw [if_pos (by omega), e1, ih (n + 1) k _ (by omega) (by omega) (by rw [List.length_set]; omega)]
    rw [show (n : Int).toNat = n by omega, take_set_snoc _ n _ (by omega), List.append_assoc, getD_drop l n z170 (by omega)]
    rfl

theorem E_laws_toOutbox (k : Nat) (a : Int) (l : List S170) (b : Int) (hk : 8388608 < k) (hl : (l.length : Int) ≤ 1048576) (hw : ∀ y ∈ l, (y.f1.length : Int) ≤ 1048576) : laws_toOutbox.f k a l b = some (a, l.map cPlain, b) := by
  unfold laws_toOutbox.f laws_toPlainS.f
  rw [if_pos (by omega), if_pos (by omega)]
  have := E_laws_toPlainS_l0 l (by omega) hw l.length 0 k (List.replicate ((l.length : Int) : Int).toNat z147) (by omega) (by omega) (by simp)
  rw [show ((0 : Nat) : Int) = 0 from rfl] at this
  rw [this]
  simp

-- laws_eqByteS
theorem E_laws_eqByteS_l0 (l m : List Int) (hl : l.length ≤ 2097152) (hm : l.length = m.length) : ∀ (d n k : Nat) , n + d = l.length → d + 0 < k → laws_eqByteS.l0 k l m (n : Int) = some (decide (l.drop n = m.drop n)) := by
  intro d
  induction d with
  | zero =>
    intro n k  hn hk 
    obtain ⟨k, rfl⟩ : ∃ m, k = m + 1 := ⟨k - 1, by omega⟩
    simp only [laws_eqByteS.l0]
    rw [if_neg (by omega), List.drop_eq_nil_of_le (by omega), List.drop_eq_nil_of_le (by omega)]
    rfl
  | succ d ih =>
    intro n k  hn hk 
    obtain ⟨k, rfl⟩ : ∃ m, k = m + 1 := ⟨k - 1, by omega⟩
    have e1 : wrap64 ((n : Int) + 1) = ((n + 1 : Nat) : Int) := by rw [w64 (by omega) (by omega)]; omega
    simp only [laws_eqByteS.l0]
    rw [if_pos (by omega), if_pos (by omega), if_pos (by omega), e1, rd_nat, rd_nat, getD_drop l n 0 (by omega), getD_drop m n 0 (by omega)]
    by_cases h : l.getD n 0 = m.getD n 0
    · rw [if_pos h, ih (n + 1) k (by omega) (by omega), h]
      simp only [List.cons.injEq, true_and]
    · rw [if_neg h, decide_eq_false (fun e => h (List.cons.inj e).1)]

theorem E_laws_eqByteS (k : Nat) (l m : List Int) (hk : 4194304 < k) (hl : l.length ≤ 2097152) : laws_eqByteS.f k l m = some (decide (l = m)) := by
  unfold laws_eqByteS.f
  by_cases h : (l.length : Int) = (m.length : Int)
  · rw [if_pos h]
    have := E_laws_eqByteS_l0 l m hl (by omega) l.length 0 k (by omega) (by omega)
    simpa using this
  · rw [if_neg h]
    have : l ≠ m := fun e => h (by rw [e])
    simp [this]

-- laws_eqOutbox
theorem E_laws_eqPlain (k : Nat) (a : Int) (l : List Int) (hk : 4194304 < k) (hl : l.length ≤ 2097152) : laws_eqPlain.f k a l a l = some true := by
  unfold laws_eqPlain.f
  rw [if_pos rfl, E_laws_eqByteS k l l hk hl]
  simp
theorem E_laws_eqPlainS_l0 (l : List S147) (hl : l.length ≤ 1048577) (hw : ∀ y ∈ l, (y.f1.length : Int) ≤ 1048576) : ∀ (d n k : Nat) , n + d = l.length → d + 4194304 < k → laws_eqPlainS.l0 k l l (n : Int) = some true := by
  intro d
  induction d with
  | zero =>
    intro n k  hn hk 
    obtain ⟨k, rfl⟩ : ∃ m, k = m + 1 := ⟨k - 1, by omega⟩
    simp only [laws_eqPlainS.l0]
    rw [if_neg (by omega)]
  | succ d ih =>
    intro n k  hn hk 
    obtain ⟨k, rfl⟩ : ∃ m, k = m + 1 := ⟨k - 1, by omega⟩
    have e1 : wrap64 ((n : Int) + 1) = ((n + 1 : Nat) : Int) := by rw [w64 (by omega) (by omega)]; omega
    simp only [laws_eqPlainS.l0]
    have er : rd_T147 l (n : Int) = l.getD n z147 := by simp [rd_T147]
    have hy := hw _ (getD_mem l n z147 (by omega))
    rw [if_pos (by omega), if_pos (by omega), if_pos (by omega), er, E_laws_eqPlain k _ _ (by omega) (by omega)]
    simp only [Option.bind_some, if_true]
    rw [e1, ih (n + 1) k (by omega) (by omega)]

theorem E_laws_eqOutbox (k : Nat) (a : Int) (l : List S147) (b : Int) (hk : 8388608 < k) (hl : l.length ≤ 1048577) (hw : ∀ y ∈ l, (y.f1.length : Int) ≤ 1048576) : laws_eqOutbox.f k a l b a l b = some true := by
  unfold laws_eqOutbox.f laws_eqPlainS.f
  rw [if_pos rfl, if_pos rfl]
  have := E_laws_eqPlainS_l0 l hl hw l.length 0 k (by omega) (by omega)
  rw [show ((0 : Nat) : Int) = 0 from rfl] at this
  rw [this]
  simp

-- outboxes
theorem map_small (l : List S170) (hw : ∀ y ∈ l, (y.f1.length : Int) ≤ 1048576) : ∀ y ∈ l.map cPlain, (y.f1.length : Int) ≤ 1048576 := by
  intro y hy
  obtain ⟨x, hx, rfl⟩ := List.mem_map.1 hy
  exact hw x hx

-- l1In
theorem E_spec_l1In (a b c : Int) : spec_l1In.f a b c = some (decide (b ≤ a ∧ a ≤ c)) := by
  unfold spec_l1In.f
  by_cases h : a ≥ b
  · rw [if_pos h]; simp [show b ≤ a from h]
  · rw [if_neg h]; simp [show ¬ b ≤ a from h]

-- spec_IsValidPlain
theorem E_spec_IsValidPlain (a : Int) (l : List Int) : spec_IsValidPlain.f a l = some (decide (plainOk a l)) := by
  unfold spec_IsValidPlain.f plainOk
  rw [E_spec_l1In]
  simp only [Option.bind_some, decide_eq_true_eq]
  by_cases h : 0 ≤ a ∧ a ≤ 3
  · rw [if_pos h]
    simp [h]
    omega
  · rw [if_neg h]
    simp [h]

-- spec_IsValidOutbox
def boxOk (l : List S147) (b : Int) : Prop := (∀ y ∈ l, plainOk y.f0 y.f1) ∧ l.length ≤ 12 ∧ 0 ≤ b ∧ b ≤ 1000000000000
instance (l : List S147) (b : Int) : Decidable (boxOk l b) := by unfold boxOk; infer_instance
theorem E_spec_IsValidOutbox_l0 (a : Int) (l : List S147) (b : Int) (hl : l.length ≤ 1048577) : ∀ (d n k : Nat) , n + d = l.length → d + 0 < k → spec_IsValidOutbox.l0 k (n : Int) a l b = some (decide ((∀ y ∈ l.drop n, plainOk y.f0 y.f1) ∧ l.length ≤ 12 ∧ 0 ≤ b ∧ b ≤ 1000000000000)) := by
  intro d
  induction d with
  | zero =>
    intro n k  hn hk 
    obtain ⟨k, rfl⟩ : ∃ m, k = m + 1 := ⟨k - 1, by omega⟩
    simp only [spec_IsValidOutbox.l0]
    rw [if_neg (by omega), List.drop_eq_nil_of_le (by omega)]
    by_cases h : (l.length : Int) ≤ 12
    · rw [if_pos h, E_spec_l1In]
      simp [show l.length ≤ 12 by omega]
    · rw [if_neg h]
      simp [show ¬ l.length ≤ 12 by omega]
  | succ d ih =>
    intro n k  hn hk 
    obtain ⟨k, rfl⟩ : ∃ m, k = m + 1 := ⟨k - 1, by omega⟩
    have e1 : wrap64 ((n : Int) + 1) = ((n + 1 : Nat) : Int) := by rw [w64 (by omega) (by omega)]; omega
    simp only [spec_IsValidOutbox.l0]
    have er : rd_T147 l (n : Int) = l.getD n z147 := by simp [rd_T147]
    rw [if_pos (by omega), if_pos (by omega), er, E_spec_IsValidPlain, getD_drop l n z147 (by omega)]
    simp only [Option.bind_some, decide_eq_true_eq]
    generalize l.getD n z147 = y
    by_cases h : plainOk y.f0 y.f1
    · rw [if_pos h, e1, ih (n + 1) k (by omega) (by omega)]
      simp [h]
    · rw [if_neg h]
      simp [h]

theorem E_spec_IsValidOutbox (k : Nat) (a : Int) (l : List S147) (b : Int) (hk : 4194304 < k) (hl : l.length ≤ 1048577) : spec_IsValidOutbox.f k a l b = some (decide (boxOk l b)) := by
  unfold spec_IsValidOutbox.f boxOk
  have := E_spec_IsValidOutbox_l0 a l b hl l.length 0 k (by omega) (by omega)
  rw [List.drop_zero] at this
  exact this

-- InRange
theorem E_impl_InRange (a b c : Int) : impl_InRange.f a b c = some (decide (b ≤ a ∧ a ≤ c)) := by
  unfold impl_InRange.f
  by_cases h : b ≤ a
  · rw [if_pos h]; simp [h]
  · rw [if_neg h]; simp [h]

-- impl_IsValidPlain
theorem E_impl_IsValidPlain (a : Int) (l : List Int) : impl_IsValidPlain.f a l = some (decide (plainOk a l)) := by
  unfold impl_IsValidPlain.f plainOk
  rw [E_impl_InRange]
  simp only [Option.bind_some, decide_eq_true_eq]
  by_cases h : 0 ≤ a ∧ a ≤ 3
  · rw [if_pos h]
    simp [h]
    omega
  · rw [if_neg h]
    simp [h]

-- impl_IsValidOutbox
theorem E_impl_IsValidOutbox_1 (a : Int) (l : List Int) : impl_IsValidOutbox_1.f a l = some (!decide (plainOk a l)) := by
  unfold impl_IsValidOutbox_1.f
  rw [E_impl_IsValidPlain]
  rfl
theorem E_slices_IndexFunc_Plain_at_impl_IsValidOutbox_1_l0 (l : List S147) (hl : l.length ≤ 1048577) : ∀ (d n k : Nat) , n + d = l.length → d + 4194304 < k → ∃ v, slices_IndexFunc_Plain_at_impl_IsValidOutbox_1.l0 k l (l.length : Int) (n : Int) = some v ∧ (v ≥ 0 ↔ ∃ y ∈ l.drop n, ¬ plainOk y.f0 y.f1) := by
  intro d
  induction d with
  | zero =>
    intro n k  hn hk 
    obtain ⟨k, rfl⟩ : ∃ m, k = m + 1 := ⟨k - 1, by omega⟩
    simp only [slices_IndexFunc_Plain_at_impl_IsValidOutbox_1.l0]
    rw [if_neg (by omega), List.drop_eq_nil_of_le (by omega)]
    exact ⟨_, rfl, by simp⟩
  | succ d ih =>
    intro n k  hn hk 
    obtain ⟨k, rfl⟩ : ∃ m, k = m + 1 := ⟨k - 1, by omega⟩
    have e1 : wrap64 ((n : Int) + 1) = ((n + 1 : Nat) : Int) := by rw [w64 (by omega) (by omega)]; omega
    simp only [slices_IndexFunc_Plain_at_impl_IsValidOutbox_1.l0]
    have er : rd_T147 l (n : Int) = l.getD n z147 := by simp [rd_T147]
    rw [if_pos (by omega), if_pos (by omega), if_pos (by omega), er, E_impl_IsValidOutbox_1, getD_drop l n z147 (by omega)]
    simp only [Option.bind_some, decide_eq_true_eq]
    generalize l.getD n z147 = y
    by_cases h : ¬ plainOk y.f0 y.f1
    · rw [if_pos (by simpa using h)]
      exact ⟨_, rfl, fun _ => ⟨y, List.mem_cons_self, h⟩, fun _ => by omega⟩
    · rw [if_neg (by simpa using h), e1]
      obtain ⟨v, hv, h1⟩ := ih (n + 1) k (by omega) (by omega)
      refine ⟨v, hv, h1.trans ?_⟩
      constructor
      · rintro ⟨x, hx, hb⟩
        exact ⟨x, List.mem_cons_of_mem _ hx, hb⟩
      · rintro ⟨x, hx, hb⟩
        rcases List.mem_cons.1 hx with rfl | hx
        · exact absurd hb h
        · exact ⟨x, hx, hb⟩

theorem E_slices_IndexFunc_Plain_at_impl_IsValidOutbox_1 (k : Nat) (l : List S147) (hk : 8388608 < k) (hl : l.length ≤ 1048577) : ∃ v, slices_IndexFunc_Plain_at_impl_IsValidOutbox_1.f k l = some v ∧ (v ≥ 0 ↔ ∃ y ∈ l, ¬ plainOk y.f0 y.f1) := by
  unfold slices_IndexFunc_Plain_at_impl_IsValidOutbox_1.f
  obtain ⟨v, hv, h1⟩ := E_slices_IndexFunc_Plain_at_impl_IsValidOutbox_1_l0 l hl l.length 0 k (by omega) (by omega)
  exact ⟨v, hv, by simpa using h1⟩

theorem E_slices_ContainsFunc_Plain_at_impl_IsValidOutbox_1 (k : Nat) (l : List S147) (hk : 8388608 < k) (hl : l.length ≤ 1048577) : ∃ v, slices_ContainsFunc_Plain_at_impl_IsValidOutbox_1.f k l = some v ∧ (v = true ↔ ∃ y ∈ l, ¬ plainOk y.f0 y.f1) := by
  unfold slices_ContainsFunc_Plain_at_impl_IsValidOutbox_1.f
  obtain ⟨v, hv, h1⟩ := E_slices_IndexFunc_Plain_at_impl_IsValidOutbox_1 k l hk hl
  rw [hv]
  exact ⟨_, rfl, by rw [decide_eq_true_eq]; exact h1⟩

theorem E_impl_IsValidOutbox (k : Nat) (a : Int) (l : List S147) (b : Int) (hk : 8388608 < k) (hl : l.length ≤ 1048577) : impl_IsValidOutbox.f k a l b = some (decide (boxOk l b)) := by
  unfold impl_IsValidOutbox.f
  obtain ⟨v, hv, h1⟩ := E_slices_ContainsFunc_Plain_at_impl_IsValidOutbox_1 k l hk hl
  rw [hv, E_impl_InRange]
  simp only [Option.bind_some, decide_eq_true_eq]
  by_cases h : (l.length : Int) ≤ 12
  · rw [if_pos h]
    by_cases h2 : 0 ≤ b ∧ b ≤ 1000000000000
    · rw [if_pos h2]
      cases v with
      | true =>
        obtain ⟨y, hy, hb⟩ := h1.1 rfl
        exact congrArg some (decide_eq_false (fun hh : boxOk l b => hb (hh.1 y hy))).symm
      | false =>
        refine congrArg some (decide_eq_true (show boxOk l b from ⟨fun y hy => Classical.byContradiction fun hb => ?_, by omega, h2⟩)).symm
        exact Bool.noConfusion (h1.2 ⟨y, hy, hb⟩)
    · rw [if_neg h2]
      exact congrArg some (decide_eq_false (fun hh : boxOk l b => h2 hh.2.2)).symm
  · rw [if_neg h]
    exact congrArg some (decide_eq_false (fun hh : boxOk l b => h (by have := hh.2.1; omega))).symm

-- FnExactIsValidOutbox
theorem FnExactIsValidOutbox : laws_FnExactIsValidOutbox.Pure := by
  intro a l b ha hl hb
  have hm := hl.1
  have hw : ∀ x ∈ l, x.f1.length ≤ 9223372036854775807 := fun x hx => by have := (hl.2 x hx).2.1; unfold maxLen at this; omega
  unfold maxLen at hm
  refine ⟨16777216, ?_⟩
  unfold laws_FnExactIsValidOutbox.f
  obtain ⟨v, hv, hv1, hv2⟩ := Z_laws_szOutbox 16777216 a l b 1048576 (by omega) (by omega) hw (by omega) (by omega)
  rw [hv]
  simp only [Option.bind_some]
  by_cases c : v < 0
  · rw [if_pos c]
  · obtain ⟨_, h2, h3⟩ := hv2 (by omega)
    rw [if_neg c, E_laws_toOutbox _ a l b (by omega) h2 h3]
    simp only [Option.bind_some]
    rw [E_spec_IsValidOutbox _ a _ b (by omega) (by rw [List.length_map]; omega), E_impl_IsValidOutbox _ a _ b (by omega) (by rw [List.length_map]; omega)]
    simp only [Option.bind_some]
    rw [E_laws_eqOutbox _ a _ b (by omega) (by rw [List.length_map]; omega) (map_small l h3)]
    simp
end Go.Proofs.Ytcdaiclfomekhaa.Pure
