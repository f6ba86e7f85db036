/- FnExactEqualOutboxes: what the law's functions compute, over numbers and lists, answers true for every input that its bounds let in. -/
import Derived.Test.YtcdaiclfomekhaaM
import Derived.Test.YtcdaiclfomekhaaQxFGIHDA
namespace Go.Proofs.Ytcdaiclfomekhaa.Pure
open Go.RowKit Go.Proofs.Ytcdaiclfomekhaa.M Go.Proofs.Ytcdaiclfomekhaa.Q Go.Proofs.YtcdaiclfomekhaaW.PrintWords Go.Proofs.YtcdaiclfomekhaaW.PrintLast
set_option linter.unusedVariables false
set_option linter.unusedSimpArgs false
-- Z_szByteS
theorem Z_laws_szByteS (l : List Int) (n : Int) (hl : l.length ≤ 9223372036854775807) (h0 : 0 ≤ n) (h1 : n ≤ 1048576) : ∃ v, laws_szByteS.f l n = some v ∧ -1 ≤ v ∧ (0 ≤ v → v ≤ n ∧ (l.length : Int) ≤ n) := by
  unfold laws_szByteS.f
  rw [w64 (by omega) (by omega)]
  by_cases h : (l.length : Int) ≤ n
  · rw [if_neg (by omega)]
    exact ⟨_, rfl, by omega, fun _ => by omega⟩
  · rw [if_pos (by omega)]
    exact ⟨_, rfl, by omega, fun h => absurd h (by omega)⟩

-- Z_szPlainS
theorem Z_laws_szPlain (a : Int) (l : List Int) (n : Int) (hl : l.length ≤ 9223372036854775807) (h0 : 0 ≤ n) (h1 : n ≤ 1048576) : ∃ v, laws_szPlain.f a l n = some v ∧ -1 ≤ v ∧ (0 ≤ v → v ≤ n ∧ (l.length : Int) ≤ n) := by
  unfold laws_szPlain.f
  obtain ⟨v, hv, hv1, hv2⟩ := Z_laws_szByteS l n hl h0 h1
  rw [hv]
  simp only [Option.bind_some]
  by_cases c : v < 0
  · rw [if_pos c]
    exact ⟨-1, rfl, by omega, fun h => absurd h (by omega)⟩
  · rw [if_neg c]
    exact ⟨v, rfl, hv1, hv2⟩
theorem Z_laws_szPlainS_l0 (l : List S170) (hl : l.length ≤ 1048576) (hw : ∀ x ∈ l, x.f1.length ≤ 9223372036854775807) : ∀ (d n k : Nat) (x : Int), n + d = l.length → d + 0 < k → (0 ≤ x) → (x ≤ 1048576) → ∃ v, laws_szPlainS.l0 k l x (n : Int) = some v ∧ -1 ≤ v ∧ (0 ≤ v → v ≤ x ∧ ∀ y ∈ l.drop n, (y.f1.length : Int) ≤ 1048576) := by
  intro d
  induction d with
  | zero =>
    intro n k x hn hk h0 h1
    obtain ⟨k, rfl⟩ : ∃ m, k = m + 1 := ⟨k - 1, by omega⟩
    simp only [laws_szPlainS.l0]
    rw [if_neg (by omega), List.drop_eq_nil_of_le (by omega)]
    exact ⟨x, rfl, by omega, fun _ => ⟨by omega, fun y hy => absurd hy (by simp)⟩⟩
  | succ d ih =>
    intro n k x hn hk h0 h1
    obtain ⟨k, rfl⟩ : ∃ m, k = m + 1 := ⟨k - 1, by omega⟩
    have e1 : wrap64 ((n : Int) + 1) = ((n + 1 : Nat) : Int) := by rw [w64 (by omega) (by omega)]; omega
    simp only [laws_szPlainS.l0]
    have er : rd_T170 l (n : Int) = l.getD n z170 := by simp [rd_T170]
    have hm : l.getD n z170 ∈ l := getD_mem l n _ (by omega)
    rw [if_pos (by omega), if_pos (by omega), er]
    obtain ⟨v, hv, hv1, hv2⟩ := Z_laws_szPlain (l.getD n z170).f0 (l.getD n z170).f1 x (hw _ hm) h0 h1
    rw [hv]
    simp only [Option.bind_some]
    by_cases c : v < 0
    · rw [if_pos c]
      exact ⟨-1, rfl, by omega, fun h => absurd h (by omega)⟩
    · rw [if_neg c, e1]
      have hv3 := hv2 (by omega)
      obtain ⟨v', hv', hv1', hv2'⟩ := ih (n + 1) k v (by omega) (by omega) (by omega) (by omega)
      refine ⟨v', hv', hv1', fun h => ⟨by have := (hv2' h).1; omega, ?_⟩⟩
      rw [getD_drop l n z170 (by omega)]
      intro y hy
      rcases List.mem_cons.1 hy with rfl | hy
      · omega
      · exact (hv2' h).2 y hy

theorem Z_laws_szOutbox (k : Nat) (a : Int) (l : List S170) (b n : Int) (hk : 4194304 < k) (hl : l.length ≤ 9223372036854775807) (hw : ∀ x ∈ l, x.f1.length ≤ 9223372036854775807) (h0 : 0 ≤ n) (h1 : n ≤ 1048576) :
    ∃ v, laws_szOutbox.f k a l b n = some v ∧ -1 ≤ v ∧ (0 ≤ v → v ≤ n ∧ (l.length : Int) ≤ 1048576 ∧ ∀ y ∈ l, (y.f1.length : Int) ≤ 1048576) := by
  have hS : ∃ v, laws_szPlainS.f k l n = some v ∧ -1 ≤ v ∧ (0 ≤ v → v ≤ n ∧ (l.length : Int) ≤ 1048576 ∧ ∀ y ∈ l, (y.f1.length : Int) ≤ 1048576) := by
    unfold laws_szPlainS.f
    rw [w64 (by omega) (by omega)]
    by_cases h : (l.length : Int) ≤ n
    · rw [if_neg (by omega)]
      obtain ⟨v, hv, hv1, hv2⟩ := Z_laws_szPlainS_l0 l (by omega) hw l.length 0 k (n - l.length) (by omega) (by omega) (by omega) (by omega)
      exact ⟨v, hv, hv1, fun h' => ⟨by have := (hv2 h').1; omega, by omega, by simpa using (hv2 h').2⟩⟩
    · rw [if_pos (by omega)]
      exact ⟨-1, rfl, by omega, fun h => absurd h (by omega)⟩
  unfold laws_szOutbox.f
  obtain ⟨v, hv, hv1, hv2⟩ := hS
  rw [hv]
  simp only [Option.bind_some]
  by_cases c : v < 0
  · rw [if_pos c]
    exact ⟨-1, rfl, by omega, fun h => absurd h (by omega)⟩
  · rw [if_neg c]
    exact ⟨v, rfl, hv1, hv2⟩

-- laws_toByteS
theorem E_laws_toByteS_l0 (l : List Int) (hl : l.length ≤ 2097152) : ∀ (d n k : Nat) (m : List Int), n + d = l.length → d + 0 < k → (m.length = l.length) → laws_toByteS.l0 k l m (n : Int) = some (m.take n ++ l.drop n) := by
  intro d
  induction d with
  | zero =>
    intro n k m hn hk hm
    obtain ⟨k, rfl⟩ : ∃ m, k = m + 1 := ⟨k - 1, by omega⟩
    simp only [laws_toByteS.l0]
    rw [if_neg (by omega), List.drop_eq_nil_of_le (by omega), List.append_nil, List.take_of_length_le (by omega)]
  | succ d ih =>
    intro n k m hn hk hm
    obtain ⟨k, rfl⟩ : ∃ m, k = m + 1 := ⟨k - 1, by omega⟩
    have e1 : wrap64 ((n : Int) + 1) = ((n + 1 : Nat) : Int) := by rw [w64 (by omega) (by omega)]; omega
    simp only [laws_toByteS.l0]
    rw [if_pos (by omega), if_pos (by omega), if_pos (by omega), e1, rd_nat]
    rw [ih (n + 1) k _ (by omega) (by omega) (by simp; omega), getD_drop l n 0 (by omega)]
    rw [show (n : Int).toNat = n by omega, take_set_snoc _ n _ (by omega), List.append_assoc]
    rfl

theorem E_laws_toByteS (k : Nat) (l : List Int) (hk : 4194304 < k) (hl : l.length ≤ 2097152) : laws_toByteS.f k l = some l := by
  unfold laws_toByteS.f
  rw [if_pos (by omega), if_pos (by omega)]
  have := E_laws_toByteS_l0 l hl l.length 0 k (List.replicate ((l.length : Int) : Int).toNat 0) (by omega) (by omega) (by simp)
  simpa using this

-- laws_toOutbox
def cPlain (x : S170) : S147 := ⟨x.f0, x.f1⟩
theorem E_laws_toPlain (k : Nat) (a : Int) (l : List Int) (hk : 4194304 < k) (hl : l.length ≤ 2097152) : laws_toPlain.f k a l = some (a, l) := by
  unfold laws_toPlain.f
  rw [E_laws_toByteS k l hk hl]
  rfl
theorem E_laws_toPlainS_l0 (l : List S170) (hl : l.length ≤ 1048576) (hw : ∀ y ∈ l, (y.f1.length : Int) ≤ 1048576) : ∀ (d n k : Nat) (m : List S147), n + d = l.length → d + 4194304 < k → (m.length = l.length) → laws_toPlainS.l0 k l m (n : Int) = some (m.take n ++ (l.drop n).map cPlain) := by
  intro d
  induction d with
  | zero =>
    intro n k m hn hk hm
    obtain ⟨k, rfl⟩ : ∃ m, k = m + 1 := ⟨k - 1, by omega⟩
    simp only [laws_toPlainS.l0]
    rw [if_neg (by omega), List.drop_eq_nil_of_le (by omega), List.take_of_length_le (by omega)]
    simp
  | succ d ih =>
    intro n k m hn hk hm
    obtain ⟨k, rfl⟩ : ∃ m, k = m + 1 := ⟨k - 1, by omega⟩
    have e1 : wrap64 ((n : Int) + 1) = ((n + 1 : Nat) : Int) := by rw [w64 (by omega) (by omega)]; omega
    simp only [laws_toPlainS.l0]
    have er : rd_T170 l (n : Int) = l.getD n z170 := by simp [rd_T170]
    have hy := hw _ (getD_mem l n z170 (by omega))
    rw [if_pos (by omega), if_pos (by omega), er, E_laws_toPlain k _ _ (by omega) (by omega)]
    simp only [Option.bind_some]
    rw [if_pos (by omega), e1, ih (n + 1) k _ (by omega) (by omega) (by rw [List.length_set]; omega)]
    rw [show (n : Int).toNat = n by omega, take_set_snoc _ n _ (by omega), List.append_assoc, getD_drop l n z170 (by omega)]
    rfl

theorem E_laws_toOutbox (k : Nat) (a : Int) (l : List S170) (b : Int) (hk : 8388608 < k) (hl : (l.length : Int) ≤ 1048576) (hw : ∀ y ∈ l, (y.f1.length : Int) ≤ 1048576) : laws_toOutbox.f k a l b = some (a, l.map cPlain, b) := by
  unfold laws_toOutbox.f laws_toPlainS.f
  rw [if_pos (by omega), if_pos (by omega)]
  have := E_laws_toPlainS_l0 l (by omega) hw l.length 0 k (List.replicate ((l.length : Int) : Int).toNat z147) (by omega) (by omega) (by simp)
  rw [show ((0 : Nat) : Int) = 0 from rfl] at this
  rw [this]
  simp

-- laws_eqByteS
theorem E_laws_eqByteS_l0 (l m : List Int) (hl : l.length ≤ 2097152) (hm : l.length = m.length) : ∀ (d n k : Nat) , n + d = l.length → d + 0 < k → laws_eqByteS.l0 k l m (n : Int) = some (decide (l.drop n = m.drop n)) := by
  intro d
  induction d with
  | zero =>
    intro n k  hn hk 
    obtain ⟨k, rfl⟩ : ∃ m, k = m + 1 := ⟨k - 1, by omega⟩
    simp only [laws_eqByteS.l0]
    rw [if_neg (by omega), List.drop_eq_nil_of_le (by omega), List.drop_eq_nil_of_le (by omega)]
    rfl
  | succ d ih =>
    intro n k  hn hk 
    obtain ⟨k, rfl⟩ : ∃ m, k = m + 1 := ⟨k - 1, by omega⟩
    have e1 : wrap64 ((n : Int) + 1) = ((n + 1 : Nat) : Int) := by rw [w64 (by omega) (by omega)]; omega
    simp only [laws_eqByteS.l0]
    rw [if_pos (by omega), if_pos (by omega), if_pos (by omega), e1, rd_nat, rd_nat, getD_drop l n 0 (by omega), getD_drop m n 0 (by omega)]
    by_cases h : l.getD n 0 = m.getD n 0
    · rw [if_pos h, ih (n + 1) k (by omega) (by omega), h]
      simp only [List.cons.injEq, true_and]
    · rw [if_neg h, decide_eq_false (fun e => h (List.cons.inj e).1)]

theorem E_laws_eqByteS (k : Nat) (l m : List Int) (hk : 4194304 < k) (hl : l.length ≤ 2097152) : laws_eqByteS.f k l m = some (decide (l = m)) := by
  unfold laws_eqByteS.f
  by_cases h : (l.length : Int) = (m.length : Int)
  · rw [if_pos h]
    have := E_laws_eqByteS_l0 l m hl (by omega) l.length 0 k (by omega) (by omega)
    simpa using this
  · rw [if_neg h]
    have : l ≠ m := fun e => h (by rw [e])
    simp [this]

-- laws_eqOutbox
theorem E_laws_eqPlain (k : Nat) (a : Int) (l : List Int) (hk : 4194304 < k) (hl : l.length ≤ 2097152) : laws_eqPlain.f k a l a l = some true := by
  unfold laws_eqPlain.f
  rw [if_pos rfl, E_laws_eqByteS k l l hk hl]
  simp
theorem E_laws_eqPlainS_l0 (l : List S147) (hl : l.length ≤ 1048577) (hw : ∀ y ∈ l, (y.f1.length : Int) ≤ 1048576) : ∀ (d n k : Nat) , n + d = l.length → d + 4194304 < k → laws_eqPlainS.l0 k l l (n : Int) = some true := by
  intro d
  induction d with
  | zero =>
    intro n k  hn hk 
    obtain ⟨k, rfl⟩ : ∃ m, k = m + 1 := ⟨k - 1, by omega⟩
    simp only [laws_eqPlainS.l0]
    rw [if_neg (by omega)]
  | succ d ih =>
    intro n k  hn hk 
    obtain ⟨k, rfl⟩ : ∃ m, k = m + 1 := ⟨k - 1, by omega⟩
    have e1 : wrap64 ((n : Int) + 1) = ((n + 1 : Nat) : Int) := by rw [w64 (by omega) (by omega)]; omega
    simp only [laws_eqPlainS.l0]
    have er : rd_T147 l (n : Int) = l.getD n z147 := by simp [rd_T147]
    have hy := hw _ (getD_mem l n z147 (by omega))
    rw [if_pos (by omega), if_pos (by omega), if_pos (by omega), er, E_laws_eqPlain k _ _ (by omega) (by omega)]
    simp only [Option.bind_some, if_true]
    rw [e1, ih (n + 1) k (by omega) (by omega)]

theorem E_laws_eqOutbox (k : Nat) (a : Int) (l : List S147) (b : Int) (hk : 8388608 < k) (hl : l.length ≤ 1048577) (hw : ∀ y ∈ l, (y.f1.length : Int) ≤ 1048576) : laws_eqOutbox.f k a l b a l b = some true := by
  unfold laws_eqOutbox.f laws_eqPlainS.f
  rw [if_pos rfl, if_pos rfl]
  have := E_laws_eqPlainS_l0 l hl hw l.length 0 k (by omega) (by omega)
  rw [show ((0 : Nat) : Int) = 0 from rfl] at this
  rw [this]
  simp

-- outboxes
theorem map_small (l : List S170) (hw : ∀ y ∈ l, (y.f1.length : Int) ≤ 1048576) : ∀ y ∈ l.map cPlain, (y.f1.length : Int) ≤ 1048576 := by
  intro y hy
  obtain ⟨x, hx, rfl⟩ := List.mem_map.1 hy
  exact hw x hx

-- spec_EqualBytes
theorem bytes_inj : ∀ (l m : List Int), (∀ x ∈ l, 0 ≤ x ∧ x ≤ 255) → (∀ x ∈ m, 0 ≤ x ∧ x ≤ 255) → (l.map fun n => UInt8.ofNat n.toNat) = (m.map fun n => UInt8.ofNat n.toNat) → l = m := by
  intro l
  induction l with
  | nil =>
    intro m _ _ h
    cases m with
    | nil => rfl
    | cons y m => simp at h
  | cons x l ih =>
    intro m hl hm h
    cases m with
    | nil => simp at h
    | cons y m =>
      simp only [List.map_cons, List.cons.injEq] at h
      have hx := hl x List.mem_cons_self
      have hy := hm y List.mem_cons_self
      have e : x = y := by
        have := congrArg UInt8.toNat h.1
        rw [UInt8.toNat_ofNat', UInt8.toNat_ofNat'] at this
        omega
      rw [e, ih m (fun z hz => hl z (List.mem_cons_of_mem _ hz)) (fun z hz => hm z (List.mem_cons_of_mem _ hz)) h.2]
theorem E_spec_EqualBytes (l m : List Int) (hl : ∀ x ∈ l, 0 ≤ x ∧ x ≤ 255) (hm : ∀ x ∈ m, 0 ≤ x ∧ x ≤ 255) : spec_EqualBytes.f l m = some (decide (l = m)) := by
  unfold spec_EqualBytes.f
  rw [ByteArray.toList_eq, ByteArray.toList_eq, strOfNums_data, strOfNums_data]
  congr 1
  by_cases h : l = m
  · rw [h]
    simp
  · rw [decide_eq_false h, beq_eq_false_iff_ne]
    exact fun e => h (bytes_inj l m hl hm e)

-- plainEq
theorem plain_ext (y z : S147) (h0 : y.f0 = z.f0) (h1 : y.f1 = z.f1) : y = z := by
  cases y
  cases z
  simp only at h0 h1
  rw [h0, h1]

-- spec_EqualOutboxes
theorem E_spec_l21Same_l0 (l m : List S147) (hl : l.length ≤ 1048577) (hm : l.length = m.length) (hw : ∀ y ∈ l, ∀ x ∈ y.f1, 0 ≤ x ∧ x ≤ 255) (hv : ∀ y ∈ m, ∀ x ∈ y.f1, 0 ≤ x ∧ x ≤ 255) : ∀ (d n k : Nat) , n + d = l.length → d + 0 < k → ∃ v, spec_l21Same.l0 k l m (n : Int) = some v ∧ (v = true ↔ l.drop n = m.drop n) := by
  intro d
  induction d with
  | zero =>
    intro n k  hn hk 
    obtain ⟨k, rfl⟩ : ∃ m, k = m + 1 := ⟨k - 1, by omega⟩
    simp only [spec_l21Same.l0]
    rw [if_neg (by omega), List.drop_eq_nil_of_le (by omega), List.drop_eq_nil_of_le (by omega)]
    exact ⟨true, rfl, by simp⟩
  | succ d ih =>
    intro n k  hn hk 
    obtain ⟨k, rfl⟩ : ∃ m, k = m + 1 := ⟨k - 1, by omega⟩
    have e1 : wrap64 ((n : Int) + 1) = ((n + 1 : Nat) : Int) := by rw [w64 (by omega) (by omega)]; omega
    simp only [spec_l21Same.l0]
    have er : rd_T147 l (n : Int) = l.getD n z147 := by simp [rd_T147]
    have er2 : rd_T147 m (n : Int) = m.getD n z147 := by simp [rd_T147]
    have h1 := hw _ (getD_mem l n z147 (by omega))
    have h2 := hv _ (getD_mem m n z147 (by omega))
    rw [if_pos (by omega), if_pos (by omega), if_pos (by omega), er, er2, getD_drop l n z147 (by omega), getD_drop m n z147 (by omega), E_spec_EqualBytes _ _ h1 h2]
    simp only [Option.bind_some, decide_eq_true_eq]
    generalize l.getD n z147 = y
    generalize m.getD n z147 = z
    by_cases c0 : y.f0 = z.f0
    · rw [if_pos c0]
      by_cases c1 : y.f1 = z.f1
      · rw [if_pos c1, e1]
        obtain ⟨v, hv, h3⟩ := ih (n + 1) k (by omega) (by omega)
        refine ⟨v, hv, h3.trans ?_⟩
        rw [plain_ext y z c0 c1]
        simp
      · rw [if_neg c1]
        exact ⟨false, rfl, by simp only [Bool.false_eq_true, false_iff]; exact fun h => c1 (by rw [(List.cons.inj h).1])⟩
    · rw [if_neg c0]
      exact ⟨false, rfl, by simp only [Bool.false_eq_true, false_iff]; exact fun h => c0 (by rw [(List.cons.inj h).1])⟩

theorem E_spec_EqualOutboxes (k : Nat) (a : Int) (l : List S147) (b c : Int) (m : List S147) (d : Int) (hk : 4194304 < k) (hl : l.length ≤ 1048577) (hw : ∀ y ∈ l, ∀ x ∈ y.f1, 0 ≤ x ∧ x ≤ 255) (hv : ∀ y ∈ m, ∀ x ∈ y.f1, 0 ≤ x ∧ x ≤ 255) :
    ∃ v, spec_EqualOutboxes.f k a l b c m d = some v ∧ (v = true ↔ a = c ∧ b = d ∧ l = m) := by
  unfold spec_EqualOutboxes.f spec_l21Same.f
  by_cases h0 : a = c
  · rw [if_pos h0]
    by_cases h1 : b = d
    · rw [if_pos h1]
      by_cases h2 : (l.length : Int) = (m.length : Int)
      · rw [if_pos h2]
        obtain ⟨v, hv, h3⟩ := E_spec_l21Same_l0 l m hl (by omega) hw hv l.length 0 k (by omega) (by omega)
        rw [show ((0 : Nat) : Int) = 0 from rfl] at hv
        rw [hv]
        rw [List.drop_zero, List.drop_zero] at h3
        exact ⟨v, rfl, h3.trans ⟨fun h => ⟨h0, h1, h⟩, fun h => h.2.2⟩⟩
      · rw [if_neg h2]
        exact ⟨false, rfl, by simp only [Bool.false_eq_true, false_iff]; exact fun h => h2 (by rw [h.2.2])⟩
    · rw [if_neg h1]
      exact ⟨false, rfl, by simp only [Bool.false_eq_true, false_iff]; exact fun h => h1 h.2.1⟩
  · rw [if_neg h0]
    exact ⟨false, rfl, by simp only [Bool.false_eq_true, false_iff]; exact fun h => h0 h.1⟩

-- slices_Equal_byte
theorem E_slices_Equal_byte_l0 (l m : List Int) (hl : l.length ≤ 2097152) (hm : l.length = m.length) : ∀ (d n k : Nat) , n + d = l.length → d + 0 < k → slices_Equal_byte.l0 k l m (l.length : Int) (n : Int) = some (decide (l.drop n = m.drop n)) := by
  intro d
  induction d with
  | zero =>
    intro n k  hn hk 
    obtain ⟨k, rfl⟩ : ∃ m, k = m + 1 := ⟨k - 1, by omega⟩
    simp only [slices_Equal_byte.l0]
    rw [if_neg (by omega), List.drop_eq_nil_of_le (by omega), List.drop_eq_nil_of_le (by omega)]
    rfl
  | succ d ih =>
    intro n k  hn hk 
    obtain ⟨k, rfl⟩ : ∃ m, k = m + 1 := ⟨k - 1, by omega⟩
    have e1 : wrap64 ((n : Int) + 1) = ((n + 1 : Nat) : Int) := by rw [w64 (by omega) (by omega)]; omega
    simp only [slices_Equal_byte.l0]
    rw [if_pos (by omega), if_pos (by omega), if_pos (by omega), if_pos (by omega), e1, rd_nat, rd_nat, getD_drop l n 0 (by omega), getD_drop m n 0 (by omega)]
    by_cases h : l.getD n 0 = m.getD n 0
    · rw [if_pos h, ih (n + 1) k (by omega) (by omega), h]
      simp only [List.cons.injEq, true_and]
    · rw [if_neg h, decide_eq_false (fun e => h (List.cons.inj e).1)]

theorem E_slices_Equal_byte (k : Nat) (l m : List Int) (hk : 4194304 < k) (hl : l.length ≤ 2097152) : slices_Equal_byte.f k l m = some (decide (l = m)) := by
  unfold slices_Equal_byte.f
  by_cases h : (l.length : Int) = (m.length : Int)
  · rw [if_pos h]
    have := E_slices_Equal_byte_l0 l m hl (by omega) l.length 0 k (by omega) (by omega)
    simpa using this
  · rw [if_neg h]
    have : l ≠ m := fun e => h (by rw [e])
    simp [this]

-- impl_EqualOutboxes
theorem E_impl_sameF_l0 (l m : List S147) (hl : l.length ≤ 1048577) (hm : l.length = m.length) (hw : ∀ y ∈ l, (y.f1.length : Int) ≤ 1048576) : ∀ (d n k : Nat) , n + d = l.length → d + 4194304 < k → ∃ v, slices_EqualFunc_Plain_at_impl_equalPlain.l0 k m l (l.length : Int) (n : Int) = some v ∧ (v = true ↔ l.drop n = m.drop n) := by
  intro d
  induction d with
  | zero =>
    intro n k  hn hk 
    obtain ⟨k, rfl⟩ : ∃ m, k = m + 1 := ⟨k - 1, by omega⟩
    simp only [slices_EqualFunc_Plain_at_impl_equalPlain.l0]
    rw [if_neg (by omega), List.drop_eq_nil_of_le (by omega), List.drop_eq_nil_of_le (by omega)]
    exact ⟨true, rfl, by simp⟩
  | succ d ih =>
    intro n k  hn hk 
    obtain ⟨k, rfl⟩ : ∃ m, k = m + 1 := ⟨k - 1, by omega⟩
    have e1 : wrap64 ((n : Int) + 1) = ((n + 1 : Nat) : Int) := by rw [w64 (by omega) (by omega)]; omega
    simp only [slices_EqualFunc_Plain_at_impl_equalPlain.l0]
    have er : rd_T147 l (n : Int) = l.getD n z147 := by simp [rd_T147]
    have er2 : rd_T147 m (n : Int) = m.getD n z147 := by simp [rd_T147]
    have h1 := hw _ (getD_mem l n z147 (by omega))
    rw [if_pos (by omega), if_pos (by omega), if_pos (by omega), if_pos (by omega), er, er2, getD_drop l n z147 (by omega), getD_drop m n z147 (by omega)]
    unfold impl_equalPlain.f
    rw [E_slices_Equal_byte k _ _ (by omega) (by omega)]
    simp only [Option.bind_some]
    generalize l.getD n z147 = y
    generalize m.getD n z147 = z
    by_cases c0 : y.f0 = z.f0
    · rw [if_pos c0]
      simp only [Option.bind_some, decide_eq_true_eq]
      by_cases c1 : y.f1 = z.f1
      · rw [if_pos c1, e1]
        obtain ⟨v, hv, h3⟩ := ih (n + 1) k (by omega) (by omega)
        refine ⟨v, hv, h3.trans ?_⟩
        rw [plain_ext y z c0 c1]
        simp
      · rw [if_neg c1]
        exact ⟨false, rfl, by simp only [Bool.false_eq_true, false_iff]; exact fun h => c1 (by rw [(List.cons.inj h).1])⟩
    · rw [if_neg c0]
      exact ⟨false, rfl, by simp only [Bool.false_eq_true, false_iff]; exact fun h => c0 (by rw [(List.cons.inj h).1])⟩

theorem E_impl_EqualOutboxes (k : Nat) (a : Int) (l : List S147) (b c : Int) (m : List S147) (d : Int) (hk : 8388608 < k) (hl : l.length ≤ 1048577) (hw : ∀ y ∈ l, (y.f1.length : Int) ≤ 1048576) :
    ∃ v, impl_EqualOutboxes.f k a l b c m d = some v ∧ (v = true ↔ a = c ∧ b = d ∧ l = m) := by
  unfold impl_EqualOutboxes.f slices_EqualFunc_Plain_at_impl_equalPlain.f
  by_cases h0 : a = c
  · rw [if_pos h0]
    by_cases h1 : b = d
    · rw [if_pos h1]
      by_cases h2 : (l.length : Int) = (m.length : Int)
      · rw [if_pos h2]
        obtain ⟨v, hv, h3⟩ := E_impl_sameF_l0 l m hl (by omega) hw l.length 0 k (by omega) (by omega)
        rw [show ((0 : Nat) : Int) = 0 from rfl] at hv
        rw [hv]
        rw [List.drop_zero, List.drop_zero] at h3
        exact ⟨v, rfl, h3.trans ⟨fun h => ⟨h0, h1, h⟩, fun h => h.2.2⟩⟩
      · rw [if_neg h2]
        exact ⟨false, rfl, by simp only [Bool.false_eq_true, false_iff]; exact fun h => h2 (by rw [h.2.2])⟩
    · rw [if_neg h1]
      exact ⟨false, rfl, by simp only [Bool.false_eq_true, false_iff]; exact fun h => h1 h.2.1⟩
  · rw [if_neg h0]
    exact ⟨false, rfl, by simp only [Bool.false_eq_true, false_iff]; exact fun h => h0 h.1⟩

-- FnExactEqualOutboxes
theorem map_bytes (l : List S170) (hw : ∀ y ∈ l, ∀ x ∈ y.f1, 0 ≤ x ∧ x ≤ 255) : ∀ y ∈ l.map cPlain, ∀ x ∈ y.f1, 0 ≤ x ∧ x ≤ 255 := by
  intro y hy
  obtain ⟨x, hx, rfl⟩ := List.mem_map.1 hy
  exact hw x hx
theorem FnExactEqualOutboxes : laws_FnExactEqualOutboxes.Pure := by
  intro a l b c m d ha hl hb hc hm hd
  have hbl : ∀ y ∈ l, ∀ x ∈ y.f1, 0 ≤ x ∧ x ≤ 255 := fun y hy x hx => wf8 ((hl.2 y hy).2.2 x hx)
  have hbm : ∀ y ∈ m, ∀ x ∈ y.f1, 0 ≤ x ∧ x ≤ 255 := fun y hy x hx => wf8 ((hm.2 y hy).2.2 x hx)
  have hwl : ∀ x ∈ l, x.f1.length ≤ 9223372036854775807 := fun x hx => by have := (hl.2 x hx).2.1; unfold maxLen at this; omega
  have hwm : ∀ x ∈ m, x.f1.length ≤ 9223372036854775807 := fun x hx => by have := (hm.2 x hx).2.1; unfold maxLen at this; omega
  have hl := hl.1
  have hm := hm.1
  unfold maxLen at hl hm
  refine ⟨16777216, ?_⟩
  unfold laws_FnExactEqualOutboxes.f
  obtain ⟨v, hv, hv1, hv2⟩ := Z_laws_szOutbox 16777216 a l b 1048576 (by omega) (by omega) hwl (by omega) (by omega)
  rw [hv]
  simp only [Option.bind_some]
  by_cases cc : v < 0
  · rw [if_pos cc]
  · obtain ⟨h1, h2, h3⟩ := hv2 (by omega)
    rw [if_neg cc]
    obtain ⟨u, hu, hu1, hu2⟩ := Z_laws_szOutbox 16777216 c m d v (by omega) (by omega) hwm (by omega) (by omega)
    rw [hu]
    simp only [Option.bind_some]
    by_cases cu : u < 0
    · rw [if_pos cu]
    · obtain ⟨_, h4, h5⟩ := hu2 (by omega)
      rw [if_neg cu, E_laws_toOutbox _ a l b (by omega) h2 h3, E_laws_toOutbox _ c m d (by omega) h4 h5]
      simp only [Option.bind_some]
      obtain ⟨r, hr, hr1⟩ := E_spec_EqualOutboxes 16777216 a (l.map cPlain) b c (m.map cPlain) d (by omega) (by rw [List.length_map]; omega) (map_bytes l hbl) (map_bytes m hbm)
      obtain ⟨s, hs, hs1⟩ := E_impl_EqualOutboxes 16777216 a (l.map cPlain) b c (m.map cPlain) d (by omega) (by rw [List.length_map]; omega) (map_small l h3)
      have e : s = r := Bool.eq_iff_iff.2 (hs1.trans hr1.symm)
      rw [hr, hs]
      simp only [Option.bind_some]
      rw [if_neg (by simp [e]), E_laws_eqOutbox _ a _ b (by omega) (by rw [List.length_map]; omega) (map_small l h3)]
      simp only [Option.bind_some]
      rw [if_pos trivial, E_laws_eqOutbox _ c _ d (by omega) (by rw [List.length_map]; omega) (map_small m h5)]
      simp
end Go.Proofs.Ytcdaiclfomekhaa.Pure
