/- FnExactEqualAnswers: what the law's functions compute, over numbers and lists, answers true for every input that its bounds let in. -/
import Derived.Test.YtcdaiclfomekhaaM
import Derived.Test.YtcdaiclfomekhaaQxNJMKFD
namespace Go.Proofs.Ytcdaiclfomekhaa.Pure
open Go.RowKit Go.Proofs.Ytcdaiclfomekhaa.M Go.Proofs.Ytcdaiclfomekhaa.Q Go.Proofs.YtcdaiclfomekhaaW.PrintWords Go.Proofs.YtcdaiclfomekhaaW.PrintLast
set_option linter.unusedVariables false
set_option linter.unusedSimpArgs false
-- laws_toIntS
theorem E_laws_toIntS_l0 (l : List Int) (hl : l.length ≤ 2097152) : ∀ (d n k : Nat) (m : List Int), n + d = l.length → d + 0 < k → (m.length = l.length) → laws_toIntS.l0 k l m (n : Int) = some (m.take n ++ l.drop n) := by
  intro d
  induction d with
  | zero =>
    intro n k m hn hk hm
    obtain ⟨k, rfl⟩ : ∃ m, k = m + 1 := ⟨k - 1, by omega⟩
    simp only [laws_toIntS.l0]
    rw [if_neg (by omega), List.drop_eq_nil_of_le (by omega), List.append_nil, List.take_of_length_le (by omega)]
  | succ d ih =>
    intro n k m hn hk hm
    obtain ⟨k, rfl⟩ : ∃ m, k = m + 1 := ⟨k - 1, by omega⟩
    have e1 : wrap64 ((n : Int) + 1) = ((n + 1 : Nat) : Int) := by rw [w64 (by omega) (by omega)]; omega
    simp only [laws_toIntS.l0]
    rw [if_pos (by omega), if_pos (by omega), if_pos (by omega), e1, rd_nat]
    rw [ih (n + 1) k _ (by omega) (by omega) (by simp; omega), getD_drop l n 0 (by omega)]
    rw [show (n : Int).toNat = n by omega, take_set_snoc _ n _ (by omega), List.append_assoc]
    rfl

theorem E_laws_toIntS (k : Nat) (l : List Int) (hk : 4194304 < k) (hl : l.length ≤ 2097152) : laws_toIntS.f k l = some l := by
  unfold laws_toIntS.f
  rw [if_pos (by omega), if_pos (by omega)]
  have := E_laws_toIntS_l0 l hl l.length 0 k (List.replicate ((l.length : Int) : Int).toNat 0) (by omega) (by omega) (by simp)
  simpa using this

-- laws_eqIntS
theorem E_laws_eqIntS_l0 (l m : List Int) (hl : l.length ≤ 2097152) (hm : l.length = m.length) : ∀ (d n k : Nat) , n + d = l.length → d + 0 < k → laws_eqIntS.l0 k l m (n : Int) = some (decide (l.drop n = m.drop n)) := by
  intro d
  induction d with
  | zero =>
    intro n k  hn hk 
    obtain ⟨k, rfl⟩ : ∃ m, k = m + 1 := ⟨k - 1, by omega⟩
    simp only [laws_eqIntS.l0]
    rw [if_neg (by omega), List.drop_eq_nil_of_le (by omega), List.drop_eq_nil_of_le (by omega)]
    rfl
  | succ d ih =>
    intro n k  hn hk 
    obtain ⟨k, rfl⟩ : ∃ m, k = m + 1 := ⟨k - 1, by omega⟩
    have e1 : wrap64 ((n : Int) + 1) = ((n + 1 : Nat) : Int) := by rw [w64 (by omega) (by omega)]; omega
    simp only [laws_eqIntS.l0]
    rw [if_pos (by omega), if_pos (by omega), if_pos (by omega), e1, rd_nat, rd_nat, getD_drop l n 0 (by omega), getD_drop m n 0 (by omega)]
    by_cases h : l.getD n 0 = m.getD n 0
    · rw [if_pos h, ih (n + 1) k (by omega) (by omega), h]
      simp only [List.cons.injEq, true_and]
    · rw [if_neg h, decide_eq_false (fun e => h (List.cons.inj e).1)]

theorem E_laws_eqIntS (k : Nat) (l m : List Int) (hk : 4194304 < k) (hl : l.length ≤ 2097152) : laws_eqIntS.f k l m = some (decide (l = m)) := by
  unfold laws_eqIntS.f
  by_cases h : (l.length : Int) = (m.length : Int)
  · rw [if_pos h]
    have := E_laws_eqIntS_l0 l m hl (by omega) l.length 0 k (by omega) (by omega)
    simpa using this
  · rw [if_neg h]
    have : l ≠ m := fun e => h (by rw [e])
    simp [this]

-- laws_toByteS
theorem E_laws_toByteS_l0 (l : List Int) (hl : l.length ≤ 2097152) : ∀ (d n k : Nat) (m : List Int), n + d = l.length → d + 0 < k → (m.length = l.length) → laws_toByteS.l0 k l m (n : Int) = some (m.take n ++ l.drop n) := by
  intro d
  induction d with
  | zero =>
    intro n k m hn hk hm
    obtain ⟨k, rfl⟩ : ∃ m, k = m + 1 := ⟨k - 1, by omega⟩
    simp only [laws_toByteS.l0]
    rw [if_neg (by omega), List.drop_eq_nil_of_le (by omega), List.append_nil, List.take_of_length_le (by omega)]
  | succ d ih =>
    intro n k m hn hk hm
    obtain ⟨k, rfl⟩ : ∃ m, k = m + 1 := ⟨k - 1, by omega⟩
    have e1 : wrap64 ((n : Int) + 1) = ((n + 1 : Nat) : Int) := by rw [w64 (by omega) (by omega)]; omega
    simp only [laws_toByteS.l0]
    rw [if_pos (by omega), if_pos (by omega), if_pos (by omega), e1, rd_nat]
    rw [ih (n + 1) k _ (by omega) (by omega) (by simp; omega), getD_drop l n 0 (by omega)]
    rw [show (n : Int).toNat = n by omega, take_set_snoc _ n _ (by omega), List.append_assoc]
    rfl

theorem E_laws_toByteS (k : Nat) (l : List Int) (hk : 4194304 < k) (hl : l.length ≤ 2097152) : laws_toByteS.f k l = some l := by
  unfold laws_toByteS.f
  rw [if_pos (by omega), if_pos (by omega)]
  have := E_laws_toByteS_l0 l hl l.length 0 k (List.replicate ((l.length : Int) : Int).toNat 0) (by omega) (by omega) (by simp)
  simpa using this

-- laws_eqByteS
theorem E_laws_eqByteS_l0 (l m : List Int) (hl : l.length ≤ 2097152) (hm : l.length = m.length) : ∀ (d n k : Nat) , n + d = l.length → d + 0 < k → laws_eqByteS.l0 k l m (n : Int) = some (decide (l.drop n = m.drop n)) := by
  intro d
  induction d with
  | zero =>
    intro n k  hn hk 
    obtain ⟨k, rfl⟩ : ∃ m, k = m + 1 := ⟨k - 1, by omega⟩
    simp only [laws_eqByteS.l0]
    rw [if_neg (by omega), List.drop_eq_nil_of_le (by omega), List.drop_eq_nil_of_le (by omega)]
    rfl
  | succ d ih =>
    intro n k  hn hk 
    obtain ⟨k, rfl⟩ : ∃ m, k = m + 1 := ⟨k - 1, by omega⟩
    have e1 : wrap64 ((n : Int) + 1) = ((n + 1 : Nat) : Int) := by rw [w64 (by omega) (by omega)]; omega
    simp only [laws_eqByteS.l0]
    rw [if_pos (by omega), if_pos (by omega), if_pos (by omega), e1, rd_nat, rd_nat, getD_drop l n 0 (by omega), getD_drop m n 0 (by omega)]
    by_cases h : l.getD n 0 = m.getD n 0
    · rw [if_pos h, ih (n + 1) k (by omega) (by omega), h]
      simp only [List.cons.injEq, true_and]
    · rw [if_neg h, decide_eq_false (fun e => h (List.cons.inj e).1)]

theorem E_laws_eqByteS (k : Nat) (l m : List Int) (hk : 4194304 < k) (hl : l.length ≤ 2097152) : laws_eqByteS.f k l m = some (decide (l = m)) := by
  unfold laws_eqByteS.f
  by_cases h : (l.length : Int) = (m.length : Int)
  · rw [if_pos h]
    have := E_laws_eqByteS_l0 l m hl (by omega) l.length 0 k (by omega) (by omega)
    simpa using this
  · rw [if_neg h]
    have : l ≠ m := fun e => h (by rw [e])
    simp [this]

-- Z_szIntS
theorem Z_laws_szIntS (l : List Int) (n : Int) (hl : l.length ≤ 9223372036854775807) (h0 : 0 ≤ n) (h1 : n ≤ 1048576) : ∃ v, laws_szIntS.f l n = some v ∧ -1 ≤ v ∧ (0 ≤ v → v ≤ n ∧ (l.length : Int) ≤ n) := by
  unfold laws_szIntS.f
  rw [w64 (by omega) (by omega)]
  by_cases h : (l.length : Int) ≤ n
  · rw [if_neg (by omega)]
    exact ⟨_, rfl, by omega, fun _ => by omega⟩
  · rw [if_pos (by omega)]
    exact ⟨_, rfl, by omega, fun h => absurd h (by omega)⟩

-- Z_szByteS
theorem Z_laws_szByteS (l : List Int) (n : Int) (hl : l.length ≤ 9223372036854775807) (h0 : 0 ≤ n) (h1 : n ≤ 1048576) : ∃ v, laws_szByteS.f l n = some v ∧ -1 ≤ v ∧ (0 ≤ v → v ≤ n ∧ (l.length : Int) ≤ n) := by
  unfold laws_szByteS.f
  rw [w64 (by omega) (by omega)]
  by_cases h : (l.length : Int) ≤ n
  · rw [if_neg (by omega)]
    exact ⟨_, rfl, by omega, fun _ => by omega⟩
  · rw [if_pos (by omega)]
    exact ⟨_, rfl, by omega, fun h => absurd h (by omega)⟩

-- sumLen
def sumLen (ls : List (List Int)) : Int := (ls.map (fun l => (l.length : Int))).foldl (· + ·) 0
theorem foldl_add (l : List Int) : ∀ (a : Int), l.foldl (· + ·) a = a + l.foldl (· + ·) 0 := by
  induction l with
  | nil => intro a; simp
  | cons x l ih => intro a; simp only [List.foldl_cons]; rw [ih (a + x), ih (0 + x)]; omega
theorem sumLen_cons (l : List Int) (ls : List (List Int)) : sumLen (l :: ls) = l.length + sumLen ls := by
  unfold sumLen
  simp only [List.map_cons, List.foldl_cons]
  rw [foldl_add]
  omega
theorem sumLen_nonneg (ls : List (List Int)) : 0 ≤ sumLen ls := by
  induction ls with
  | nil => simp [sumLen]
  | cons l ls ih => rw [sumLen_cons]; omega
theorem sumLen_append (l m : List (List Int)) : sumLen (l ++ m) = sumLen l + sumLen m := by
  induction l with
  | nil => simp [sumLen]
  | cons x l ih => rw [List.cons_append, sumLen_cons, sumLen_cons, ih]; omega
theorem mem_sumLen (l : List (List Int)) : ∀ x ∈ l, (x.length : Int) ≤ sumLen l := by
  induction l with
  | nil => intro x hx; exact absurd hx (by simp)
  | cons y l ih =>
    intro x hx
    rw [sumLen_cons]
    rcases List.mem_cons.1 hx with rfl | hx
    · have := sumLen_nonneg l; omega
    · have := ih x hx; omega

-- btiM
def btiM (l : List Int) : List Int := (l.length : Int) :: l.map wrap64
theorem btiM_length (l : List Int) : (btiM l).length = l.length + 1 := by simp [btiM]
theorem sumLen_bti (l : List (List Int)) : sumLen (l.map btiM) = l.length + sumLen l := by
  induction l with
  | nil => simp [sumLen]
  | cons x l ih => rw [List.map_cons, sumLen_cons, sumLen_cons, ih, btiM_length, List.length_cons]; omega
theorem flatten_sumLen (l : List (List Int)) : (l.flatten.length : Int) = sumLen l := by
  induction l with
  | nil => simp [sumLen]
  | cons x l ih => rw [List.flatten_cons, List.length_append, sumLen_cons, ← ih]; omega
def dbM (l : List (List Int)) : Int := hashM ((l.length : Int) :: (l.map btiM).flatten)
def shareM (a b : Int) (l : List (List Int)) : Int := hashM [179, a, b, dbM l]

-- signed
theorem Z_laws_szSignedAnswer (a b : Int) (l m : List Int) (c n : Int) (hl : l.length ≤ 9223372036854775807) (hm : m.length ≤ 9223372036854775807) (h0 : 0 ≤ n) (h1 : n ≤ 1048576) :
    ∃ v, laws_szSignedAnswer.f a b l m c n = some v ∧ (0 ≤ v → (l.length : Int) ≤ n ∧ (m.length : Int) ≤ n ∧ v ≤ n) := by
  unfold laws_szSignedAnswer.f
  obtain ⟨v, hv, hv1, hv2⟩ := Z_laws_szIntS l n hl h0 h1
  rw [hv]
  simp only [Option.bind_some]
  by_cases cc : v < 0
  · rw [if_pos cc]
    exact ⟨-1, rfl, fun h => absurd h (by omega)⟩
  · rw [if_neg cc]
    have h2 := hv2 (by omega)
    obtain ⟨u, hu, hu1, hu2⟩ := Z_laws_szByteS m v hm (by omega) (by omega)
    rw [hu]
    simp only [Option.bind_some]
    by_cases c2 : u < 0
    · rw [if_pos c2]
      exact ⟨-1, rfl, fun h => absurd h (by omega)⟩
    · rw [if_neg c2]
      have h3 := hu2 (by omega)
      exact ⟨u, rfl, fun _ => by omega⟩
theorem E_laws_toSignedAnswer (k : Nat) (a b : Int) (l m : List Int) (c : Int) (hk : 4194304 < k) (hl : l.length ≤ 2097152) (hm : m.length ≤ 2097152) : laws_toSignedAnswer.f k a b l m c = some (a, b, l, m, c) := by
  unfold laws_toSignedAnswer.f
  rw [E_laws_toIntS k l hk hl, E_laws_toByteS k m hk hm]
  rfl
theorem E_laws_eqSignedAnswer (k : Nat) (a b : Int) (l m : List Int) (c : Int) (hk : 4194304 < k) (hl : l.length ≤ 2097152) (hm : m.length ≤ 2097152) : laws_eqSignedAnswer.f k a b l m c a b l m c = some true := by
  unfold laws_eqSignedAnswer.f
  rw [if_pos rfl, if_pos rfl, E_laws_eqIntS k l l hk hl, E_laws_eqByteS k m m hk hm]
  simp
def ansM (k a b : Int) (l m : List Int) : Int := khashM k ([191, a, b, (l.length : Int)] ++ l ++ btiM m)

-- spec_EqualBytes
theorem bytes_inj : ∀ (l m : List Int), (∀ x ∈ l, 0 ≤ x ∧ x ≤ 255) → (∀ x ∈ m, 0 ≤ x ∧ x ≤ 255) → (l.map fun n => UInt8.ofNat n.toNat) = (m.map fun n => UInt8.ofNat n.toNat) → l = m := by
  intro l
  induction l with
  | nil =>
    intro m _ _ h
    cases m with
    | nil => rfl
    | cons y m => simp at h
  | cons x l ih =>
    intro m hl hm h
    cases m with
    | nil => simp at h
    | cons y m =>
      simp only [List.map_cons, List.cons.injEq] at h
      have hx := hl x List.mem_cons_self
      have hy := hm y List.mem_cons_self
      have e : x = y := by
        have := congrArg UInt8.toNat h.1
        rw [UInt8.toNat_ofNat', UInt8.toNat_ofNat'] at this
        omega
      rw [e, ih m (fun z hz => hl z (List.mem_cons_of_mem _ hz)) (fun z hz => hm z (List.mem_cons_of_mem _ hz)) h.2]
theorem E_spec_EqualBytes (l m : List Int) (hl : ∀ x ∈ l, 0 ≤ x ∧ x ≤ 255) (hm : ∀ x ∈ m, 0 ≤ x ∧ x ≤ 255) : spec_EqualBytes.f l m = some (decide (l = m)) := by
  unfold spec_EqualBytes.f
  rw [ByteArray.toList_eq, ByteArray.toList_eq, strOfNums_data, strOfNums_data]
  congr 1
  by_cases h : l = m
  · rw [h]
    simp
  · rw [decide_eq_false h, beq_eq_false_iff_ne]
    exact fun e => h (bytes_inj l m hl hm e)

-- spec_EqualInts
theorem E_spec_EqualInts_l0 (l m : List Int) (hl : l.length ≤ 2097152) (hm : l.length = m.length) : ∀ (d n k : Nat) , n + d = l.length → d + 0 < k → spec_EqualInts.l0 k l m (n : Int) = some (decide (l.drop n = m.drop n)) := by
  intro d
  induction d with
  | zero =>
    intro n k  hn hk 
    obtain ⟨k, rfl⟩ : ∃ m, k = m + 1 := ⟨k - 1, by omega⟩
    simp only [spec_EqualInts.l0]
    rw [if_neg (by omega), List.drop_eq_nil_of_le (by omega), List.drop_eq_nil_of_le (by omega)]
    rfl
  | succ d ih =>
    intro n k  hn hk 
    obtain ⟨k, rfl⟩ : ∃ m, k = m + 1 := ⟨k - 1, by omega⟩
    have e1 : wrap64 ((n : Int) + 1) = ((n + 1 : Nat) : Int) := by rw [w64 (by omega) (by omega)]; omega
    simp only [spec_EqualInts.l0]
    rw [if_pos (by omega), if_pos (by omega), if_pos (by omega), e1, rd_nat, rd_nat, getD_drop l n 0 (by omega), getD_drop m n 0 (by omega)]
    by_cases h : l.getD n 0 = m.getD n 0
    · rw [if_pos h, ih (n + 1) k (by omega) (by omega), h]
      simp only [List.cons.injEq, true_and]
    · rw [if_neg h, decide_eq_false (fun e => h (List.cons.inj e).1)]

theorem E_spec_EqualInts (k : Nat) (l m : List Int) (hk : 4194304 < k) (hl : l.length ≤ 2097152) : spec_EqualInts.f k l m = some (decide (l = m)) := by
  unfold spec_EqualInts.f
  by_cases h : (l.length : Int) = (m.length : Int)
  · rw [if_pos h]
    have := E_spec_EqualInts_l0 l m hl (by omega) l.length 0 k (by omega) (by omega)
    simpa using this
  · rw [if_neg h]
    have : l ≠ m := fun e => h (by rw [e])
    simp [this]

-- slices_Equal_int
theorem E_slices_Equal_int_l0 (l m : List Int) (hl : l.length ≤ 2097152) (hm : l.length = m.length) : ∀ (d n k : Nat) , n + d = l.length → d + 0 < k → slices_Equal_int.l0 k l m (l.length : Int) (n : Int) = some (decide (l.drop n = m.drop n)) := by
  intro d
  induction d with
  | zero =>
    intro n k  hn hk 
    obtain ⟨k, rfl⟩ : ∃ m, k = m + 1 := ⟨k - 1, by omega⟩
    simp only [slices_Equal_int.l0]
    rw [if_neg (by omega), List.drop_eq_nil_of_le (by omega), List.drop_eq_nil_of_le (by omega)]
    rfl
  | succ d ih =>
    intro n k  hn hk 
    obtain ⟨k, rfl⟩ : ∃ m, k = m + 1 := ⟨k - 1, by omega⟩
    have e1 : wrap64 ((n : Int) + 1) = ((n + 1 : Nat) : Int) := by rw [w64 (by omega) (by omega)]; omega
    simp only [slices_Equal_int.l0]
    rw [if_pos (by omega), if_pos (by omega), if_pos (by omega), if_pos (by omega), e1, rd_nat, rd_nat, getD_drop l n 0 (by omega), getD_drop m n 0 (by omega)]
    by_cases h : l.getD n 0 = m.getD n 0
    · rw [if_pos h, ih (n + 1) k (by omega) (by omega), h]
      simp only [List.cons.injEq, true_and]
    · rw [if_neg h, decide_eq_false (fun e => h (List.cons.inj e).1)]

theorem E_slices_Equal_int (k : Nat) (l m : List Int) (hk : 4194304 < k) (hl : l.length ≤ 2097152) : slices_Equal_int.f k l m = some (decide (l = m)) := by
  unfold slices_Equal_int.f
  by_cases h : (l.length : Int) = (m.length : Int)
  · rw [if_pos h]
    have := E_slices_Equal_int_l0 l m hl (by omega) l.length 0 k (by omega) (by omega)
    simpa using this
  · rw [if_neg h]
    have : l ≠ m := fun e => h (by rw [e])
    simp [this]

-- slices_Equal_byte
theorem E_slices_Equal_byte_l0 (l m : List Int) (hl : l.length ≤ 2097152) (hm : l.length = m.length) : ∀ (d n k : Nat) , n + d = l.length → d + 0 < k → slices_Equal_byte.l0 k l m (l.length : Int) (n : Int) = some (decide (l.drop n = m.drop n)) := by
  intro d
  induction d with
  | zero =>
    intro n k  hn hk 
    obtain ⟨k, rfl⟩ : ∃ m, k = m + 1 := ⟨k - 1, by omega⟩
    simp only [slices_Equal_byte.l0]
    rw [if_neg (by omega), List.drop_eq_nil_of_le (by omega), List.drop_eq_nil_of_le (by omega)]
    rfl
  | succ d ih =>
    intro n k  hn hk 
    obtain ⟨k, rfl⟩ : ∃ m, k = m + 1 := ⟨k - 1, by omega⟩
    have e1 : wrap64 ((n : Int) + 1) = ((n + 1 : Nat) : Int) := by rw [w64 (by omega) (by omega)]; omega
    simp only [slices_Equal_byte.l0]
    rw [if_pos (by omega), if_pos (by omega), if_pos (by omega), if_pos (by omega), e1, rd_nat, rd_nat, getD_drop l n 0 (by omega), getD_drop m n 0 (by omega)]
    by_cases h : l.getD n 0 = m.getD n 0
    · rw [if_pos h, ih (n + 1) k (by omega) (by omega), h]
      simp only [List.cons.injEq, true_and]
    · rw [if_neg h, decide_eq_false (fun e => h (List.cons.inj e).1)]

theorem E_slices_Equal_byte (k : Nat) (l m : List Int) (hk : 4194304 < k) (hl : l.length ≤ 2097152) : slices_Equal_byte.f k l m = some (decide (l = m)) := by
  unfold slices_Equal_byte.f
  by_cases h : (l.length : Int) = (m.length : Int)
  · rw [if_pos h]
    have := E_slices_Equal_byte_l0 l m hl (by omega) l.length 0 k (by omega) (by omega)
    simpa using this
  · rw [if_neg h]
    have : l ≠ m := fun e => h (by rw [e])
    simp [this]

-- EqualAnswers
theorem E_EqualAnswers (k : Nat) (a b : Int) (l m : List Int) (c : Int) (a' b' : Int) (l' m' : List Int) (c' : Int) (hk : 4194304 < k) (hl : l.length ≤ 2097152) (hm : m.length ≤ 2097152)
    (hb : ∀ x ∈ m, 0 ≤ x ∧ x ≤ 255) (hb' : ∀ x ∈ m', 0 ≤ x ∧ x ≤ 255) : ∃ v, spec_EqualAnswers.f k a b l m c a' b' l' m' c' = some v ∧ impl_EqualAnswers.f k a b l m c a' b' l' m' c' = some v := by
  refine ⟨decide (a = a' ∧ b = b' ∧ l = l' ∧ m = m' ∧ c = c'), ?_, ?_⟩
  · unfold spec_EqualAnswers.f
    by_cases h1 : a = a'
    · by_cases h2 : b = b'
      · by_cases h3 : c = c'
        · rw [if_pos h1, if_pos h2, if_pos h3, E_spec_EqualInts k l l' hk hl, E_spec_EqualBytes m m' hb hb']
          simp only [Option.bind_some]
          by_cases h4 : l = l'
          · rw [if_pos (by simp [h4])]
            simp [h1, h2, h3, h4]
          · rw [if_neg (by simp [h4])]
            simp [h4]
        · rw [if_pos h1, if_pos h2, if_neg h3]
          simp [h3]
      · rw [if_pos h1, if_neg h2]
        simp [h2]
    · rw [if_neg h1]
      simp [h1]
  · unfold impl_EqualAnswers.f
    by_cases h1 : a = a'
    · by_cases h2 : b = b'
      · rw [if_pos h1, if_pos h2, E_slices_Equal_int k l l' hk hl, E_slices_Equal_byte k m m' hk hm]
        simp only [Option.bind_some]
        by_cases h4 : l = l'
        · rw [if_pos (by simp [h4])]
          by_cases h5 : m = m'
          · rw [if_pos (by simp [h5])]
            by_cases h3 : c = c'
            · simp [h1, h2, h3, h4, h5]
            · simp [h3]
          · rw [if_neg (by simp [h5])]
            simp [h5]
        · rw [if_neg (by simp [h4])]
          simp [h4]
      · rw [if_pos h1, if_neg h2]
        simp [h2]
    · rw [if_neg h1]
      simp [h1]

-- FnExactEqualAnswers
theorem FnExactEqualAnswers : laws_FnExactEqualAnswers.Pure := by
  intro a b l m c a' b' l' m' c' ha hb hl hm hc ha' hb' hl' hm' hc'
  have hbm : ∀ y ∈ m, 0 ≤ y ∧ y ≤ 255 := fun y hy => wf8 (hm.2 y hy)
  have hbm' : ∀ y ∈ m', 0 ≤ y ∧ y ≤ 255 := fun y hy => wf8 (hm'.2 y hy)
  have hl := hl.1
  have hm := hm.1
  have hl' := hl'.1
  have hm' := hm'.1
  unfold maxLen at hl hm hl' hm'
  refine ⟨16777216, ?_⟩
  unfold laws_FnExactEqualAnswers.f
  obtain ⟨v, hv, hv2⟩ := Z_laws_szSignedAnswer a b l m c 1048576 (by omega) (by omega) (by omega) (by omega)
  rw [hv]
  simp only [Option.bind_some]
  by_cases cc : v < 0
  · rw [if_pos cc]
  · have hs := hv2 (by omega)
    obtain ⟨u, hu, hu2⟩ := Z_laws_szSignedAnswer a' b' l' m' c' v (by omega) (by omega) (by omega) (by omega)
    rw [if_neg cc, hu]
    simp only [Option.bind_some]
    by_cases cu : u < 0
    · rw [if_pos cu]
    · have hs' := hu2 (by omega)
      obtain ⟨z, hz1, hz2⟩ := E_EqualAnswers 16777216 a b l m c a' b' l' m' c' (by omega) (by omega) (by omega) hbm hbm'
      rw [if_neg cu, E_laws_toSignedAnswer _ a b l m c (by omega) (by omega) (by omega), E_laws_toSignedAnswer _ a' b' l' m' c' (by omega) (by omega) (by omega)]
      simp only [Option.bind_some]
      rw [hz1, hz2]
      simp only [Option.bind_some]
      rw [if_neg (by simp), E_laws_eqSignedAnswer _ a b l m c (by omega) (by omega) (by omega), E_laws_eqSignedAnswer _ a' b' l' m' c' (by omega) (by omega) (by omega)]
      simp
end Go.Proofs.Ytcdaiclfomekhaa.Pure
