/- FnExactAnswerMAC: what the law's functions compute, over numbers and lists, answers true for every input that its bounds let in. -/
import Derived.Test.YtofkfagfdeohmaaM
import Derived.Test.YtofkfagfdeohmaaQxMLDKLH
namespace Go.Proofs.Ytofkfagfdeohmaa.Pure
open Go.RowKit Go.Proofs.Ytofkfagfdeohmaa.M Go.Proofs.Ytofkfagfdeohmaa.Q Go.Proofs.YtofkfagfdeohmaaW.PrintWords Go.Proofs.YtofkfagfdeohmaaW.PrintLast
set_option linter.unusedVariables false
set_option linter.unusedSimpArgs false
-- laws_toIntS
theorem E_laws_toIntS_l0 (l : List Int) (hl : l.length ≤ 2097152) : ∀ (d n k : Nat) (m : List Int), n + d = l.length → d + 0 < k → (m.length = l.length) → laws_toIntS.l0 k l m (n : Int) = some (m.take n ++ l.drop n) := by
  intro d
  induction d with
  | zero =>
    intro n k m hn hk hm
    obtain ⟨k, rfl⟩ : ∃ m, k = m + 1 := ⟨k - 1, by omega⟩
    simp only [laws_toIntS.l0]
    rw [if_neg (by omega), List.drop_eq_nil_of_le (by omega), List.append_nil, List.take_of_length_le (by omega)]
  | succ d ih =>
    intro n k m hn hk hm
    obtain ⟨k, rfl⟩ : ∃ m, k = m + 1 := ⟨k - 1, by omega⟩
    have e1 : wrap64 ((n : Int) + 1) = ((n + 1 : Nat) : Int) := by rw [w64 (by omega) (by omega)]; omega
    simp only [laws_toIntS.l0]
    rw [if_pos (by omega), if_pos (by omega), if_pos (by omega), e1, rd_nat]
    rw [ih (n + 1) k _ (by omega) (by omega) (by simp; omega), getD_drop l n 0 (by omega)]
    rw [show (n : Int).toNat = n by omega, take_set_snoc _ n _ (by omega), List.append_assoc]
    rfl

theorem E_laws_toIntS (k : Nat) (l : List Int) (hk : 4194304 < k) (hl : l.length ≤ 2097152) : laws_toIntS.f k l = some l := by
  unfold laws_toIntS.f
  rw [if_pos (by omega), if_pos (by omega)]
  have := E_laws_toIntS_l0 l hl l.length 0 k (List.replicate ((l.length : Int) : Int).toNat 0) (by omega) (by omega) (by simp)
  simpa using this

-- laws_eqIntS
theorem E_laws_eqIntS_l0 (l m : List Int) (hl : l.length ≤ 2097152) (hm : l.length = m.length) : ∀ (d n k : Nat) , n + d = l.length → d + 0 < k → laws_eqIntS.l0 k l m (n : Int) = some (decide (l.drop n = m.drop n)) := by
  intro d
  induction d with
  | zero =>
    intro n k  hn hk 
    obtain ⟨k, rfl⟩ : ∃ m, k = m + 1 := ⟨k - 1, by omega⟩
    simp only [laws_eqIntS.l0]
    rw [if_neg (by omega), List.drop_eq_nil_of_le (by omega), List.drop_eq_nil_of_le (by omega)]
    rfl
  | succ d ih =>
    intro n k  hn hk 
    obtain ⟨k, rfl⟩ : ∃ m, k = m + 1 := ⟨k - 1, by omega⟩
    have e1 : wrap64 ((n : Int) + 1) = ((n + 1 : Nat) : Int) := by rw [w64 (by omega) (by omega)]; omega
    simp only [laws_eqIntS.l0]
    rw [if_pos (by omega), if_pos (by omega), if_pos (by omega), e1, rd_nat, rd_nat, getD_drop l n 0 (by omega), getD_drop m n 0 (by omega)]
    by_cases h : l.getD n 0 = m.getD n 0
    · rw [if_pos h, ih (n + 1) k (by omega) (by omega), h]
      simp only [List.cons.injEq, true_and]
    · rw [if_neg h, decide_eq_false (fun e => h (List.cons.inj e).1)]

theorem E_laws_eqIntS (k : Nat) (l m : List Int) (hk : 4194304 < k) (hl : l.length ≤ 2097152) : laws_eqIntS.f k l m = some (decide (l = m)) := by
  unfold laws_eqIntS.f
  by_cases h : (l.length : Int) = (m.length : Int)
  · rw [if_pos h]
    have := E_laws_eqIntS_l0 l m hl (by omega) l.length 0 k (by omega) (by omega)
    simpa using this
  · rw [if_neg h]
    have : l ≠ m := fun e => h (by rw [e])
    simp [this]

-- laws_toByteS
theorem E_laws_toByteS_l0 (l : List Int) (hl : l.length ≤ 2097152) : ∀ (d n k : Nat) (m : List Int), n + d = l.length → d + 0 < k → (m.length = l.length) → laws_toByteS.l0 k l m (n : Int) = some (m.take n ++ l.drop n) := by
  intro d
  induction d with
  | zero =>
    intro n k m hn hk hm
    obtain ⟨k, rfl⟩ : ∃ m, k = m + 1 := ⟨k - 1, by omega⟩
    simp only [laws_toByteS.l0]
    rw [if_neg (by omega), List.drop_eq_nil_of_le (by omega), List.append_nil, List.take_of_length_le (by omega)]
  | succ d ih =>
    intro n k m hn hk hm
    obtain ⟨k, rfl⟩ : ∃ m, k = m + 1 := ⟨k - 1, by omega⟩
    have e1 : wrap64 ((n : Int) + 1) = ((n + 1 : Nat) : Int) := by rw [w64 (by omega) (by omega)]; omega
    simp only [laws_toByteS.l0]
    rw [if_pos (by omega), if_pos (by omega), if_pos (by omega), e1, rd_nat]
    rw [ih (n + 1) k _ (by omega) (by omega) (by simp; omega), getD_drop l n 0 (by omega)]
    rw [show (n : Int).toNat = n by omega, take_set_snoc _ n _ (by omega), List.append_assoc]
    rfl

theorem E_laws_toByteS (k : Nat) (l : List Int) (hk : 4194304 < k) (hl : l.length ≤ 2097152) : laws_toByteS.f k l = some l := by
  unfold laws_toByteS.f
  rw [if_pos (by omega), if_pos (by omega)]
  have := E_laws_toByteS_l0 l hl l.length 0 k (List.replicate ((l.length : Int) : Int).toNat 0) (by omega) (by omega) (by simp)
  simpa using this

-- laws_eqByteS
theorem E_laws_eqByteS_l0 (l m : List Int) (hl : l.length ≤ 2097152) (hm : l.length = m.length) : ∀ (d n k : Nat) , n + d = l.length → d + 0 < k → laws_eqByteS.l0 k l m (n : Int) = some (decide (l.drop n = m.drop n)) := by
  intro d
  induction d with
  | zero =>
    intro n k  hn hk 
    obtain ⟨k, rfl⟩ : ∃ m, k = m + 1 := ⟨k - 1, by omega⟩
    simp only [laws_eqByteS.l0]
    rw [if_neg (by omega), List.drop_eq_nil_of_le (by omega), List.drop_eq_nil_of_le (by omega)]
    rfl
  | succ d ih =>
    intro n k  hn hk 
    obtain ⟨k, rfl⟩ : ∃ m, k = m + 1 := ⟨k - 1, by omega⟩
    have e1 : wrap64 ((n : Int) + 1) = ((n + 1 : Nat) : Int) := by rw [w64 (by omega) (by omega)]; omega
    simp only [laws_eqByteS.l0]
    rw [if_pos (by omega), if_pos (by omega), if_pos (by omega), e1, rd_nat, rd_nat, getD_drop l n 0 (by omega), getD_drop m n 0 (by omega)]
    by_cases h : l.getD n 0 = m.getD n 0
    · rw [if_pos h, ih (n + 1) k (by omega) (by omega), h]
      simp only [List.cons.injEq, true_and]
    · rw [if_neg h, decide_eq_false (fun e => h (List.cons.inj e).1)]

theorem E_laws_eqByteS (k : Nat) (l m : List Int) (hk : 4194304 < k) (hl : l.length ≤ 2097152) : laws_eqByteS.f k l m = some (decide (l = m)) := by
  unfold laws_eqByteS.f
  by_cases h : (l.length : Int) = (m.length : Int)
  · rw [if_pos h]
    have := E_laws_eqByteS_l0 l m hl (by omega) l.length 0 k (by omega) (by omega)
    simpa using this
  · rw [if_neg h]
    have : l ≠ m := fun e => h (by rw [e])
    simp [this]

-- Z_szIntS
theorem Z_laws_szIntS (l : List Int) (n : Int) (hl : l.length ≤ 9223372036854775807) (h0 : 0 ≤ n) (h1 : n ≤ 1048576) : ∃ v, laws_szIntS.f l n = some v ∧ -1 ≤ v ∧ (0 ≤ v → v ≤ n ∧ (l.length : Int) ≤ n) := by
  unfold laws_szIntS.f
  rw [w64 (by omega) (by omega)]
  by_cases h : (l.length : Int) ≤ n
  · rw [if_neg (by omega)]
    exact ⟨_, rfl, by omega, fun _ => by omega⟩
  · rw [if_pos (by omega)]
    exact ⟨_, rfl, by omega, fun h => absurd h (by omega)⟩

-- Z_szByteS
theorem Z_laws_szByteS (l : List Int) (n : Int) (hl : l.length ≤ 9223372036854775807) (h0 : 0 ≤ n) (h1 : n ≤ 1048576) : ∃ v, laws_szByteS.f l n = some v ∧ -1 ≤ v ∧ (0 ≤ v → v ≤ n ∧ (l.length : Int) ≤ n) := by
  unfold laws_szByteS.f
  rw [w64 (by omega) (by omega)]
  by_cases h : (l.length : Int) ≤ n
  · rw [if_neg (by omega)]
    exact ⟨_, rfl, by omega, fun _ => by omega⟩
  · rw [if_pos (by omega)]
    exact ⟨_, rfl, by omega, fun h => absurd h (by omega)⟩

-- sumLen
def sumLen (ls : List (List Int)) : Int := (ls.map (fun l => (l.length : Int))).foldl (· + ·) 0
theorem foldl_add (l : List Int) : ∀ (a : Int), l.foldl (· + ·) a = a + l.foldl (· + ·) 0 := by
  induction l with
  | nil => intro a; simp
  | cons x l ih => intro a; simp only [List.foldl_cons]; rw [ih (a + x), ih (0 + x)]; omega
theorem sumLen_cons (l : List Int) (ls : List (List Int)) : sumLen (l :: ls) = l.length + sumLen ls := by
  unfold sumLen
  simp only [List.map_cons, List.foldl_cons]
  rw [foldl_add]
  omega
theorem sumLen_nonneg (ls : List (List Int)) : 0 ≤ sumLen ls := by
  induction ls with
  | nil => simp [sumLen]
  | cons l ls ih => rw [sumLen_cons]; omega
theorem sumLen_append (l m : List (List Int)) : sumLen (l ++ m) = sumLen l + sumLen m := by
  induction l with
  | nil => simp [sumLen]
  | cons x l ih => rw [List.cons_append, sumLen_cons, sumLen_cons, ih]; omega
theorem mem_sumLen (l : List (List Int)) : ∀ x ∈ l, (x.length : Int) ≤ sumLen l := by
  induction l with
  | nil => intro x hx; exact absurd hx (by simp)
  | cons y l ih =>
    intro x hx
    rw [sumLen_cons]
    rcases List.mem_cons.1 hx with rfl | hx
    · have := sumLen_nonneg l; omega
    · have := ih x hx; omega

-- btiM
def btiM (l : List Int) : List Int := (l.length : Int) :: l.map wrap64
theorem btiM_length (l : List Int) : (btiM l).length = l.length + 1 := by simp [btiM]
theorem sumLen_bti (l : List (List Int)) : sumLen (l.map btiM) = l.length + sumLen l := by
  induction l with
  | nil => simp [sumLen]
  | cons x l ih => rw [List.map_cons, sumLen_cons, sumLen_cons, ih, btiM_length, List.length_cons]; omega
theorem flatten_sumLen (l : List (List Int)) : (l.flatten.length : Int) = sumLen l := by
  induction l with
  | nil => simp [sumLen]
  | cons x l ih => rw [List.flatten_cons, List.length_append, sumLen_cons, ← ih]; omega
def dbM (l : List (List Int)) : Int := hashM ((l.length : Int) :: (l.map btiM).flatten)
def shareM (a b : Int) (l : List (List Int)) : Int := hashM [179, a, b, dbM l]

-- signed
theorem Z_laws_szSignedAnswer (a b : Int) (l m : List Int) (c n : Int) (hl : l.length ≤ 9223372036854775807) (hm : m.length ≤ 9223372036854775807) (h0 : 0 ≤ n) (h1 : n ≤ 1048576) :
    ∃ v, laws_szSignedAnswer.f a b l m c n = some v ∧ (0 ≤ v → (l.length : Int) ≤ n ∧ (m.length : Int) ≤ n ∧ v ≤ n) := by
  unfold laws_szSignedAnswer.f
  obtain ⟨v, hv, hv1, hv2⟩ := Z_laws_szIntS l n hl h0 h1
  rw [hv]
  simp only [Option.bind_some]
  by_cases cc : v < 0
  · rw [if_pos cc]
    exact ⟨-1, rfl, fun h => absurd h (by omega)⟩
  · rw [if_neg cc]
    have h2 := hv2 (by omega)
    obtain ⟨u, hu, hu1, hu2⟩ := Z_laws_szByteS m v hm (by omega) (by omega)
    rw [hu]
    simp only [Option.bind_some]
    by_cases c2 : u < 0
    · rw [if_pos c2]
      exact ⟨-1, rfl, fun h => absurd h (by omega)⟩
    · rw [if_neg c2]
      have h3 := hu2 (by omega)
      exact ⟨u, rfl, fun _ => by omega⟩
theorem E_laws_toSignedAnswer (k : Nat) (a b : Int) (l m : List Int) (c : Int) (hk : 4194304 < k) (hl : l.length ≤ 2097152) (hm : m.length ≤ 2097152) : laws_toSignedAnswer.f k a b l m c = some (a, b, l, m, c) := by
  unfold laws_toSignedAnswer.f
  rw [E_laws_toIntS k l hk hl, E_laws_toByteS k m hk hm]
  rfl
theorem E_laws_eqSignedAnswer (k : Nat) (a b : Int) (l m : List Int) (c : Int) (hk : 4194304 < k) (hl : l.length ≤ 2097152) (hm : m.length ≤ 2097152) : laws_eqSignedAnswer.f k a b l m c a b l m c = some true := by
  unfold laws_eqSignedAnswer.f
  rw [if_pos rfl, if_pos rfl, E_laws_eqIntS k l l hk hl, E_laws_eqByteS k m m hk hm]
  simp
def ansM (k a b : Int) (l m : List Int) : Int := khashM k ([191, a, b, (l.length : Int)] ++ l ++ btiM m)

-- spec_BytesToIntsW
theorem E_spec_BytesToIntsW_l0 (l : List Int) (hl : l.length ≤ 1048577) : ∀ (d n k : Nat) (m : List Int), n + d = l.length → d + 0 < k → (m.length = n + 1) → spec_BytesToInts.l0 k l m (n : Int) = some (m ++ (l.drop n).map wrap64) := by
  intro d
  induction d with
  | zero =>
    intro n k m hn hk hm
    obtain ⟨k, rfl⟩ : ∃ m, k = m + 1 := ⟨k - 1, by omega⟩
    simp only [spec_BytesToInts.l0]
    rw [if_neg (by omega), List.drop_eq_nil_of_le (by omega), List.map_nil, List.append_nil]
  | succ d ih =>
    intro n k m hn hk hm
    obtain ⟨k, rfl⟩ : ∃ m, k = m + 1 := ⟨k - 1, by omega⟩
    have e1 : wrap64 ((n : Int) + 1) = ((n + 1 : Nat) : Int) := by rw [w64 (by omega) (by omega)]; omega
    simp only [spec_BytesToInts.l0]
    rw [if_pos (by omega), if_pos (by omega), if_pos (by omega), e1, ih (n + 1) k _ (by omega) (by omega) (by rw [List.length_append, List.length_singleton]; omega), rd_nat, getD_drop l n 0 (by omega), List.map_cons, List.append_assoc]
    rfl

theorem E_spec_BytesToIntsW (k : Nat) (l : List Int) (hk : 4194304 < k) (hl : l.length ≤ 1048577) : spec_BytesToInts.f k l = some (btiM l) := by
  unfold spec_BytesToInts.f
  exact E_spec_BytesToIntsW_l0 l hl l.length 0 k [(l.length : Int)] (by omega) (by omega) rfl

-- l1In
theorem E_spec_l1In (a b c : Int) : spec_l1In.f a b c = some (decide (b ≤ a ∧ a ≤ c)) := by
  unfold spec_l1In.f
  by_cases h : a ≥ b
  · rw [if_pos h]; simp [show b ≤ a from h]
  · rw [if_neg h]; simp [show ¬ b ≤ a from h]

-- spec_Mod
theorem E_spec_Mod (a b : Int) : spec_Mod.f a b = some (modM a b) := by
  unfold spec_Mod.f modM
  rw [E_spec_l1In]
  simp only [Option.bind_some, decide_eq_true_eq]
  by_cases h : 1 ≤ b ∧ b ≤ 1000000000000
  · rw [if_pos h, if_pos h, if_neg (by omega)]
  · rw [if_neg h, if_neg h]

-- spec_Hash
theorem E_spec_Hash_l0 (l : List Int) (hl : l.length ≤ 4194304) : ∀ (d n k : Nat) (h : Int), n + d = l.length → d + 0 < k → spec_Hash.l0 k l h (n : Int) = some ((l.drop n).foldl stepM h) := by
  intro d
  induction d with
  | zero =>
    intro n k h hn hk 
    obtain ⟨k, rfl⟩ : ∃ m, k = m + 1 := ⟨k - 1, by omega⟩
    simp only [spec_Hash.l0]
    rw [if_neg (by omega), List.drop_eq_nil_of_le (by omega)]
    rfl
  | succ d ih =>
    intro n k h hn hk 
    obtain ⟨k, rfl⟩ : ∃ m, k = m + 1 := ⟨k - 1, by omega⟩
    have e1 : wrap64 ((n : Int) + 1) = ((n + 1 : Nat) : Int) := by rw [w64 (by omega) (by omega)]; omega
    simp only [spec_Hash.l0]
    rw [if_pos (by omega), if_pos (by omega), E_spec_Mod]
    simp only [Option.bind_some]
    rw [e1, rd_nat]
    rw [show (Int.tmod (wrap64 (wrap64 (wrap64 (h * 1000003) + modM (l.getD n 0) 2147483647) + 13)) 2147483647) = stepM h (l.getD n 0) from rfl]
    rw [ih (n + 1) k _ (by omega) (by omega), getD_drop l n 0 (by omega)]
    rfl

theorem E_spec_Hash (k : Nat) (l : List Int) (hk : 4194304 < k) (hl : l.length ≤ 4194304) : spec_Hash.f k l = some (hashM l) := by
  unfold spec_Hash.f
  have := E_spec_Hash_l0 l hl l.length 0 k 11 (by omega) (by omega)
  simpa [hashM] using this

-- spec_KeyedHash
theorem E_spec_KeyedHash (k : Nat) (a : Int) (l : List Int) (hk : 4194304 < k) (hl : l.length ≤ 4194300) : spec_KeyedHash.f k a l = some (khashM a l) := by
  unfold spec_KeyedHash.f
  simp only [Option.bind_some]
  rw [if_pos (by simp; omega), if_pos (by simp; omega), E_spec_Hash k _ hk (by simp; omega)]
  rfl

-- spec_AnswerMAC
theorem E_spec_AnswerMAC (k : Nat) (x a b : Int) (l m : List Int) (c : Int) (hk : 4194304 < k) (hl : l.length ≤ 1048577) (hm : m.length ≤ 1048577) : spec_AnswerMAC.f k x a b l m c = some (ansM x a b l m) := by
  unfold spec_AnswerMAC.f
  simp only [Option.bind_some]
  have e : ([191, a, b, (l.length : Int)] : List Int).length = 4 := rfl
  rw [if_pos (by omega), E_spec_BytesToIntsW k m hk hm]
  simp only [Option.bind_some]
  rw [if_pos (by rw [List.length_append, btiM_length]; omega), E_spec_KeyedHash k _ _ hk (by rw [List.length_append, List.length_append, btiM_length]; omega)]
  rfl
theorem E_spec_VerifyAnswer (k : Nat) (x a b : Int) (l m : List Int) (c : Int) (hk : 4194304 < k) (hl : l.length ≤ 1048577) (hm : m.length ≤ 1048577) : spec_AnswerMAC.f k x a b l m c = some (ansM x a b l m) := E_spec_AnswerMAC k x a b l m c hk hl hm

-- impl_BytesToIntsW
theorem E_impl_BytesToIntsW_l0 (l : List Int) (hl : l.length ≤ 1048577) : ∀ (d n k : Nat) (m : List Int), n + d = l.length → d + 0 < k → (m.length = n + 1) → impl_BytesToInts.l0 k m l (l.length : Int) (n : Int) = some (m ++ (l.drop n).map wrap64) := by
  intro d
  induction d with
  | zero =>
    intro n k m hn hk hm
    obtain ⟨k, rfl⟩ : ∃ m, k = m + 1 := ⟨k - 1, by omega⟩
    simp only [impl_BytesToInts.l0]
    rw [if_neg (by omega), List.drop_eq_nil_of_le (by omega), List.map_nil, List.append_nil]
  | succ d ih =>
    intro n k m hn hk hm
    obtain ⟨k, rfl⟩ : ∃ m, k = m + 1 := ⟨k - 1, by omega⟩
    have e1 : wrap64 ((n : Int) + 1) = ((n + 1 : Nat) : Int) := by rw [w64 (by omega) (by omega)]; omega
    simp only [impl_BytesToInts.l0]
    rw [if_pos (by omega), if_pos (by omega), if_pos (by omega), if_pos (by omega), e1, ih (n + 1) k _ (by omega) (by omega) (by rw [List.length_append, List.length_singleton]; omega), rd_nat, getD_drop l n 0 (by omega), List.map_cons, List.append_assoc]
    rfl

theorem E_impl_BytesToIntsW (k : Nat) (l : List Int) (hk : 4194304 < k) (hl : l.length ≤ 1048577) : impl_BytesToInts.f k l = some (btiM l) := by
  unfold impl_BytesToInts.f
  exact E_impl_BytesToIntsW_l0 l hl l.length 0 k [(l.length : Int)] (by omega) (by omega) rfl

-- InRange
theorem E_impl_InRange (a b c : Int) : impl_InRange.f a b c = some (decide (b ≤ a ∧ a ≤ c)) := by
  unfold impl_InRange.f
  by_cases h : b ≤ a
  · rw [if_pos h]; simp [h]
  · rw [if_neg h]; simp [h]

-- impl_Mod
theorem E_impl_Mod (a b : Int) : impl_Mod.f a b = some (modM a b) := by
  unfold impl_Mod.f modM
  rw [E_impl_InRange]
  simp only [Option.bind_some, decide_eq_true_eq]
  by_cases h : 1 ≤ b ∧ b ≤ 1000000000000
  · rw [if_pos h, if_pos h, if_neg (by omega)]
  · rw [if_neg h, if_neg h]

-- impl_Hash
theorem E_impl_Hash_l0 (l : List Int) (hl : l.length ≤ 4194304) : ∀ (d n k : Nat) (h : Int), n + d = l.length → d + 0 < k → impl_Hash.l0 k h l (l.length : Int) (n : Int) = some ((l.drop n).foldl stepM h) := by
  intro d
  induction d with
  | zero =>
    intro n k h hn hk 
    obtain ⟨k, rfl⟩ : ∃ m, k = m + 1 := ⟨k - 1, by omega⟩
    simp only [impl_Hash.l0]
    rw [if_neg (by omega), List.drop_eq_nil_of_le (by omega)]
    rfl
  | succ d ih =>
    intro n k h hn hk 
    obtain ⟨k, rfl⟩ : ∃ m, k = m + 1 := ⟨k - 1, by omega⟩
    have e1 : wrap64 ((n : Int) + 1) = ((n + 1 : Nat) : Int) := by rw [w64 (by omega) (by omega)]; omega
    simp only [impl_Hash.l0]
    rw [if_pos (by omega), if_pos (by omega), if_pos (by omega), E_impl_Mod]
    simp only [Option.bind_some]
    rw [e1, rd_nat]
    rw [show (Int.tmod (wrap64 (wrap64 (wrap64 (h * 1000003) + modM (l.getD n 0) 2147483647) + 13)) 2147483647) = stepM h (l.getD n 0) from rfl]
    rw [ih (n + 1) k _ (by omega) (by omega), getD_drop l n 0 (by omega)]
    rfl

theorem E_impl_Hash (k : Nat) (l : List Int) (hk : 4194304 < k) (hl : l.length ≤ 4194304) : impl_Hash.f k l = some (hashM l) := by
  unfold impl_Hash.f
  have := E_impl_Hash_l0 l hl l.length 0 k 11 (by omega) (by omega)
  simpa [hashM] using this

-- slices_Grow_int_at_nil
theorem E_slices_Grow_int_at_nil (n : Int) (h0 : 0 ≤ n) (h1 : n < 17592186044416) : slices_Grow_int_at_nil.f n = some [] := by
  unfold slices_Grow_int_at_nil.f
  rw [if_neg (by omega)]
  have e : wrap64 n = n := w64 (by omega) (by omega)
  rw [e]
  by_cases h : n > 0
  · rw [if_pos h, if_pos (by omega), if_pos (by simp; omega)]
    simp
  · rw [if_neg h]

-- slices_Concat_int
theorem E_slices_Concat_int_l1 (ls : List (List Int)) (hl : ls.length ≤ 1048576) : ∀ (d n k : Nat) (acc : List Int), n + d = ls.length → d + 0 < k → ((acc.length : Int) + sumLen (ls.drop n) < 17592186044416) → slices_Concat_int.l1 k acc ls (ls.length : Int) (n : Int) = some (acc ++ (ls.drop n).flatten) := by
  intro d
  induction d with
  | zero =>
    intro n k acc hn hk hs
    obtain ⟨k, rfl⟩ : ∃ m, k = m + 1 := ⟨k - 1, by omega⟩
    simp only [slices_Concat_int.l1]
    rw [if_neg (by omega), List.drop_eq_nil_of_le (by omega), List.flatten_nil, List.append_nil]
  | succ d ih =>
    intro n k acc hn hk hs
    obtain ⟨k, rfl⟩ : ∃ m, k = m + 1 := ⟨k - 1, by omega⟩
    have e1 : wrap64 ((n : Int) + 1) = ((n + 1 : Nat) : Int) := by rw [w64 (by omega) (by omega)]; omega
    simp only [slices_Concat_int.l1]
    rw [getD_drop ls n [] (by omega), sumLen_cons] at hs
    have hn0 := sumLen_nonneg (ls.drop (n + 1))
    have er : rd_L3 ls (n : Int) = ls.getD n [] := by simp [rd_L3]
    rw [if_pos (by omega), if_pos (by omega), if_pos (by omega), er, if_pos (by omega), e1]
    rw [ih (n + 1) k _ (by omega) (by omega) (by rw [List.length_append]; omega), getD_drop ls n [] (by omega), List.flatten_cons, List.append_assoc]
theorem E_slices_Concat_int_l0 (ls : List (List Int)) (hl : ls.length ≤ 1048576) : ∀ (d n k : Nat) (s : Int), n + d = ls.length → d + 1048578 < k → (0 ≤ s) → (s + sumLen (ls.drop n) < 17592186044416) → (sumLen ls < 17592186044416) → slices_Concat_int.l0 k ls s ls (ls.length : Int) (n : Int) = some (ls.flatten) := by
  intro d
  induction d with
  | zero =>
    intro n k s hn hk h0 hs ht
    obtain ⟨k, rfl⟩ : ∃ m, k = m + 1 := ⟨k - 1, by omega⟩
    simp only [slices_Concat_int.l0]
    rw [if_neg (by omega)]
    rw [List.drop_eq_nil_of_le (by omega)] at hs
    have hz : sumLen ([] : List (List Int)) = 0 := by simp [sumLen]
    rw [E_slices_Grow_int_at_nil s (by omega) (by omega)]
    simp only [Option.bind_some]
    have := E_slices_Concat_int_l1 ls hl ls.length 0 k [] (by omega) (by omega) (by simp; omega)
    simpa using this
  | succ d ih =>
    intro n k s hn hk h0 hs ht
    obtain ⟨k, rfl⟩ : ∃ m, k = m + 1 := ⟨k - 1, by omega⟩
    have e1 : wrap64 ((n : Int) + 1) = ((n + 1 : Nat) : Int) := by rw [w64 (by omega) (by omega)]; omega
    simp only [slices_Concat_int.l0]
    rw [getD_drop ls n [] (by omega), sumLen_cons] at hs
    have hn0 := sumLen_nonneg (ls.drop (n + 1))
    have er : rd_L3 ls (n : Int) = ls.getD n [] := by simp [rd_L3]
    rw [if_pos (by omega), if_pos (by omega), if_pos (by omega), er, w64 (x := s + ((ls.getD n []).length : Int)) (by omega) (by omega), if_neg (by omega), e1]
    rw [ih (n + 1) k _ (by omega) (by omega) (by omega) (by omega) ht]

theorem E_slices_Concat_int (k : Nat) (ls : List (List Int)) (hk : 4194304 < k) (hl : ls.length ≤ 1048576) (hs : sumLen ls < 17592186044416) : slices_Concat_int.f k ls = some ls.flatten := by
  unfold slices_Concat_int.f
  exact E_slices_Concat_int_l0 ls hl ls.length 0 k 0 (by omega) (by omega) (by omega) (by simpa using hs) hs

-- impl_KeyedHash
theorem E_impl_KeyedHash (k : Nat) (a : Int) (l : List Int) (hk : 4194304 < k) (hl : l.length ≤ 4194300) : impl_KeyedHash.f k a l = some (khashM a l) := by
  unfold impl_KeyedHash.f
  have hs : sumLen [[a], l, [a]] = l.length + 2 := by simp [sumLen_cons, sumLen]; omega
  rw [E_slices_Concat_int k _ hk (by simp) (by omega)]
  simp only [Option.bind_some, List.flatten_cons, List.flatten_nil, List.append_nil]
  rw [E_impl_Hash k _ hk (by simp; omega)]
  rfl

-- impl_AnswerMAC
theorem E_impl_AnswerMAC (k : Nat) (x a b : Int) (l m : List Int) (c : Int) (hk : 4194304 < k) (hl : l.length ≤ 1048577) (hm : m.length ≤ 1048577) : impl_AnswerMAC.f k x a b l m c = some (ansM x a b l m) := by
  unfold impl_AnswerMAC.f
  have e : ([191, a, b, (l.length : Int)] : List Int).length = 4 := rfl
  have hs : sumLen [[191, a, b, (l.length : Int)], l, btiM m] = 5 + l.length + m.length := by
    have e0 : sumLen ([] : List (List Int)) = 0 := by simp [sumLen]
    rw [sumLen_cons, sumLen_cons, sumLen_cons, btiM_length, e, e0]
    omega
  rw [E_impl_BytesToIntsW k m hk hm]
  simp only [Option.bind_some]
  rw [E_slices_Concat_int k _ hk (by simp) (by omega)]
  simp only [Option.bind_some, List.flatten_cons, List.flatten_nil, List.append_nil]
  rw [← List.append_assoc, E_impl_KeyedHash k _ _ hk (by rw [List.length_append, List.length_append, btiM_length]; omega)]
  rfl

-- FnExactAnswerMAC
theorem FnExactAnswerMAC : laws_FnExactAnswerMAC.Pure := by
  intro x a b l m c hx ha hb hl hm hc
  have hl := hl.1
  have hm := hm.1
  unfold maxLen at hl hm
  refine ⟨16777216, ?_⟩
  unfold laws_FnExactAnswerMAC.f
  obtain ⟨v, hv, hv2⟩ := Z_laws_szSignedAnswer a b l m c 1048576 (by omega) (by omega) (by omega) (by omega)
  rw [hv]
  simp only [Option.bind_some]
  by_cases cc : v < 0
  · rw [if_pos cc]
  · have hs := hv2 (by omega)
    rw [if_neg cc, E_laws_toSignedAnswer _ a b l m c (by omega) (by omega) (by omega)]
    simp only [Option.bind_some]
    rw [E_spec_AnswerMAC _ x a b l m c (by omega) (by omega) (by omega), E_impl_AnswerMAC _ x a b l m c (by omega) (by omega) (by omega)]
    simp only [Option.bind_some]
    rw [if_pos trivial, E_laws_eqSignedAnswer _ a b l m c (by omega) (by omega) (by omega)]
    simp
end Go.Proofs.Ytofkfagfdeohmaa.Pure
