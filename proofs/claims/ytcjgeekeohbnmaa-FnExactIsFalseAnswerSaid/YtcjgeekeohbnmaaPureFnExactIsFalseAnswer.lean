/- FnExactIsFalseAnswer: what the law's functions compute, over numbers and lists, answers true for every input that its bounds let in. -/
import Derived.Test.YtcjgeekeohbnmaaM
import Derived.Test.YtcjgeekeohbnmaaQxEGKPJL
namespace Go.Proofs.Ytcjgeekeohbnmaa.Pure
open Go.RowKit Go.Proofs.Ytcjgeekeohbnmaa.M Go.Proofs.Ytcjgeekeohbnmaa.Q Go.Proofs.YtcjgeekeohbnmaaW.PrintWords Go.Proofs.YtcjgeekeohbnmaaW.PrintLast
set_option linter.unusedVariables false
set_option linter.unusedSimpArgs false
-- laws_toIntS
theorem E_laws_toIntS_l0 (l : List Int) (hl : l.length ≤ 2097152) : ∀ (d n k : Nat) (m : List Int), n + d = l.length → d + 0 < k → (m.length = l.length) → laws_toIntS.l0 k l m (n : Int) = some (m.take n ++ l.drop n) := by
  intro d
  induction d with
  | zero =>
    intro n k m hn hk hm
    obtain ⟨k, rfl⟩ : ∃ m, k = m + 1 := ⟨k - 1, by omega⟩
    simp only [laws_toIntS.l0]
    rw [if_neg (by omega), List.drop_eq_nil_of_le (by omega), List.append_nil, List.take_of_length_le (by omega)]
  | succ d ih =>
    intro n k m hn hk hm
    obtain ⟨k, rfl⟩ : ∃ m, k = m + 1 := ⟨k - 1, by omega⟩
    have e1 : wrap64 ((n : Int) + 1) = ((n + 1 : Nat) : Int) := by rw [w64 (by omega) (by omega)]; omega
    simp only [laws_toIntS.l0]
    rw [if_pos (by omega), if_pos (by omega), if_pos (by omega), e1, rd_nat]
    rw [ih (n + 1) k _ (by omega) (by omega) (by simp; omega), getD_drop l n 0 (by omega)]
    rw [show (n : Int).toNat = n by omega, take_set_snoc _ n _ (by omega), List.append_assoc]
    rfl

theorem E_laws_toIntS (k : Nat) (l : List Int) (hk : 4194304 < k) (hl : l.length ≤ 2097152) : laws_toIntS.f k l = some l := by
  unfold laws_toIntS.f
  rw [if_pos (by omega), if_pos (by omega)]
  have := E_laws_toIntS_l0 l hl l.length 0 k (List.replicate ((l.length : Int) : Int).toNat 0) (by omega) (by omega) (by simp)
  simpa using this

-- laws_eqIntS
theorem E_laws_eqIntS_l0 (l m : List Int) (hl : l.length ≤ 2097152) (hm : l.length = m.length) : ∀ (d n k : Nat) , n + d = l.length → d + 0 < k → laws_eqIntS.l0 k l m (n : Int) = some (decide (l.drop n = m.drop n)) := by
  intro d
  induction d with
  | zero =>
    intro n k  hn hk 
    obtain ⟨k, rfl⟩ : ∃ m, k = m + 1 := ⟨k - 1, by omega⟩
    simp only [laws_eqIntS.l0]
    rw [if_neg (by omega), List.drop_eq_nil_of_le (by omega), List.drop_eq_nil_of_le (by omega)]
    rfl
  | succ d ih =>
    intro n k  hn hk 
    obtain ⟨k, rfl⟩ : ∃ m, k = m + 1 := ⟨k - 1, by omega⟩
    have e1 : wrap64 ((n : Int) + 1) = ((n + 1 : Nat) : Int) := by rw [w64 (by omega) (by omega)]; omega
    simp only [laws_eqIntS.l0]
    rw [if_pos (by omega), if_pos (by omega), if_pos (by omega), e1, rd_nat, rd_nat, getD_drop l n 0 (by omega), getD_drop m n 0 (by omega)]
    by_cases h : l.getD n 0 = m.getD n 0
    · rw [if_pos h, ih (n + 1) k (by omega) (by omega), h]
      simp only [List.cons.injEq, true_and]
    · rw [if_neg h, decide_eq_false (fun e => h (List.cons.inj e).1)]

theorem E_laws_eqIntS (k : Nat) (l m : List Int) (hk : 4194304 < k) (hl : l.length ≤ 2097152) : laws_eqIntS.f k l m = some (decide (l = m)) := by
  unfold laws_eqIntS.f
  by_cases h : (l.length : Int) = (m.length : Int)
  · rw [if_pos h]
    have := E_laws_eqIntS_l0 l m hl (by omega) l.length 0 k (by omega) (by omega)
    simpa using this
  · rw [if_neg h]
    have : l ≠ m := fun e => h (by rw [e])
    simp [this]

-- laws_toByteS
theorem E_laws_toByteS_l0 (l : List Int) (hl : l.length ≤ 2097152) : ∀ (d n k : Nat) (m : List Int), n + d = l.length → d + 0 < k → (m.length = l.length) → laws_toByteS.l0 k l m (n : Int) = some (m.take n ++ l.drop n) := by
  intro d
  induction d with
  | zero =>
    intro n k m hn hk hm
    obtain ⟨k, rfl⟩ : ∃ m, k = m + 1 := ⟨k - 1, by omega⟩
    simp only [laws_toByteS.l0]
    rw [if_neg (by omega), List.drop_eq_nil_of_le (by omega), List.append_nil, List.take_of_length_le (by omega)]
  | succ d ih =>
    intro n k m hn hk hm
    obtain ⟨k, rfl⟩ : ∃ m, k = m + 1 := ⟨k - 1, by omega⟩
    have e1 : wrap64 ((n : Int) + 1) = ((n + 1 : Nat) : Int) := by rw [w64 (by omega) (by omega)]; omega
    simp only [laws_toByteS.l0]
    rw [if_pos (by omega), if_pos (by omega), if_pos (by omega), e1, rd_nat]
    rw [ih (n + 1) k _ (by omega) (by omega) (by simp; omega), getD_drop l n 0 (by omega)]
    rw [show (n : Int).toNat = n by omega, take_set_snoc _ n _ (by omega), List.append_assoc]
    rfl

theorem E_laws_toByteS (k : Nat) (l : List Int) (hk : 4194304 < k) (hl : l.length ≤ 2097152) : laws_toByteS.f k l = some l := by
  unfold laws_toByteS.f
  rw [if_pos (by omega), if_pos (by omega)]
  have := E_laws_toByteS_l0 l hl l.length 0 k (List.replicate ((l.length : Int) : Int).toNat 0) (by omega) (by omega) (by simp)
  simpa using this

-- laws_eqByteS
theorem E_laws_eqByteS_l0 (l m : List Int) (hl : l.length ≤ 2097152) (hm : l.length = m.length) : ∀ (d n k : Nat) , n + d = l.length → d + 0 < k → laws_eqByteS.l0 k l m (n : Int) = some (decide (l.drop n = m.drop n)) := by
  intro d
  induction d with
  | zero =>
    intro n k  hn hk 
    obtain ⟨k, rfl⟩ : ∃ m, k = m + 1 := ⟨k - 1, by omega⟩
    simp only [laws_eqByteS.l0]
    rw [if_neg (by omega), List.drop_eq_nil_of_le (by omega), List.drop_eq_nil_of_le (by omega)]
    rfl
  | succ d ih =>
    intro n k  hn hk 
    obtain ⟨k, rfl⟩ : ∃ m, k = m + 1 := ⟨k - 1, by omega⟩
    have e1 : wrap64 ((n : Int) + 1) = ((n + 1 : Nat) : Int) := by rw [w64 (by omega) (by omega)]; omega
    simp only [laws_eqByteS.l0]
    rw [if_pos (by omega), if_pos (by omega), if_pos (by omega), e1, rd_nat, rd_nat, getD_drop l n 0 (by omega), getD_drop m n 0 (by omega)]
    by_cases h : l.getD n 0 = m.getD n 0
    · rw [if_pos h, ih (n + 1) k (by omega) (by omega), h]
      simp only [List.cons.injEq, true_and]
    · rw [if_neg h, decide_eq_false (fun e => h (List.cons.inj e).1)]

theorem E_laws_eqByteS (k : Nat) (l m : List Int) (hk : 4194304 < k) (hl : l.length ≤ 2097152) : laws_eqByteS.f k l m = some (decide (l = m)) := by
  unfold laws_eqByteS.f
  by_cases h : (l.length : Int) = (m.length : Int)
  · rw [if_pos h]
    have := E_laws_eqByteS_l0 l m hl (by omega) l.length 0 k (by omega) (by omega)
    simpa using this
  · rw [if_neg h]
    have : l ≠ m := fun e => h (by rw [e])
    simp [this]

-- Z_szIntS
theorem Z_laws_szIntS (l : List Int) (n : Int) (hl : l.length ≤ 9223372036854775807) (h0 : 0 ≤ n) (h1 : n ≤ 1048576) : ∃ v, laws_szIntS.f l n = some v ∧ -1 ≤ v ∧ (0 ≤ v → v ≤ n ∧ (l.length : Int) ≤ n) := by
  unfold laws_szIntS.f
  rw [w64 (by omega) (by omega)]
  by_cases h : (l.length : Int) ≤ n
  · rw [if_neg (by omega)]
    exact ⟨_, rfl, by omega, fun _ => by omega⟩
  · rw [if_pos (by omega)]
    exact ⟨_, rfl, by omega, fun h => absurd h (by omega)⟩

-- Z_szByteS
theorem Z_laws_szByteS (l : List Int) (n : Int) (hl : l.length ≤ 9223372036854775807) (h0 : 0 ≤ n) (h1 : n ≤ 1048576) : ∃ v, laws_szByteS.f l n = some v ∧ -1 ≤ v ∧ (0 ≤ v → v ≤ n ∧ (l.length : Int) ≤ n) := by
  unfold laws_szByteS.f
  rw [w64 (by omega) (by omega)]
  by_cases h : (l.length : Int) ≤ n
  · rw [if_neg (by omega)]
    exact ⟨_, rfl, by omega, fun _ => by omega⟩
  · rw [if_pos (by omega)]
    exact ⟨_, rfl, by omega, fun h => absurd h (by omega)⟩

-- sumLen
def sumLen (ls : List (List Int)) : Int := (ls.map (fun l => (l.length : Int))).foldl (· + ·) 0
theorem foldl_add (l : List Int) : ∀ (a : Int), l.foldl (· + ·) a = a + l.foldl (· + ·) 0 := by
  induction l with
  | nil => intro a; simp
  | cons x l ih => intro a; simp only [List.foldl_cons]; rw [ih (a + x), ih (0 + x)]; omega
theorem sumLen_cons (l : List Int) (ls : List (List Int)) : sumLen (l :: ls) = l.length + sumLen ls := by
  unfold sumLen
  simp only [List.map_cons, List.foldl_cons]
  rw [foldl_add]
  omega
theorem sumLen_nonneg (ls : List (List Int)) : 0 ≤ sumLen ls := by
  induction ls with
  | nil => simp [sumLen]
  | cons l ls ih => rw [sumLen_cons]; omega
theorem sumLen_append (l m : List (List Int)) : sumLen (l ++ m) = sumLen l + sumLen m := by
  induction l with
  | nil => simp [sumLen]
  | cons x l ih => rw [List.cons_append, sumLen_cons, sumLen_cons, ih]; omega
theorem mem_sumLen (l : List (List Int)) : ∀ x ∈ l, (x.length : Int) ≤ sumLen l := by
  induction l with
  | nil => intro x hx; exact absurd hx (by simp)
  | cons y l ih =>
    intro x hx
    rw [sumLen_cons]
    rcases List.mem_cons.1 hx with rfl | hx
    · have := sumLen_nonneg l; omega
    · have := ih x hx; omega

-- btiM
def btiM (l : List Int) : List Int := (l.length : Int) :: l.map wrap64
theorem btiM_length (l : List Int) : (btiM l).length = l.length + 1 := by simp [btiM]
theorem sumLen_bti (l : List (List Int)) : sumLen (l.map btiM) = l.length + sumLen l := by
  induction l with
  | nil => simp [sumLen]
  | cons x l ih => rw [List.map_cons, sumLen_cons, sumLen_cons, ih, btiM_length, List.length_cons]; omega
theorem flatten_sumLen (l : List (List Int)) : (l.flatten.length : Int) = sumLen l := by
  induction l with
  | nil => simp [sumLen]
  | cons x l ih => rw [List.flatten_cons, List.length_append, sumLen_cons, ← ih]; omega
def dbM (l : List (List Int)) : Int := hashM ((l.length : Int) :: (l.map btiM).flatten)
def shareM (a b : Int) (l : List (List Int)) : Int := hashM [179, a, b, dbM l]

-- signed
theorem Z_laws_szSignedAnswer (a b : Int) (l m : List Int) (c n : Int) (hl : l.length ≤ 9223372036854775807) (hm : m.length ≤ 9223372036854775807) (h0 : 0 ≤ n) (h1 : n ≤ 1048576) :
    ∃ v, laws_szSignedAnswer.f a b l m c n = some v ∧ (0 ≤ v → (l.length : Int) ≤ n ∧ (m.length : Int) ≤ n ∧ v ≤ n) := by
  unfold laws_szSignedAnswer.f
  obtain ⟨v, hv, hv1, hv2⟩ := Z_laws_szIntS l n hl h0 h1
  rw [hv]
  simp only [Option.bind_some]
  by_cases cc : v < 0
  · rw [if_pos cc]
    exact ⟨-1, rfl, fun h => absurd h (by omega)⟩
  · rw [if_neg cc]
    have h2 := hv2 (by omega)
    obtain ⟨u, hu, hu1, hu2⟩ := Z_laws_szByteS m v hm (by omega) (by omega)
    rw [hu]
    simp only [Option.bind_some]
    by_cases c2 : u < 0
    · rw [if_pos c2]
      exact ⟨-1, rfl, fun h => absurd h (by omega)⟩
    · rw [if_neg c2]
      have h3 := hu2 (by omega)
      exact ⟨u, rfl, fun _ => by omega⟩
theorem E_laws_toSignedAnswer (k : Nat) (a b : Int) (l m : List Int) (c : Int) (hk : 4194304 < k) (hl : l.length ≤ 2097152) (hm : m.length ≤ 2097152) : laws_toSignedAnswer.f k a b l m c = some (a, b, l, m, c) := by
  unfold laws_toSignedAnswer.f
  rw [E_laws_toIntS k l hk hl, E_laws_toByteS k m hk hm]
  rfl
theorem E_laws_eqSignedAnswer (k : Nat) (a b : Int) (l m : List Int) (c : Int) (hk : 4194304 < k) (hl : l.length ≤ 2097152) (hm : m.length ≤ 2097152) : laws_eqSignedAnswer.f k a b l m c a b l m c = some true := by
  unfold laws_eqSignedAnswer.f
  rw [if_pos rfl, if_pos rfl, E_laws_eqIntS k l l hk hl, E_laws_eqByteS k m m hk hm]
  simp
def ansM (k a b : Int) (l m : List Int) : Int := khashM k ([191, a, b, (l.length : Int)] ++ l ++ btiM m)

-- szDatabase
theorem Z_laws_szByteS' (l : List Int) (n : Int) (hl : l.length ≤ 9223372036854775807) (h0 : 0 ≤ n) (h1 : n ≤ 1048576) : laws_szByteS.f l n = some (if n - (l.length : Int) < 0 then -1 else n - (l.length : Int)) := by
  unfold laws_szByteS.f
  rw [w64 (by omega) (by omega)]
  by_cases h : n - (l.length : Int) < 0
  · rw [if_pos h, if_pos h]
  · rw [if_neg h, if_neg h]
theorem Z_laws_szByteSS_l0 (l : List (List Int)) (hl : l.length ≤ 1048576) (hw : ∀ x ∈ l, x.length ≤ 9223372036854775807) : ∀ (d n k : Nat) (x : Int), n + d = l.length → d + 0 < k → (0 ≤ x) → (x ≤ 1048576) → ∃ v, laws_szByteSS.l0 k l x (n : Int) = some v ∧ -1 ≤ v ∧ (0 ≤ v → v + sumLen (l.drop n) = x) := by
  intro d
  induction d with
  | zero =>
    intro n k x hn hk h0 h1
    obtain ⟨k, rfl⟩ : ∃ m, k = m + 1 := ⟨k - 1, by omega⟩
    simp only [laws_szByteSS.l0]
    rw [if_neg (by omega), List.drop_eq_nil_of_le (by omega)]
    exact ⟨x, rfl, by omega, fun _ => by simp [sumLen]⟩
  | succ d ih =>
    intro n k x hn hk h0 h1
    obtain ⟨k, rfl⟩ : ∃ m, k = m + 1 := ⟨k - 1, by omega⟩
    have e1 : wrap64 ((n : Int) + 1) = ((n + 1 : Nat) : Int) := by rw [w64 (by omega) (by omega)]; omega
    simp only [laws_szByteSS.l0]
    have er : rd_L1 l (n : Int) = l.getD n [] := by simp [rd_L1]
    have hm := hw _ (getD_mem l n [] (by omega))
    rw [if_pos (by omega), if_pos (by omega), er, Z_laws_szByteS' _ x hm h0 h1]
    simp only [Option.bind_some]
    by_cases c : x - ((l.getD n []).length : Int) < 0
    · rw [if_pos c, if_pos (by omega)]
      exact ⟨-1, rfl, by omega, fun h => absurd h (by omega)⟩
    · rw [if_neg c, if_neg c, e1]
      obtain ⟨v, hv, hv1, hv2⟩ := ih (n + 1) k (x - ((l.getD n []).length : Int)) (by omega) (by omega) (by omega) (by omega)
      refine ⟨v, hv, hv1, fun h => ?_⟩
      have := hv2 h
      rw [getD_drop l n [] (by omega), sumLen_cons]
      omega

theorem Z_laws_szDatabase (k : Nat) (l : List (List Int)) (n : Int) (hk : 4194304 < k) (hl : l.length ≤ 9223372036854775807) (hw : ∀ x ∈ l, x.length ≤ 9223372036854775807) (h0 : 0 ≤ n) (h1 : n ≤ 1048576) :
    ∃ v, laws_szDatabase.f k l n = some v ∧ -1 ≤ v ∧ (0 ≤ v → v + l.length + sumLen l = n) := by
  have hS : ∃ v, laws_szByteSS.f k l n = some v ∧ -1 ≤ v ∧ (0 ≤ v → v + l.length + sumLen l = n) := by
    unfold laws_szByteSS.f
    rw [w64 (by omega) (by omega)]
    by_cases h : (l.length : Int) ≤ n
    · rw [if_neg (by omega)]
      obtain ⟨v, hv, hv1, hv2⟩ := Z_laws_szByteSS_l0 l (by omega) hw l.length 0 k (n - l.length) (by omega) (by omega) (by omega) (by omega)
      exact ⟨v, hv, hv1, fun h' => by have := hv2 h'; rw [List.drop_zero] at this; omega⟩
    · rw [if_pos (by omega)]
      exact ⟨-1, rfl, by omega, fun h => absurd h (by omega)⟩
  unfold laws_szDatabase.f
  obtain ⟨v, hv, hv1, hv2⟩ := hS
  rw [hv]
  simp only [Option.bind_some]
  by_cases c : v < 0
  · rw [if_pos c]
    exact ⟨-1, rfl, by omega, fun h => absurd h (by omega)⟩
  · rw [if_neg c]
    exact ⟨v, rfl, hv1, hv2⟩

-- laws_toDatabase
theorem E_laws_toByteSS_l0 (l : List (List Int)) (hl : l.length ≤ 1048576) (hw : ∀ x ∈ l, (x.length : Int) ≤ 1048576) : ∀ (d n k : Nat) (m : List (List Int)), n + d = l.length → d + 4194304 < k → (m.length = l.length) → laws_toByteSS.l0 k l m (n : Int) = some (m.take n ++ l.drop n) := by
  intro d
  induction d with
  | zero =>
    intro n k m hn hk hm
    obtain ⟨k, rfl⟩ : ∃ m, k = m + 1 := ⟨k - 1, by omega⟩
    simp only [laws_toByteSS.l0]
    rw [if_neg (by omega), List.drop_eq_nil_of_le (by omega), List.take_of_length_le (by omega), List.append_nil]
  | succ d ih =>
    intro n k m hn hk hm
    obtain ⟨k, rfl⟩ : ∃ m, k = m + 1 := ⟨k - 1, by omega⟩
    have e1 : wrap64 ((n : Int) + 1) = ((n + 1 : Nat) : Int) := by rw [w64 (by omega) (by omega)]; omega
    simp only [laws_toByteSS.l0]
    have er : rd_L1 l (n : Int) = l.getD n [] := by simp [rd_L1]
    have hy := hw _ (getD_mem l n [] (by omega))
    rw [if_pos (by omega), if_pos (by omega), er, E_laws_toByteS k _ (by omega) (by omega)]
    simp only [Option.bind_some]
    rw [if_pos (by omega), e1, ih (n + 1) k _ (by omega) (by omega) (by rw [List.length_set]; omega)]
    rw [show (n : Int).toNat = n by omega, take_set_snoc _ n _ (by omega), List.append_assoc, getD_drop l n [] (by omega)]
    rfl

theorem E_laws_toDatabase (k : Nat) (l : List (List Int)) (hk : 8388608 < k) (hs : l.length + sumLen l ≤ 1048576) : laws_toDatabase.f k l = some l := by
  have h0 := sumLen_nonneg l
  have hw : ∀ x ∈ l, (x.length : Int) ≤ 1048576 := fun x hx => by have := mem_sumLen l x hx; omega
  unfold laws_toDatabase.f laws_toByteSS.f
  rw [if_pos (by omega), if_pos (by omega)]
  have := E_laws_toByteSS_l0 l (by omega) hw l.length 0 k (List.replicate ((l.length : Int) : Int).toNat []) (by omega) (by omega) (by simp)
  rw [show ((0 : Nat) : Int) = 0 from rfl] at this
  rw [this]
  simp

-- laws_eqDatabase
theorem E_laws_eqByteSS_l0 (l : List (List Int)) (hl : l.length ≤ 1048576) (hw : ∀ x ∈ l, (x.length : Int) ≤ 1048576) : ∀ (d n k : Nat) , n + d = l.length → d + 4194304 < k → laws_eqByteSS.l0 k l l (n : Int) = some true := by
  intro d
  induction d with
  | zero =>
    intro n k  hn hk 
    obtain ⟨k, rfl⟩ : ∃ m, k = m + 1 := ⟨k - 1, by omega⟩
    simp only [laws_eqByteSS.l0]
    rw [if_neg (by omega)]
  | succ d ih =>
    intro n k  hn hk 
    obtain ⟨k, rfl⟩ : ∃ m, k = m + 1 := ⟨k - 1, by omega⟩
    have e1 : wrap64 ((n : Int) + 1) = ((n + 1 : Nat) : Int) := by rw [w64 (by omega) (by omega)]; omega
    simp only [laws_eqByteSS.l0]
    have er : rd_L1 l (n : Int) = l.getD n [] := by simp [rd_L1]
    have hy := hw _ (getD_mem l n [] (by omega))
    rw [if_pos (by omega), if_pos (by omega), if_pos (by omega), er, E_laws_eqByteS k _ _ (by omega) (by omega)]
    simp only [Option.bind_some]
    rw [if_pos (by simp), e1, ih (n + 1) k (by omega) (by omega)]

theorem E_laws_eqDatabase (k : Nat) (l : List (List Int)) (hk : 8388608 < k) (hs : l.length + sumLen l ≤ 1048576) : laws_eqDatabase.f k l l = some true := by
  have h0 := sumLen_nonneg l
  have hw : ∀ x ∈ l, (x.length : Int) ≤ 1048576 := fun x hx => by have := mem_sumLen l x hx; omega
  unfold laws_eqDatabase.f laws_eqByteSS.f
  rw [if_pos rfl]
  have := E_laws_eqByteSS_l0 l (by omega) hw l.length 0 k (by omega) (by omega)
  rw [show ((0 : Nat) : Int) = 0 from rfl] at this
  rw [this]
  simp

-- spec_BytesToIntsW
theorem E_spec_BytesToIntsW_l0 (l : List Int) (hl : l.length ≤ 1048577) : ∀ (d n k : Nat) (m : List Int), n + d = l.length → d + 0 < k → (m.length = n + 1) → spec_BytesToInts.l0 k l m (n : Int) = some (m ++ (l.drop n).map wrap64) := by
  intro d
  induction d with
  | zero =>
    intro n k m hn hk hm
    obtain ⟨k, rfl⟩ : ∃ m, k = m + 1 := ⟨k - 1, by omega⟩
    simp only [spec_BytesToInts.l0]
    rw [if_neg (by omega), List.drop_eq_nil_of_le (by omega), List.map_nil, List.append_nil]
  | succ d ih =>
    intro n k m hn hk hm
    obtain ⟨k, rfl⟩ : ∃ m, k = m + 1 := ⟨k - 1, by omega⟩
    have e1 : wrap64 ((n : Int) + 1) = ((n + 1 : Nat) : Int) := by rw [w64 (by omega) (by omega)]; omega
    simp only [spec_BytesToInts.l0]
    rw [if_pos (by omega), if_pos (by omega), if_pos (by omega), e1, ih (n + 1) k _ (by omega) (by omega) (by rw [List.length_append, List.length_singleton]; omega), rd_nat, getD_drop l n 0 (by omega), List.map_cons, List.append_assoc]
    rfl

theorem E_spec_BytesToIntsW (k : Nat) (l : List Int) (hk : 4194304 < k) (hl : l.length ≤ 1048577) : spec_BytesToInts.f k l = some (btiM l) := by
  unfold spec_BytesToInts.f
  exact E_spec_BytesToIntsW_l0 l hl l.length 0 k [(l.length : Int)] (by omega) (by omega) rfl

-- l1In
theorem E_spec_l1In (a b c : Int) : spec_l1In.f a b c = some (decide (b ≤ a ∧ a ≤ c)) := by
  unfold spec_l1In.f
  by_cases h : a ≥ b
  · rw [if_pos h]; simp [show b ≤ a from h]
  · rw [if_neg h]; simp [show ¬ b ≤ a from h]

-- spec_Mod
theorem E_spec_Mod (a b : Int) : spec_Mod.f a b = some (modM a b) := by
  unfold spec_Mod.f modM
  rw [E_spec_l1In]
  simp only [Option.bind_some, decide_eq_true_eq]
  by_cases h : 1 ≤ b ∧ b ≤ 1000000000000
  · rw [if_pos h, if_pos h, if_neg (by omega)]
  · rw [if_neg h, if_neg h]

-- spec_Hash
theorem E_spec_Hash_l0 (l : List Int) (hl : l.length ≤ 4194304) : ∀ (d n k : Nat) (h : Int), n + d = l.length → d + 0 < k → spec_Hash.l0 k l h (n : Int) = some ((l.drop n).foldl stepM h) := by
  intro d
  induction d with
  | zero =>
    intro n k h hn hk 
    obtain ⟨k, rfl⟩ : ∃ m, k = m + 1 := ⟨k - 1, by omega⟩
    simp only [spec_Hash.l0]
    rw [if_neg (by omega), List.drop_eq_nil_of_le (by omega)]
    rfl
  | succ d ih =>
    intro n k h hn hk 
    obtain ⟨k, rfl⟩ : ∃ m, k = m + 1 := ⟨k - 1, by omega⟩
    have e1 : wrap64 ((n : Int) + 1) = ((n + 1 : Nat) : Int) := by rw [w64 (by omega) (by omega)]; omega
    simp only [spec_Hash.l0]
    rw [if_pos (by omega), if_pos (by omega), E_spec_Mod]
    simp only [Option.bind_some]
    rw [e1, rd_nat]
    rw [show (Int.tmod (wrap64 (wrap64 (wrap64 (h * 1000003) + modM (l.getD n 0) 2147483647) + 13)) 2147483647) = stepM h (l.getD n 0) from rfl]
    rw [ih (n + 1) k _ (by omega) (by omega), getD_drop l n 0 (by omega)]
    rfl

theorem E_spec_Hash (k : Nat) (l : List Int) (hk : 4194304 < k) (hl : l.length ≤ 4194304) : spec_Hash.f k l = some (hashM l) := by
  unfold spec_Hash.f
  have := E_spec_Hash_l0 l hl l.length 0 k 11 (by omega) (by omega)
  simpa [hashM] using this

-- spec_KeyedHash
theorem E_spec_KeyedHash (k : Nat) (a : Int) (l : List Int) (hk : 4194304 < k) (hl : l.length ≤ 4194300) : spec_KeyedHash.f k a l = some (khashM a l) := by
  unfold spec_KeyedHash.f
  simp only [Option.bind_some]
  rw [if_pos (by simp; omega), if_pos (by simp; omega), E_spec_Hash k _ hk (by simp; omega)]
  rfl

-- spec_AnswerMAC
theorem E_spec_AnswerMAC (k : Nat) (x a b : Int) (l m : List Int) (c : Int) (hk : 4194304 < k) (hl : l.length ≤ 1048577) (hm : m.length ≤ 1048577) : spec_AnswerMAC.f k x a b l m c = some (ansM x a b l m) := by
  unfold spec_AnswerMAC.f
  simp only [Option.bind_some]
  have e : ([191, a, b, (l.length : Int)] : List Int).length = 4 := rfl
  rw [if_pos (by omega), E_spec_BytesToIntsW k m hk hm]
  simp only [Option.bind_some]
  rw [if_pos (by rw [List.length_append, btiM_length]; omega), E_spec_KeyedHash k _ _ hk (by rw [List.length_append, List.length_append, btiM_length]; omega)]
  rfl
theorem E_spec_VerifyAnswer (k : Nat) (x a b : Int) (l m : List Int) (c : Int) (hk : 4194304 < k) (hl : l.length ≤ 1048577) (hm : m.length ≤ 1048577) : spec_AnswerMAC.f k x a b l m c = some (ansM x a b l m) := E_spec_AnswerMAC k x a b l m c hk hl hm

-- impl_BytesToIntsW
theorem E_impl_BytesToIntsW_l0 (l : List Int) (hl : l.length ≤ 1048577) : ∀ (d n k : Nat) (m : List Int), n + d = l.length → d + 0 < k → (m.length = n + 1) → impl_BytesToInts.l0 k m l (l.length : Int) (n : Int) = some (m ++ (l.drop n).map wrap64) := by
  intro d
  induction d with
  | zero =>
    intro n k m hn hk hm
    obtain ⟨k, rfl⟩ : ∃ m, k = m + 1 := ⟨k - 1, by omega⟩
    simp only [impl_BytesToInts.l0]
    rw [if_neg (by omega), List.drop_eq_nil_of_le (by omega), List.map_nil, List.append_nil]
  | succ d ih =>
    intro n k m hn hk hm
    obtain ⟨k, rfl⟩ : ∃ m, k = m + 1 := ⟨k - 1, by omega⟩
    have e1 : wrap64 ((n : Int) + 1) = ((n + 1 : Nat) : Int) := by rw [w64 (by omega) (by omega)]; omega
    simp only [impl_BytesToInts.l0]
    rw [if_pos (by omega), if_pos (by omega), if_pos (by omega), if_pos (by omega), e1, ih (n + 1) k _ (by omega) (by omega) (by rw [List.length_append, List.length_singleton]; omega), rd_nat, getD_drop l n 0 (by omega), List.map_cons, List.append_assoc]
    rfl

theorem E_impl_BytesToIntsW (k : Nat) (l : List Int) (hk : 4194304 < k) (hl : l.length ≤ 1048577) : impl_BytesToInts.f k l = some (btiM l) := by
  unfold impl_BytesToInts.f
  exact E_impl_BytesToIntsW_l0 l hl l.length 0 k [(l.length : Int)] (by omega) (by omega) rfl

-- InRange
theorem E_impl_InRange (a b c : Int) : impl_InRange.f a b c = some (decide (b ≤ a ∧ a ≤ c)) := by
  unfold impl_InRange.f
  by_cases h : b ≤ a
  · rw [if_pos h]; simp [h]
  · rw [if_neg h]; simp [h]

-- impl_Mod
theorem E_impl_Mod (a b : Int) : impl_Mod.f a b = some (modM a b) := by
  unfold impl_Mod.f modM
  rw [E_impl_InRange]
  simp only [Option.bind_some, decide_eq_true_eq]
  by_cases h : 1 ≤ b ∧ b ≤ 1000000000000
  · rw [if_pos h, if_pos h, if_neg (by omega)]
  · rw [if_neg h, if_neg h]

-- impl_Hash
theorem E_impl_Hash_l0 (l : List Int) (hl : l.length ≤ 4194304) : ∀ (d n k : Nat) (h : Int), n + d = l.length → d + 0 < k → impl_Hash.l0 k h l (l.length : Int) (n : Int) = some ((l.drop n).foldl stepM h) := by
  intro d
  induction d with
  | zero =>
    intro n k h hn hk 
    obtain ⟨k, rfl⟩ : ∃ m, k = m + 1 := ⟨k - 1, by omega⟩
    simp only [impl_Hash.l0]
    rw [if_neg (by omega), List.drop_eq_nil_of_le (by omega)]
    rfl
  | succ d ih =>
    intro n k h hn hk 
    obtain ⟨k, rfl⟩ : ∃ m, k = m + 1 := ⟨k - 1, by omega⟩
    have e1 : wrap64 ((n : Int) + 1) = ((n + 1 : Nat) : Int) := by rw [w64 (by omega) (by omega)]; omega
    simp only [impl_Hash.l0]
    rw [if_pos (by omega), if_pos (by omega), if_pos (by omega), E_impl_Mod]
    simp only [Option.bind_some]
    rw [e1, rd_nat]
    rw [show (Int.tmod (wrap64 (wrap64 (wrap64 (h * 1000003) + modM (l.getD n 0) 2147483647) + 13)) 2147483647) = stepM h (l.getD n 0) from rfl]
    rw [ih (n + 1) k _ (by omega) (by omega), getD_drop l n 0 (by omega)]
    rfl

theorem E_impl_Hash (k : Nat) (l : List Int) (hk : 4194304 < k) (hl : l.length ≤ 4194304) : impl_Hash.f k l = some (hashM l) := by
  unfold impl_Hash.f
  have := E_impl_Hash_l0 l hl l.length 0 k 11 (by omega) (by omega)
  simpa [hashM] using this

-- slices_Grow_int_at_nil
theorem E_slices_Grow_int_at_nil (n : Int) (h0 : 0 ≤ n) (h1 : n < 17592186044416) : slices_Grow_int_at_nil.f n = some [] := by
  unfold slices_Grow_int_at_nil.f
  rw [if_neg (by omega)]
  have e : wrap64 n = n := w64 (by omega) (by omega)
  rw [e]
  by_cases h : n > 0
  · rw [if_pos h, if_pos (by omega), if_pos (by simp; omega)]
    simp
  · rw [if_neg h]

-- slices_Concat_int
theorem E_slices_Concat_int_l1 (ls : List (List Int)) (hl : ls.length ≤ 1048576) : ∀ (d n k : Nat) (acc : List Int), n + d = ls.length → d + 0 < k → ((acc.length : Int) + sumLen (ls.drop n) < 17592186044416) → slices_Concat_int.l1 k acc ls (ls.length : Int) (n : Int) = some (acc ++ (ls.drop n).flatten) := by
  intro d
  induction d with
  | zero =>
    intro n k acc hn hk hs
    obtain ⟨k, rfl⟩ : ∃ m, k = m + 1 := ⟨k - 1, by omega⟩
    simp only [slices_Concat_int.l1]
    rw [if_neg (by omega), List.drop_eq_nil_of_le (by omega), List.flatten_nil, List.append_nil]
  | succ d ih =>
    intro n k acc hn hk hs
    obtain ⟨k, rfl⟩ : ∃ m, k = m + 1 := ⟨k - 1, by omega⟩
    have e1 : wrap64 ((n : Int) + 1) = ((n + 1 : Nat) : Int) := by rw [w64 (by omega) (by omega)]; omega
    simp only [slices_Concat_int.l1]
    rw [getD_drop ls n [] (by omega), sumLen_cons] at hs
    have hn0 := sumLen_nonneg (ls.drop (n + 1))
    have er : rd_L3 ls (n : Int) = ls.getD n [] := by simp [rd_L3]
    rw [if_pos (by omega), if_pos (by omega), if_pos (by omega), er, if_pos (by omega), e1]
    rw [ih (n + 1) k _ (by omega) (by omega) (by rw [List.length_append]; omega), getD_drop ls n [] (by omega), List.flatten_cons, List.append_assoc]
theorem E_slices_Concat_int_l0 (ls : List (List Int)) (hl : ls.length ≤ 1048576) : ∀ (d n k : Nat) (s : Int), n + d = ls.length → d + 1048578 < k → (0 ≤ s) → (s + sumLen (ls.drop n) < 17592186044416) → (sumLen ls < 17592186044416) → slices_Concat_int.l0 k ls s ls (ls.length : Int) (n : Int) = some (ls.flatten) := by
  intro d
  induction d with
  | zero =>
    intro n k s hn hk h0 hs ht
    obtain ⟨k, rfl⟩ : ∃ m, k = m + 1 := ⟨k - 1, by omega⟩
    simp only [slices_Concat_int.l0]
    rw [if_neg (by omega)]
    rw [List.drop_eq_nil_of_le (by omega)] at hs
    have hz : sumLen ([] : List (List Int)) = 0 := by simp [sumLen]
    rw [E_slices_Grow_int_at_nil s (by omega) (by omega)]
    simp only [Option.bind_some]
    have := E_slices_Concat_int_l1 ls hl ls.length 0 k [] (by omega) (by omega) (by simp; omega)
    simpa using this
  | succ d ih =>
    intro n k s hn hk h0 hs ht
    obtain ⟨k, rfl⟩ : ∃ m, k = m + 1 := ⟨k - 1, by omega⟩
    have e1 : wrap64 ((n : Int) + 1) = ((n + 1 : Nat) : Int) := by rw [w64 (by omega) (by omega)]; omega
    simp only [slices_Concat_int.l0]
    rw [getD_drop ls n [] (by omega), sumLen_cons] at hs
    have hn0 := sumLen_nonneg (ls.drop (n + 1))
    have er : rd_L3 ls (n : Int) = ls.getD n [] := by simp [rd_L3]
    rw [if_pos (by omega), if_pos (by omega), if_pos (by omega), er, w64 (x := s + ((ls.getD n []).length : Int)) (by omega) (by omega), if_neg (by omega), e1]
    rw [ih (n + 1) k _ (by omega) (by omega) (by omega) (by omega) ht]

theorem E_slices_Concat_int (k : Nat) (ls : List (List Int)) (hk : 4194304 < k) (hl : ls.length ≤ 1048576) (hs : sumLen ls < 17592186044416) : slices_Concat_int.f k ls = some ls.flatten := by
  unfold slices_Concat_int.f
  exact E_slices_Concat_int_l0 ls hl ls.length 0 k 0 (by omega) (by omega) (by omega) (by simpa using hs) hs

-- impl_KeyedHash
theorem E_impl_KeyedHash (k : Nat) (a : Int) (l : List Int) (hk : 4194304 < k) (hl : l.length ≤ 4194300) : impl_KeyedHash.f k a l = some (khashM a l) := by
  unfold impl_KeyedHash.f
  have hs : sumLen [[a], l, [a]] = l.length + 2 := by simp [sumLen_cons, sumLen]; omega
  rw [E_slices_Concat_int k _ hk (by simp) (by omega)]
  simp only [Option.bind_some, List.flatten_cons, List.flatten_nil, List.append_nil]
  rw [E_impl_Hash k _ hk (by simp; omega)]
  rfl

-- impl_AnswerMAC
theorem E_impl_AnswerMAC (k : Nat) (x a b : Int) (l m : List Int) (c : Int) (hk : 4194304 < k) (hl : l.length ≤ 1048577) (hm : m.length ≤ 1048577) : impl_AnswerMAC.f k x a b l m c = some (ansM x a b l m) := by
  unfold impl_AnswerMAC.f
  have e : ([191, a, b, (l.length : Int)] : List Int).length = 4 := rfl
  have hs : sumLen [[191, a, b, (l.length : Int)], l, btiM m] = 5 + l.length + m.length := by
    have e0 : sumLen ([] : List (List Int)) = 0 := by simp [sumLen]
    rw [sumLen_cons, sumLen_cons, sumLen_cons, btiM_length, e, e0]
    omega
  rw [E_impl_BytesToIntsW k m hk hm]
  simp only [Option.bind_some]
  rw [E_slices_Concat_int k _ hk (by simp) (by omega)]
  simp only [Option.bind_some, List.flatten_cons, List.flatten_nil, List.append_nil]
  rw [← List.append_assoc, E_impl_KeyedHash k _ _ hk (by rw [List.length_append, List.length_append, btiM_length]; omega)]
  rfl

-- dbOk
def dbOk (l : List (List Int)) : Prop := (∀ x ∈ l, (x.length : Int) = 24) ∧ (l.length : Int) ≤ 64
instance (l : List (List Int)) : Decidable (dbOk l) := by unfold dbOk; infer_instance

-- dropE
theorem dropE {α : Type} (l : List α) (n : Nat) (h : l.length ≤ n) : l.drop n = [] := List.drop_eq_nil_of_le h

-- xorM
def xB (x y : Int) : Int := Go.bits .xor .u8 x y
theorem xB_comm (x y : Int) : xB x y = xB y x := by simp only [xB, Go.bits, BitVec.xor_comm]
theorem wrap8 (n : Nat) (h : n < 256) : IntKind.wrap .u8 (n : Int) = (n : Int) := by
  simp only [IntKind.wrap, IntKind.signed, IntKind.bits]
  simp
  omega
theorem xB_range (x y : Int) : 0 ≤ xB x y ∧ xB x y ≤ 255 := by
  have h : (BitVec.ofInt 8 x ^^^ BitVec.ofInt 8 y).toNat < 256 := (BitVec.ofInt 8 x ^^^ BitVec.ofInt 8 y).isLt
  have e : xB x y = ((BitVec.ofInt 8 x ^^^ BitVec.ofInt 8 y).toNat : Int) := wrap8 _ h
  omega
theorem xB_zero (x : Int) (h : 0 ≤ x ∧ x ≤ 255) : xB 0 x = x := by
  have e : xB 0 x = ((BitVec.ofInt 8 0 ^^^ BitVec.ofInt 8 x).toNat : Int) := wrap8 _ (BitVec.ofInt 8 0 ^^^ BitVec.ofInt 8 x).isLt
  rw [e]
  simp [BitVec.toNat_ofInt]
  omega
def xorM : List Int → List Int → List Int
  | [], b => b
  | x :: a, [] => x :: a
  | x :: a, y :: b => xB x y :: xorM a b
theorem xorM_nil (a : List Int) : xorM a [] = a := by cases a <;> rfl
theorem xorM_comm : ∀ (a b : List Int), xorM a b = xorM b a
  | [], b => by rw [xorM_nil]; rfl
  | x :: a, [] => rfl
  | x :: a, y :: b => by rw [xorM, xorM, xB_comm, xorM_comm a b]
theorem xorM_length : ∀ (a b : List Int), (xorM a b).length = max a.length b.length
  | [], b => by simp [xorM]
  | x :: a, [] => by simp [xorM]
  | x :: a, y :: b => by rw [xorM, List.length_cons, List.length_cons, List.length_cons, xorM_length a b]; omega
theorem xorM_byte : ∀ (a b : List Int), (∀ y ∈ a, 0 ≤ y ∧ y ≤ 255) → (∀ y ∈ b, 0 ≤ y ∧ y ≤ 255) → ∀ y ∈ xorM a b, 0 ≤ y ∧ y ≤ 255
  | [], b, _, hb => hb
  | x :: a, [], ha, _ => ha
  | x :: a, z :: b, ha, hb => by
    intro y hy
    rcases List.mem_cons.1 hy with rfl | hy
    · exact xB_range x z
    · exact xorM_byte a b (fun y h => ha y (List.mem_cons_of_mem _ h)) (fun y h => hb y (List.mem_cons_of_mem _ h)) y hy

-- xallM
def rowOk (l : List (List Int)) : Prop := ∀ x ∈ l, x.length ≤ 1048576 ∧ ∀ y ∈ x, 0 ≤ y ∧ y ≤ 255
def xallM (a : List Int) (l : List (List Int)) : List Int := l.foldl xorM a
theorem xallM_ok : ∀ (l : List (List Int)) (a : List Int), rowOk l → a.length ≤ 1048576 → (∀ y ∈ a, 0 ≤ y ∧ y ≤ 255) → (xallM a l).length ≤ 1048576 ∧ ∀ y ∈ xallM a l, 0 ≤ y ∧ y ≤ 255
  | [], a, _, h1, h2 => ⟨h1, h2⟩
  | x :: l, a, h, h1, h2 => by
    have hx := h x (List.mem_cons_self ..)
    exact xallM_ok l (xorM a x) (fun y hy => h y (List.mem_cons_of_mem _ hy)) (by rw [xorM_length]; omega) (xorM_byte a x h2 hx.2)

-- selM
def selM : List (List Int) → List Int → List Int → List Int
  | [], _, a => a
  | _ :: _, [], a => a
  | x :: l, s :: t, a => if s = 1 then selM l t (xorM a x) else selM l t a
theorem selM_nil (l : List (List Int)) (a : List Int) : selM l [] a = a := by cases l <;> rfl
theorem selM_ok : ∀ (l : List (List Int)) (s a : List Int), rowOk l → a.length ≤ 1048576 → (∀ y ∈ a, 0 ≤ y ∧ y ≤ 255) → (selM l s a).length ≤ 1048576 ∧ ∀ y ∈ selM l s a, 0 ≤ y ∧ y ≤ 255
  | [], _, a, _, h1, h2 => ⟨h1, h2⟩
  | _ :: _, [], a, _, h1, h2 => ⟨h1, h2⟩
  | x :: l, s :: t, a, h, h1, h2 => by
    have hx := h x (List.mem_cons_self ..)
    have hl : rowOk l := fun y hy => h y (List.mem_cons_of_mem _ hy)
    rw [selM]
    split
    · exact selM_ok l t (xorM a x) hl (by rw [xorM_length]; omega) (xorM_byte a x h2 hx.2)
    · exact selM_ok l t a hl h1 h2

-- selOk
def bitOk (y : Int) : Prop := 0 ≤ y ∧ y ≤ 1
instance (y : Int) : Decidable (bitOk y) := by unfold bitOk; infer_instance
def selOk (s : List Int) (n : Int) : Prop := (∀ y ∈ s, bitOk y) ∧ (s.length : Int) = n ∧ n ≤ 64

-- spec_IsValidDatabase
theorem E_spec_IsValidDatabase_l0 (l : List (List Int)) (hl : l.length ≤ 1048577) : ∀ (d n k : Nat) , n + d = l.length → d + 0 < k → ∃ v, spec_IsValidDatabase.l0 k (n : Int) l = some v ∧ (v = true ↔ (∀ x ∈ l.drop n, (x.length : Int) = 24) ∧ (l.length : Int) ≤ 64) := by
  intro d
  induction d with
  | zero =>
    intro n k  hn hk 
    obtain ⟨k, rfl⟩ : ∃ m, k = m + 1 := ⟨k - 1, by omega⟩
    simp only [spec_IsValidDatabase.l0]
    rw [if_neg (by omega), List.drop_eq_nil_of_le (by omega)]
    exact ⟨_, rfl, by rw [decide_eq_true_eq]; exact ⟨fun h => ⟨fun x hx => absurd hx (by simp), h⟩, fun h => h.2⟩⟩
  | succ d ih =>
    intro n k  hn hk 
    obtain ⟨k, rfl⟩ : ∃ m, k = m + 1 := ⟨k - 1, by omega⟩
    have e1 : wrap64 ((n : Int) + 1) = ((n + 1 : Nat) : Int) := by rw [w64 (by omega) (by omega)]; omega
    simp only [spec_IsValidDatabase.l0]
    have er : rd_L1 l (n : Int) = l.getD n [] := by simp [rd_L1]
    rw [if_pos (by omega), if_pos (by omega), er, getD_drop l n [] (by omega)]
    by_cases c : ((l.getD n []).length : Int) = 24
    · rw [if_pos c, e1]
      obtain ⟨v, hv, h3⟩ := ih (n + 1) k (by omega) (by omega)
      exact ⟨v, hv, h3.trans ⟨fun h => ⟨fun x hx => (List.mem_cons.1 hx).elim (fun e => by rw [e]; exact c) (h.1 x), h.2⟩, fun h => ⟨fun x hx => h.1 x (List.mem_cons_of_mem _ hx), h.2⟩⟩⟩
    · rw [if_neg c]
      exact ⟨false, rfl, by simp only [Bool.false_eq_true, false_iff]; exact fun h => c (h.1 _ List.mem_cons_self)⟩

theorem E_spec_IsValidDatabase (k : Nat) (l : List (List Int)) (hk : 4194304 < k) (hl : l.length ≤ 1048577) : ∃ v, spec_IsValidDatabase.f k l = some v ∧ (v = true ↔ dbOk l) := by
  unfold spec_IsValidDatabase.f
  obtain ⟨v, hv, h⟩ := E_spec_IsValidDatabase_l0 l hl l.length 0 k (by omega) (by omega)
  rw [List.drop_zero] at h
  exact ⟨v, hv, h⟩

-- impl_IsValidDatabase
theorem E_impl_IsValidDatabase_1 (l : List Int) : impl_IsValidDatabase_1.f l = some (!decide ((l.length : Int) = 24)) := rfl
theorem E_slices_IndexFunc_Lbyte_at_impl_IsValidDatabase_1_l0 (l : List (List Int)) (hl : l.length ≤ 1048577) : ∀ (d n k : Nat) , n + d = l.length → d + 0 < k → ∃ v, slices_IndexFunc_Lbyte_at_impl_IsValidDatabase_1.l0 k l (l.length : Int) (n : Int) = some v ∧ (v ≥ 0 ↔ ∃ y ∈ l.drop n, ¬ (y.length : Int) = 24) := by
  intro d
  induction d with
  | zero =>
    intro n k  hn hk 
    obtain ⟨k, rfl⟩ : ∃ m, k = m + 1 := ⟨k - 1, by omega⟩
    simp only [slices_IndexFunc_Lbyte_at_impl_IsValidDatabase_1.l0]
    rw [if_neg (by omega), List.drop_eq_nil_of_le (by omega)]
    exact ⟨_, rfl, by simp⟩
  | succ d ih =>
    intro n k  hn hk 
    obtain ⟨k, rfl⟩ : ∃ m, k = m + 1 := ⟨k - 1, by omega⟩
    have e1 : wrap64 ((n : Int) + 1) = ((n + 1 : Nat) : Int) := by rw [w64 (by omega) (by omega)]; omega
    simp only [slices_IndexFunc_Lbyte_at_impl_IsValidDatabase_1.l0]
    have er : rd_L1 l (n : Int) = l.getD n [] := by simp [rd_L1]
    rw [if_pos (by omega), if_pos (by omega), if_pos (by omega), er, E_impl_IsValidDatabase_1, getD_drop l n [] (by omega)]
    simp only [Option.bind_some, decide_eq_true_eq]
    generalize l.getD n [] = y
    by_cases h : ¬ (y.length : Int) = 24
    · rw [if_pos (by simpa using h)]
      exact ⟨_, rfl, fun _ => ⟨y, List.mem_cons_self, h⟩, fun _ => by omega⟩
    · rw [if_neg (by simpa using h), e1]
      obtain ⟨v, hv, h1⟩ := ih (n + 1) k (by omega) (by omega)
      refine ⟨v, hv, h1.trans ?_⟩
      constructor
      · rintro ⟨x, hx, hb⟩
        exact ⟨x, List.mem_cons_of_mem _ hx, hb⟩
      · rintro ⟨x, hx, hb⟩
        rcases List.mem_cons.1 hx with rfl | hx
        · exact absurd hb h
        · exact ⟨x, hx, hb⟩

theorem E_slices_IndexFunc_Lbyte_at_impl_IsValidDatabase_1 (k : Nat) (l : List (List Int)) (hk : 4194304 < k) (hl : l.length ≤ 1048577) : ∃ v, slices_IndexFunc_Lbyte_at_impl_IsValidDatabase_1.f k l = some v ∧ (v ≥ 0 ↔ ∃ y ∈ l, ¬ (y.length : Int) = 24) := by
  unfold slices_IndexFunc_Lbyte_at_impl_IsValidDatabase_1.f
  obtain ⟨v, hv, h1⟩ := E_slices_IndexFunc_Lbyte_at_impl_IsValidDatabase_1_l0 l hl l.length 0 k (by omega) (by omega)
  exact ⟨v, hv, by simpa using h1⟩

theorem E_slices_ContainsFunc_Lbyte_at_impl_IsValidDatabase_1 (k : Nat) (l : List (List Int)) (hk : 4194304 < k) (hl : l.length ≤ 1048577) : ∃ v, slices_ContainsFunc_Lbyte_at_impl_IsValidDatabase_1.f k l = some v ∧ (v = true ↔ ∃ y ∈ l, ¬ (y.length : Int) = 24) := by
  unfold slices_ContainsFunc_Lbyte_at_impl_IsValidDatabase_1.f
  obtain ⟨v, hv, h1⟩ := E_slices_IndexFunc_Lbyte_at_impl_IsValidDatabase_1 k l hk hl
  rw [hv]
  exact ⟨_, rfl, by rw [decide_eq_true_eq]; exact h1⟩

theorem E_impl_IsValidDatabase (k : Nat) (l : List (List Int)) (hk : 4194304 < k) (hl : l.length ≤ 1048577) : ∃ v, impl_IsValidDatabase.f k l = some v ∧ (v = true ↔ dbOk l) := by
  unfold impl_IsValidDatabase.f
  by_cases c : (l.length : Int) ≤ 64
  · rw [if_pos c]
    obtain ⟨v, hv, h⟩ := E_slices_ContainsFunc_Lbyte_at_impl_IsValidDatabase_1 k l hk hl
    rw [hv]
    refine ⟨!v, rfl, ?_⟩
    cases v with
    | true =>
      obtain ⟨y, hy, hb⟩ := h.1 rfl
      simp only [Bool.not_true, Bool.false_eq_true, false_iff]
      exact fun hh => hb (hh.1 y hy)
    | false =>
      simp only [Bool.not_false, true_iff]
      exact ⟨fun y hy => Classical.byContradiction fun hb => Bool.noConfusion (h.2 ⟨y, hy, hb⟩), c⟩
  · rw [if_neg c]
    exact ⟨false, rfl, by simp only [Bool.false_eq_true, false_iff]; exact fun h => c h.2⟩

-- spec_IsSelection
theorem E_spec_IsSelection_l0 (x : Int) (l : List Int) (hl : l.length ≤ 1048577) : ∀ (d n k : Nat) , n + d = l.length → d + 0 < k → ∃ v, spec_IsSelection.l0 k l x (n : Int) = some v ∧ (v = true ↔ (∀ y ∈ l.drop n, bitOk y) ∧ (l.length : Int) = x ∧ x ≤ 64) := by
  intro d
  induction d with
  | zero =>
    intro n k  hn hk 
    obtain ⟨k, rfl⟩ : ∃ m, k = m + 1 := ⟨k - 1, by omega⟩
    simp only [spec_IsSelection.l0]
    rw [if_neg (by omega), List.drop_eq_nil_of_le (by omega)]
    by_cases c : (l.length : Int) = x
    · rw [if_pos c]
      exact ⟨_, rfl, by rw [decide_eq_true_eq]; exact ⟨fun h => ⟨fun y hy => absurd hy (by simp), c, h⟩, fun h => h.2.2⟩⟩
    · rw [if_neg c]
      exact ⟨false, rfl, by simp only [Bool.false_eq_true, false_iff]; exact fun h => c h.2.1⟩
  | succ d ih =>
    intro n k  hn hk 
    obtain ⟨k, rfl⟩ : ∃ m, k = m + 1 := ⟨k - 1, by omega⟩
    have e1 : wrap64 ((n : Int) + 1) = ((n + 1 : Nat) : Int) := by rw [w64 (by omega) (by omega)]; omega
    simp only [spec_IsSelection.l0]
    rw [if_pos (by omega), if_pos (by omega), E_spec_l1In, rd_nat, getD_drop l n 0 (by omega)]
    simp only [Option.bind_some, decide_eq_true_eq]
    by_cases c : 0 ≤ l.getD n 0 ∧ l.getD n 0 ≤ 1
    · rw [if_pos c, e1]
      obtain ⟨v, hv, h3⟩ := ih (n + 1) k (by omega) (by omega)
      exact ⟨v, hv, h3.trans ⟨fun h => ⟨fun x hx => (List.mem_cons.1 hx).elim (fun e => by rw [e]; exact c) (h.1 x), h.2⟩, fun h => ⟨fun x hx => h.1 x (List.mem_cons_of_mem _ hx), h.2⟩⟩⟩
    · rw [if_neg c]
      exact ⟨false, rfl, by simp only [Bool.false_eq_true, false_iff]; exact fun h => c (h.1 _ List.mem_cons_self)⟩

theorem E_spec_IsSelection (k : Nat) (l : List Int) (x : Int) (hk : 4194304 < k) (hl : l.length ≤ 1048577) : ∃ v, spec_IsSelection.f k l x = some v ∧ (v = true ↔ selOk l x) := by
  unfold spec_IsSelection.f
  obtain ⟨v, hv, h⟩ := E_spec_IsSelection_l0 x l hl l.length 0 k (by omega) (by omega)
  rw [List.drop_zero] at h
  exact ⟨v, hv, h⟩

-- impl_IsSelection
theorem E_impl_IsSelection_1 (y : Int) : impl_IsSelection_1.f y = some (!decide (bitOk y)) := by
  unfold impl_IsSelection_1.f
  rw [E_impl_InRange]
  rfl
theorem E_slices_IndexFunc_int_at_impl_IsSelection_1_l0 (l : List Int) (hl : l.length ≤ 1048577) : ∀ (d n k : Nat) , n + d = l.length → d + 0 < k → ∃ v, slices_IndexFunc_int_at_impl_IsSelection_1.l0 k l (l.length : Int) (n : Int) = some v ∧ (v ≥ 0 ↔ ∃ y ∈ l.drop n, ¬ bitOk y) := by
  intro d
  induction d with
  | zero =>
    intro n k  hn hk 
    obtain ⟨k, rfl⟩ : ∃ m, k = m + 1 := ⟨k - 1, by omega⟩
    simp only [slices_IndexFunc_int_at_impl_IsSelection_1.l0]
    rw [if_neg (by omega), List.drop_eq_nil_of_le (by omega)]
    exact ⟨_, rfl, by simp⟩
  | succ d ih =>
    intro n k  hn hk 
    obtain ⟨k, rfl⟩ : ∃ m, k = m + 1 := ⟨k - 1, by omega⟩
    have e1 : wrap64 ((n : Int) + 1) = ((n + 1 : Nat) : Int) := by rw [w64 (by omega) (by omega)]; omega
    simp only [slices_IndexFunc_int_at_impl_IsSelection_1.l0]
    have er : rd l (n : Int) = l.getD n 0 := by simp [rd]
    rw [if_pos (by omega), if_pos (by omega), if_pos (by omega), er, E_impl_IsSelection_1, getD_drop l n 0 (by omega)]
    simp only [Option.bind_some, decide_eq_true_eq]
    generalize l.getD n 0 = y
    by_cases h : ¬ bitOk y
    · rw [if_pos (by simpa using h)]
      exact ⟨_, rfl, fun _ => ⟨y, List.mem_cons_self, h⟩, fun _ => by omega⟩
    · rw [if_neg (by simpa using h), e1]
      obtain ⟨v, hv, h1⟩ := ih (n + 1) k (by omega) (by omega)
      refine ⟨v, hv, h1.trans ?_⟩
      constructor
      · rintro ⟨x, hx, hb⟩
        exact ⟨x, List.mem_cons_of_mem _ hx, hb⟩
      · rintro ⟨x, hx, hb⟩
        rcases List.mem_cons.1 hx with rfl | hx
        · exact absurd hb h
        · exact ⟨x, hx, hb⟩

theorem E_slices_IndexFunc_int_at_impl_IsSelection_1 (k : Nat) (l : List Int) (hk : 4194304 < k) (hl : l.length ≤ 1048577) : ∃ v, slices_IndexFunc_int_at_impl_IsSelection_1.f k l = some v ∧ (v ≥ 0 ↔ ∃ y ∈ l, ¬ bitOk y) := by
  unfold slices_IndexFunc_int_at_impl_IsSelection_1.f
  obtain ⟨v, hv, h1⟩ := E_slices_IndexFunc_int_at_impl_IsSelection_1_l0 l hl l.length 0 k (by omega) (by omega)
  exact ⟨v, hv, by simpa using h1⟩

theorem E_slices_ContainsFunc_int_at_impl_IsSelection_1 (k : Nat) (l : List Int) (hk : 4194304 < k) (hl : l.length ≤ 1048577) : ∃ v, slices_ContainsFunc_int_at_impl_IsSelection_1.f k l = some v ∧ (v = true ↔ ∃ y ∈ l, ¬ bitOk y) := by
  unfold slices_ContainsFunc_int_at_impl_IsSelection_1.f
  obtain ⟨v, hv, h1⟩ := E_slices_IndexFunc_int_at_impl_IsSelection_1 k l hk hl
  rw [hv]
  exact ⟨_, rfl, by rw [decide_eq_true_eq]; exact h1⟩

theorem E_impl_IsSelection (k : Nat) (l : List Int) (x : Int) (hk : 4194304 < k) (hl : l.length ≤ 1048577) (h0 : 0 ≤ x) : ∃ v, impl_IsSelection.f k l x = some v ∧ (v = true ↔ selOk l x) := by
  unfold impl_IsSelection.f
  rw [E_impl_InRange]
  simp only [Option.bind_some, decide_eq_true_eq]
  by_cases c : 0 ≤ x ∧ x ≤ 64
  · rw [if_pos c]
    by_cases c2 : (l.length : Int) = x
    · rw [if_pos c2]
      obtain ⟨v, hv, h⟩ := E_slices_ContainsFunc_int_at_impl_IsSelection_1 k l hk hl
      rw [hv]
      refine ⟨!v, rfl, ?_⟩
      cases v with
      | true =>
        obtain ⟨y, hy, hb⟩ := h.1 rfl
        simp only [Bool.not_true, Bool.false_eq_true, false_iff]
        exact fun hh => hb (hh.1 y hy)
      | false =>
        simp only [Bool.not_false, true_iff]
        exact ⟨fun y hy => Classical.byContradiction fun hb => Bool.noConfusion (h.2 ⟨y, hy, hb⟩), c2, c.2⟩
    · rw [if_neg c2]
      exact ⟨false, rfl, by simp only [Bool.false_eq_true, false_iff]; exact fun h => c2 h.2.1⟩
  · rw [if_neg c]
    exact ⟨false, rfl, by simp only [Bool.false_eq_true, false_iff]; exact fun h => c ⟨h0, h.2.2⟩⟩

-- spec_XorBytes
theorem E_spec_XorBytes_l0 (a b : List Int) (ha : a.length ≤ 1048576) (hb : b.length ≤ 1048576) (hB : ∀ y ∈ b, 0 ≤ y ∧ y ≤ 255) : ∀ (d n k : Nat) (m : List Int), n + d = max a.length b.length → 2 * d + 2 < k → m.length = n → spec_XorBytes.l0 k a b m (n : Int) = some (m ++ xorM (a.drop n) (b.drop n)) := by
  intro d
  induction d with
  | zero =>
    intro n k m hn hk hm
    obtain ⟨k, rfl⟩ : ∃ j, k = j + 2 := ⟨k - 2, by omega⟩
    simp only [spec_XorBytes.l0, spec_XorBytes.j1]
    rw [if_neg (by omega), if_neg (by rw [decide_eq_false (by omega)]; decide), List.drop_eq_nil_of_le (by omega), List.drop_eq_nil_of_le (by omega), xorM, List.append_nil]
  | succ d ih =>
    intro n k m hn hk hm
    obtain ⟨k, rfl⟩ : ∃ j, k = j + 2 := ⟨k - 2, by omega⟩
    have e1 : wrap64 ((n : Int) + 1) = ((n + 1 : Nat) : Int) := by rw [w64 (by omega) (by omega)]; omega
    have hj : spec_XorBytes.l0 (k + 2) a b m (n : Int) = spec_XorBytes.j1 (k + 1) a b m (n : Int) true := by
      rw [spec_XorBytes.l0]
      by_cases c : (n : Int) < (a.length : Int)
      · rw [if_pos c]
      · rw [if_neg c, decide_eq_true (show (n : Int) < (b.length : Int) by omega)]
    rw [hj]
    simp only [spec_XorBytes.j1]
    rw [if_pos trivial]
    by_cases c1 : n < a.length
    · rw [if_pos (by omega), if_pos (by omega)]
      by_cases c2 : n < b.length
      · rw [if_pos (by omega), if_pos (by omega), e1, ih (n + 1) k _ (by omega) (by omega) (by rw [List.length_append, List.length_singleton]; omega), rd_nat, rd_nat, getD_drop a n 0 c1, getD_drop b n 0 c2, xorM, List.append_assoc]
        rfl
      · rw [if_neg (by omega), if_pos (by omega), e1, ih (n + 1) k _ (by omega) (by omega) (by rw [List.length_append, List.length_singleton]; omega), rd_nat, getD_drop a n 0 c1, dropE b n (by omega), dropE b (n + 1) (by omega), xorM_nil, xorM_nil, List.append_assoc]
        rfl
    · have c2 : n < b.length := by omega
      rw [if_neg (by omega), if_pos (by omega), if_pos (by omega), if_pos (by omega), e1, ih (n + 1) k _ (by omega) (by omega) (by rw [List.length_append, List.length_singleton]; omega), rd_nat, getD_drop b n 0 c2, dropE a n (by omega), dropE a (n + 1) (by omega), xorM, xorM, List.append_assoc, show Go.bits .xor .u8 0 (b.getD n 0) = b.getD n 0 from xB_zero _ (hB _ (getD_mem b n 0 c2))]
      rfl
theorem E_spec_XorBytes (k : Nat) (a b : List Int) (ha : a.length ≤ 1048576) (hb : b.length ≤ 1048576) (hB : ∀ y ∈ b, 0 ≤ y ∧ y ≤ 255) (hk : 4194304 < k) : spec_XorBytes.f k a b = some (xorM a b) := by
  unfold spec_XorBytes.f
  exact E_spec_XorBytes_l0 a b ha hb hB (max a.length b.length) 0 k [] (by omega) (by omega) rfl

-- spec_SelectXor
theorem E_spec_SelectXor_l0 (l : List (List Int)) (s : List Int) (hl : l.length ≤ 1048576) (hs : s.length ≤ 1048576) (hw : rowOk l) : ∀ (d n k : Nat) (m : List Int), n + d = l.length → 2 * d + 4194304 < k → m.length ≤ 1048576 → (∀ y ∈ m, 0 ≤ y ∧ y ≤ 255) → spec_SelectXor.l0 k l s m (n : Int) = some (selM (l.drop n) (s.drop n) m) := by
  intro d
  induction d with
  | zero =>
    intro n k m hn hk h1 h2
    obtain ⟨k, rfl⟩ : ∃ j, k = j + 2 := ⟨k - 2, by omega⟩
    simp only [spec_SelectXor.l0, spec_SelectXor.j1]
    rw [if_neg (by omega), if_neg (by decide), List.drop_eq_nil_of_le (by omega), selM]
  | succ d ih =>
    intro n k m hn hk h1 h2
    obtain ⟨k, rfl⟩ : ∃ j, k = j + 2 := ⟨k - 2, by omega⟩
    have e1 : wrap64 ((n : Int) + 1) = ((n + 1 : Nat) : Int) := by rw [w64 (by omega) (by omega)]; omega
    have hj : spec_SelectXor.l0 (k + 2) l s m (n : Int) = spec_SelectXor.j1 (k + 1) l s m (n : Int) (decide ((n : Int) < (s.length : Int))) := by
      rw [spec_SelectXor.l0, if_pos (by omega)]
    have er : rd_L1 l (n : Int) = l.getD n [] := by simp [rd_L1]
    have hx := hw _ (getD_mem l n [] (by omega))
    rw [hj]
    simp only [spec_SelectXor.j1]
    by_cases c : n < s.length
    · rw [if_pos (by rw [decide_eq_true (by omega)]), if_pos (by omega), if_pos (by omega), rd_nat, getD_drop l n [] (by omega), getD_drop s n 0 c, selM, e1]
      by_cases c1 : s.getD n 0 = 1
      · rw [if_pos c1, if_pos c1, if_pos (by omega), er, E_spec_XorBytes k m _ h1 hx.1 hx.2 (by omega)]
        exact ih (n + 1) k _ (by omega) (by omega) (by rw [xorM_length]; omega) (xorM_byte m _ h2 hx.2)
      · rw [if_neg c1, if_neg c1]
        exact ih (n + 1) k m (by omega) (by omega) h1 h2
    · rw [if_neg (by rw [decide_eq_false (by omega)]; decide), dropE s n (by omega), selM_nil]
theorem E_spec_SelectXor (k : Nat) (l : List (List Int)) (s : List Int) (hl : l.length ≤ 1048576) (hs : s.length ≤ 1048576) (hw : rowOk l) (hk : 8388608 < k) : spec_SelectXor.f k l s = some (selM l s []) := by
  unfold spec_SelectXor.f
  exact E_spec_SelectXor_l0 l s hl hs hw l.length 0 k [] (by omega) (by omega) (by simp) (by simp)

-- impl_XorBytes
theorem E_impl_XorBytes_l0 (a b : List Int) (hb : b.length ≤ 1048576) (hab : b.length ≤ a.length) : ∀ (d n k : Nat) (m : List Int), n + d = b.length → d + 0 < k → (m.length = a.length) → (m.drop n = a.drop n) → impl_XorBytes.l0 k m b (b.length : Int) (n : Int) = some (m.take n ++ xorM (a.drop n) (b.drop n)) := by
  intro d
  induction d with
  | zero =>
    intro n k m hn hk hm hd
    obtain ⟨k, rfl⟩ : ∃ m, k = m + 1 := ⟨k - 1, by omega⟩
    simp only [impl_XorBytes.l0]
    rw [if_neg (by omega), dropE b n (by omega), xorM_nil, ← hd, List.take_append_drop]
  | succ d ih =>
    intro n k m hn hk hm hd
    obtain ⟨k, rfl⟩ : ∃ m, k = m + 1 := ⟨k - 1, by omega⟩
    have e1 : wrap64 ((n : Int) + 1) = ((n + 1 : Nat) : Int) := by rw [w64 (by omega) (by omega)]; omega
    simp only [impl_XorBytes.l0]
    have hg : m.getD n 0 = a.getD n 0 := by rw [getD_drop m n 0 (by omega), getD_drop a n 0 (by omega)] at hd; exact (List.cons.inj hd).1
    have ht : m.drop (n + 1) = a.drop (n + 1) := by rw [getD_drop m n 0 (by omega), getD_drop a n 0 (by omega)] at hd; exact (List.cons.inj hd).2
    rw [if_pos (by omega), if_pos (by omega), if_pos (by omega), if_pos (by omega), e1, ih (n + 1) k _ (by omega) (by omega) (by rw [List.length_set]; exact hm) (by rw [show (n : Int).toNat = n by omega, List.drop_set_of_lt (by omega)]; exact ht)]
    rw [show (n : Int).toNat = n by omega, take_set_snoc _ n _ (by omega), rd_nat, rd_nat, hg, getD_drop a n 0 (by omega), getD_drop b n 0 (by omega), xorM, List.append_assoc]
    rfl

theorem E_impl_XorBytes_g (k : Nat) (a b : List Int) (ha : a.length ≤ 1048576) (hab : b.length ≤ a.length) (hk : 4194304 < k) : impl_XorBytes.g k a b = some (xorM a b) := by
  unfold impl_XorBytes.g slices_Clone_byte.f
  simp only [Option.bind_some, List.nil_append]
  rw [if_pos (by simp; omega)]
  simp only [Option.bind_some]
  have := E_impl_XorBytes_l0 a b (by omega) hab b.length 0 k a (by omega) (by omega) rfl rfl
  simpa using this
theorem E_impl_XorBytes (k : Nat) (a b : List Int) (ha : a.length ≤ 1048576) (hb : b.length ≤ 1048576) (hk : 4194304 < k) : impl_XorBytes.f k a b = some (xorM a b) := by
  unfold impl_XorBytes.f
  by_cases c : (a.length : Int) < (b.length : Int)
  · rw [if_pos c, E_impl_XorBytes_g k b a hb (by omega) hk, xorM_comm]
  · rw [if_neg c, E_impl_XorBytes_g k a b ha (by omega) hk]

-- impl_SelectXor
theorem E_impl_SelectXor_l0 (l : List (List Int)) (s : List Int) (hl : l.length ≤ 1048576) (hs : s.length ≤ 1048576) (hw : rowOk l) : ∀ (d n k : Nat) (m : List Int), n + d = l.length → d + 4194304 < k → (m.length ≤ 1048576) → (∀ y ∈ m, 0 ≤ y ∧ y ≤ 255) → impl_SelectXor.l0 k s m l (l.length : Int) (n : Int) = some (selM (l.drop n) (s.drop n) m) := by
  intro d
  induction d with
  | zero =>
    intro n k m hn hk h1 h2
    obtain ⟨k, rfl⟩ : ∃ m, k = m + 1 := ⟨k - 1, by omega⟩
    simp only [impl_SelectXor.l0]
    rw [if_neg (by omega), List.drop_eq_nil_of_le (by omega), selM]
  | succ d ih =>
    intro n k m hn hk h1 h2
    obtain ⟨k, rfl⟩ : ∃ m, k = m + 1 := ⟨k - 1, by omega⟩
    have e1 : wrap64 ((n : Int) + 1) = ((n + 1 : Nat) : Int) := by rw [w64 (by omega) (by omega)]; omega
    simp only [impl_SelectXor.l0]
    have er : rd_L1 l (n : Int) = l.getD n [] := by simp [rd_L1]
    have hx := hw _ (getD_mem l n [] (by omega))
    rw [if_pos (by omega), if_pos (by omega), if_pos (by omega), e1, rd_nat, getD_drop l n [] (by omega)]
    by_cases c : n < s.length
    · rw [if_pos (by omega), getD_drop s n 0 c, selM]
      by_cases c1 : s.getD n 0 = 1
      · rw [if_pos c1, if_pos c1, er, E_impl_XorBytes k m _ h1 hx.1 (by omega)]
        exact ih (n + 1) k _ (by omega) (by omega) (by rw [xorM_length]; omega) (xorM_byte m _ h2 hx.2)
      · rw [if_neg c1, if_neg c1]
        exact ih (n + 1) k m (by omega) (by omega) h1 h2
    · rw [if_neg (by omega), dropE s n (by omega), selM_nil]
      have := ih (n + 1) k m (by omega) (by omega) h1 h2
      rw [dropE s (n + 1) (by omega), selM_nil] at this
      exact this

theorem E_impl_SelectXor (k : Nat) (l : List (List Int)) (s : List Int) (hl : l.length ≤ 1048576) (hs : s.length ≤ 1048576) (hw : rowOk l) (hk : 8388608 < k) : impl_SelectXor.f k l s = some (selM l s []) := by
  unfold impl_SelectXor.f
  exact E_impl_SelectXor_l0 l s hl hs hw l.length 0 k [] (by omega) (by omega) (by simp) (by simp)

-- AnswerQuery
theorem E_AnswerQuery (k : Nat) (l : List (List Int)) (s : List Int) (hl : l.length ≤ 1048576) (hs : s.length ≤ 1048576) (hw : rowOk l) (hk : 12582912 < k) :
    ∃ g, spec_AnswerQuery.f k l s = some g ∧ impl_AnswerQuery.f k l s = some g ∧ g.length ≤ 1048576 ∧ ∀ y ∈ g, 0 ≤ y ∧ y ≤ 255 := by
  obtain ⟨k, rfl⟩ : ∃ j, k = j + 1 := ⟨k - 1, by omega⟩
  obtain ⟨v, hv, hv1⟩ := E_spec_IsValidDatabase (k + 1) l (by omega) (by omega)
  obtain ⟨v', hv', hv1'⟩ := E_impl_IsValidDatabase (k + 1) l (by omega) (by omega)
  obtain rfl : v = v' := Bool.eq_iff_iff.2 (hv1.trans hv1'.symm)
  obtain ⟨u, hu, hu1⟩ := E_spec_IsSelection (k + 1) s (l.length : Int) (by omega) (by omega)
  obtain ⟨u', hu', hu1'⟩ := E_impl_IsSelection (k + 1) s (l.length : Int) (by omega) (by omega) (by omega)
  obtain rfl : u = u' := Bool.eq_iff_iff.2 (hu1.trans hu1'.symm)
  unfold spec_AnswerQuery.f impl_AnswerQuery.f
  rw [hv, hv']
  simp only [Option.bind_some]
  have hz : (List.replicate 24 (0 : Int)).length = 24 := by simp
  have hzb : ∀ y ∈ List.replicate 24 (0 : Int), 0 ≤ y ∧ y ≤ 255 := fun y hy => by have := (List.mem_replicate.1 hy).2; omega
  obtain ⟨q1, q2⟩ := selM_ok l s [] hw (by simp) (by simp)
  cases v with
  | false =>
    refine ⟨[], ?_, ?_, by simp, by simp⟩
    · rw [if_neg (by decide)]; simp only [spec_AnswerQuery.j0]; rw [if_pos trivial]
    · rw [if_neg (by decide)]; simp only [impl_AnswerQuery.j0]; rw [if_pos trivial]
  | true =>
    rw [hu, hu']
    simp only [Option.bind_some]
    cases u with
    | false =>
      refine ⟨[], ?_, ?_, by simp, by simp⟩
      · rw [if_pos trivial]; simp only [spec_AnswerQuery.j0]; rw [if_pos (by decide)]
      · rw [if_pos trivial]; simp only [impl_AnswerQuery.j0]; rw [if_pos (by decide)]
    | true =>
      refine ⟨xorM (List.replicate 24 0) (selM l s []), ?_, ?_, by rw [xorM_length]; omega, xorM_byte _ _ hzb q2⟩
      · rw [if_pos trivial]
        simp only [spec_AnswerQuery.j0]
        rw [if_neg (by decide), if_pos (by omega), E_spec_SelectXor k l s hl hs hw (by omega)]
        simp only [Option.bind_some]
        rw [E_spec_XorBytes k _ _ (by omega) q1 q2 (by omega)]
        rfl
      · rw [if_pos trivial]
        simp only [impl_AnswerQuery.j0]
        rw [if_neg (by decide), if_pos (by omega), E_impl_SelectXor k l s hl hs hw (by omega)]
        simp only [Option.bind_some]
        rw [E_impl_XorBytes k _ _ (by omega) q1 (by omega)]
        rfl

-- spec_EqualBytes
theorem bytes_inj : ∀ (l m : List Int), (∀ x ∈ l, 0 ≤ x ∧ x ≤ 255) → (∀ x ∈ m, 0 ≤ x ∧ x ≤ 255) → (l.map fun n => UInt8.ofNat n.toNat) = (m.map fun n => UInt8.ofNat n.toNat) → l = m := by
  intro l
  induction l with
  | nil =>
    intro m _ _ h
    cases m with
    | nil => rfl
    | cons y m => simp at h
  | cons x l ih =>
    intro m hl hm h
    cases m with
    | nil => simp at h
    | cons y m =>
      simp only [List.map_cons, List.cons.injEq] at h
      have hx := hl x List.mem_cons_self
      have hy := hm y List.mem_cons_self
      have e : x = y := by
        have := congrArg UInt8.toNat h.1
        rw [UInt8.toNat_ofNat', UInt8.toNat_ofNat'] at this
        omega
      rw [e, ih m (fun z hz => hl z (List.mem_cons_of_mem _ hz)) (fun z hz => hm z (List.mem_cons_of_mem _ hz)) h.2]
theorem E_spec_EqualBytes (l m : List Int) (hl : ∀ x ∈ l, 0 ≤ x ∧ x ≤ 255) (hm : ∀ x ∈ m, 0 ≤ x ∧ x ≤ 255) : spec_EqualBytes.f l m = some (decide (l = m)) := by
  unfold spec_EqualBytes.f
  rw [ByteArray.toList_eq, ByteArray.toList_eq, strOfNums_data, strOfNums_data]
  congr 1
  by_cases h : l = m
  · rw [h]
    simp
  · rw [decide_eq_false h, beq_eq_false_iff_ne]
    exact fun e => h (bytes_inj l m hl hm e)

-- slices_Equal_byte
theorem E_slices_Equal_byte_l0 (l m : List Int) (hl : l.length ≤ 2097152) (hm : l.length = m.length) : ∀ (d n k : Nat) , n + d = l.length → d + 0 < k → slices_Equal_byte.l0 k l m (l.length : Int) (n : Int) = some (decide (l.drop n = m.drop n)) := by
  intro d
  induction d with
  | zero =>
    intro n k  hn hk 
    obtain ⟨k, rfl⟩ : ∃ m, k = m + 1 := ⟨k - 1, by omega⟩
    simp only [slices_Equal_byte.l0]
    rw [if_neg (by omega), List.drop_eq_nil_of_le (by omega), List.drop_eq_nil_of_le (by omega)]
    rfl
  | succ d ih =>
    intro n k  hn hk 
    obtain ⟨k, rfl⟩ : ∃ m, k = m + 1 := ⟨k - 1, by omega⟩
    have e1 : wrap64 ((n : Int) + 1) = ((n + 1 : Nat) : Int) := by rw [w64 (by omega) (by omega)]; omega
    simp only [slices_Equal_byte.l0]
    rw [if_pos (by omega), if_pos (by omega), if_pos (by omega), if_pos (by omega), e1, rd_nat, rd_nat, getD_drop l n 0 (by omega), getD_drop m n 0 (by omega)]
    by_cases h : l.getD n 0 = m.getD n 0
    · rw [if_pos h, ih (n + 1) k (by omega) (by omega), h]
      simp only [List.cons.injEq, true_and]
    · rw [if_neg h, decide_eq_false (fun e => h (List.cons.inj e).1)]

theorem E_slices_Equal_byte (k : Nat) (l m : List Int) (hk : 4194304 < k) (hl : l.length ≤ 2097152) : slices_Equal_byte.f k l m = some (decide (l = m)) := by
  unfold slices_Equal_byte.f
  by_cases h : (l.length : Int) = (m.length : Int)
  · rw [if_pos h]
    have := E_slices_Equal_byte_l0 l m hl (by omega) l.length 0 k (by omega) (by omega)
    simpa using this
  · rw [if_neg h]
    have : l ≠ m := fun e => h (by rw [e])
    simp [this]

-- FnExactIsFalseAnswer
theorem FnExactIsFalseAnswer : laws_FnExactIsFalseAnswer.Pure := by
  intro x d a b l m c hx hd ha hb hl hm hc
  have hd1 := hd.1
  have hwd : ∀ x ∈ d, x.length ≤ 9223372036854775807 := fun x hx => by have := (hd.2 x hx).1; unfold maxLen at this; omega
  have hl1 := hl.1
  have hm1 := hm.1
  unfold maxLen at hd1 hl1 hm1
  refine ⟨20971520, ?_⟩
  unfold laws_FnExactIsFalseAnswer.f
  obtain ⟨v, hv, hv1, hv2⟩ := Z_laws_szDatabase 20971520 d 1048576 (by omega) (by omega) hwd (by omega) (by omega)
  rw [hv]
  simp only [Option.bind_some]
  by_cases cc : v < 0
  · rw [if_pos cc]
  · have hs := hv2 (by omega)
    have hs0 := sumLen_nonneg d
    obtain ⟨u, hu, hu2⟩ := Z_laws_szSignedAnswer a b l m c v (by omega) (by omega) (by omega) (by omega)
    rw [if_neg cc, hu]
    simp only [Option.bind_some]
    by_cases cu : u < 0
    · rw [if_pos cu]
    · obtain ⟨h2, h3, h4⟩ := hu2 (by omega)
      have hs : d.length + sumLen d ≤ 1048576 := by omega
      have hw : rowOk d := fun x hx => ⟨by have := mem_sumLen d x hx; omega, fun y hy => wf8 ((hd.2 x hx).2 y hy)⟩
      have hmb : ∀ y ∈ m, 0 ≤ y ∧ y ≤ 255 := fun y hy => wf8 (hm.2 y hy)
      obtain ⟨g, e1, e2, hg1, hg2⟩ := E_AnswerQuery 20971520 d l (by omega) (by omega) hw (by omega)
      have f1 : spec_IsFalseAnswer.f 20971520 x d a b l m c = some (if c = ansM x a b l m then !decide (m = g) else false) := by
        unfold spec_IsFalseAnswer.f spec_VerifyAnswer.f
        rw [E_spec_AnswerMAC _ x a b l m c (by omega) (by omega) (by omega)]
        simp only [Option.bind_some]
        by_cases q : c = ansM x a b l m
        · rw [if_pos (by rw [beq_iff_eq]; exact q), if_pos q, e1]
          simp only [Option.bind_some]
          rw [E_spec_EqualBytes _ _ hmb hg2]
          rfl
        · rw [if_neg (by rw [beq_iff_eq]; exact q), if_neg q]
      have f2 : impl_IsFalseAnswer.f 20971520 x d a b l m c = some (if c = ansM x a b l m then !decide (m = g) else false) := by
        unfold impl_IsFalseAnswer.f impl_VerifyAnswer.f
        rw [E_impl_AnswerMAC _ x a b l m c (by omega) (by omega) (by omega)]
        simp only [Option.bind_some]
        by_cases q : c = ansM x a b l m
        · rw [if_pos (by rw [beq_iff_eq]; exact q), if_pos q, e2]
          unfold impl_EqualBytes.f
          simp only [Option.bind_some]
          rw [E_slices_Equal_byte _ _ _ (by omega) (by omega)]
          rfl
        · rw [if_neg (by rw [beq_iff_eq]; exact q), if_neg q]
      rw [if_neg cu, E_laws_toDatabase _ d (by omega) hs, E_laws_toSignedAnswer _ a b l m c (by omega) (by omega) (by omega)]
      simp only [Option.bind_some]
      rw [f1, f2]
      simp only [Option.bind_some]
      rw [if_neg (by simp), E_laws_eqDatabase _ d (by omega) hs, E_laws_eqSignedAnswer _ a b l m c (by omega) (by omega) (by omega)]
      simp
end Go.Proofs.Ytcjgeekeohbnmaa.Pure
