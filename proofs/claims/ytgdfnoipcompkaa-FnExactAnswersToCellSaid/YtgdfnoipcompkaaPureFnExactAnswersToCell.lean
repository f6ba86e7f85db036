/- FnExactAnswersToCell: what the law's functions compute, over numbers and lists, answers true for every input that its bounds let in. -/
import Derived.Test.YtgdfnoipcompkaaM
import Derived.Test.YtgdfnoipcompkaaQxFAANGH
namespace Go.Proofs.Ytgdfnoipcompkaa.Pure
open Go.RowKit Go.Proofs.Ytgdfnoipcompkaa.M Go.Proofs.Ytgdfnoipcompkaa.Q Go.Proofs.YtgdfnoipcompkaaW.PrintWords Go.Proofs.YtgdfnoipcompkaaW.PrintLast
set_option linter.unusedVariables false
set_option linter.unusedSimpArgs false
-- laws_toIntS
theorem E_laws_toIntS_l0 (l : List Int) (hl : l.length ≤ 2097152) : ∀ (d n k : Nat) (m : List Int), n + d = l.length → d + 0 < k → (m.length = l.length) → laws_toIntS.l0 k l m (n : Int) = some (m.take n ++ l.drop n) := by
  intro d
  induction d with
  | zero =>
    intro n k m hn hk hm
    obtain ⟨k, rfl⟩ : ∃ m, k = m + 1 := ⟨k - 1, by omega⟩
    simp only [laws_toIntS.l0]
    rw [if_neg (by omega), List.drop_eq_nil_of_le (by omega), List.append_nil, List.take_of_length_le (by omega)]
  | succ d ih =>
    intro n k m hn hk hm
    obtain ⟨k, rfl⟩ : ∃ m, k = m + 1 := ⟨k - 1, by omega⟩
    have e1 : wrap64 ((n : Int) + 1) = ((n + 1 : Nat) : Int) := by rw [w64 (by omega) (by omega)]; omega
    simp only [laws_toIntS.l0]
    rw [if_pos (by omega), if_pos (by omega), if_pos (by omega), e1, rd_nat]
    rw [ih (n + 1) k _ (by omega) (by omega) (by simp; omega), getD_drop l n 0 (by omega)]
    rw [show (n : Int).toNat = n by omega, take_set_snoc _ n _ (by omega), List.append_assoc]
    rfl

theorem E_laws_toIntS (k : Nat) (l : List Int) (hk : 4194304 < k) (hl : l.length ≤ 2097152) : laws_toIntS.f k l = some l := by
  unfold laws_toIntS.f
  rw [if_pos (by omega), if_pos (by omega)]
  have := E_laws_toIntS_l0 l hl l.length 0 k (List.replicate ((l.length : Int) : Int).toNat 0) (by omega) (by omega) (by simp)
  simpa using this

-- laws_eqIntS
theorem E_laws_eqIntS_l0 (l m : List Int) (hl : l.length ≤ 2097152) (hm : l.length = m.length) : ∀ (d n k : Nat) , n + d = l.length → d + 0 < k → laws_eqIntS.l0 k l m (n : Int) = some (decide (l.drop n = m.drop n)) := by
  intro d
  induction d with
  | zero =>
    intro n k  hn hk 
    obtain ⟨k, rfl⟩ : ∃ m, k = m + 1 := ⟨k - 1, by omega⟩
    simp only [laws_eqIntS.l0]
    rw [if_neg (by omega), List.drop_eq_nil_of_le (by omega), List.drop_eq_nil_of_le (by omega)]
    rfl
  | succ d ih =>
    intro n k  hn hk 
    obtain ⟨k, rfl⟩ : ∃ m, k = m + 1 := ⟨k - 1, by omega⟩
    have e1 : wrap64 ((n : Int) + 1) = ((n + 1 : Nat) : Int) := by rw [w64 (by omega) (by omega)]; omega
    simp only [laws_eqIntS.l0]
    rw [if_pos (by omega), if_pos (by omega), if_pos (by omega), e1, rd_nat, rd_nat, getD_drop l n 0 (by omega), getD_drop m n 0 (by omega)]
    by_cases h : l.getD n 0 = m.getD n 0
    · rw [if_pos h, ih (n + 1) k (by omega) (by omega), h]
      simp only [List.cons.injEq, true_and]
    · rw [if_neg h, decide_eq_false (fun e => h (List.cons.inj e).1)]

theorem E_laws_eqIntS (k : Nat) (l m : List Int) (hk : 4194304 < k) (hl : l.length ≤ 2097152) : laws_eqIntS.f k l m = some (decide (l = m)) := by
  unfold laws_eqIntS.f
  by_cases h : (l.length : Int) = (m.length : Int)
  · rw [if_pos h]
    have := E_laws_eqIntS_l0 l m hl (by omega) l.length 0 k (by omega) (by omega)
    simpa using this
  · rw [if_neg h]
    have : l ≠ m := fun e => h (by rw [e])
    simp [this]

-- laws_toByteS
theorem E_laws_toByteS_l0 (l : List Int) (hl : l.length ≤ 2097152) : ∀ (d n k : Nat) (m : List Int), n + d = l.length → d + 0 < k → (m.length = l.length) → laws_toByteS.l0 k l m (n : Int) = some (m.take n ++ l.drop n) := by
  intro d
  induction d with
  | zero =>
    intro n k m hn hk hm
    obtain ⟨k, rfl⟩ : ∃ m, k = m + 1 := ⟨k - 1, by omega⟩
    simp only [laws_toByteS.l0]
    rw [if_neg (by omega), List.drop_eq_nil_of_le (by omega), List.append_nil, List.take_of_length_le (by omega)]
  | succ d ih =>
    intro n k m hn hk hm
    obtain ⟨k, rfl⟩ : ∃ m, k = m + 1 := ⟨k - 1, by omega⟩
    have e1 : wrap64 ((n : Int) + 1) = ((n + 1 : Nat) : Int) := by rw [w64 (by omega) (by omega)]; omega
    simp only [laws_toByteS.l0]
    rw [if_pos (by omega), if_pos (by omega), if_pos (by omega), e1, rd_nat]
    rw [ih (n + 1) k _ (by omega) (by omega) (by simp; omega), getD_drop l n 0 (by omega)]
    rw [show (n : Int).toNat = n by omega, take_set_snoc _ n _ (by omega), List.append_assoc]
    rfl

theorem E_laws_toByteS (k : Nat) (l : List Int) (hk : 4194304 < k) (hl : l.length ≤ 2097152) : laws_toByteS.f k l = some l := by
  unfold laws_toByteS.f
  rw [if_pos (by omega), if_pos (by omega)]
  have := E_laws_toByteS_l0 l hl l.length 0 k (List.replicate ((l.length : Int) : Int).toNat 0) (by omega) (by omega) (by simp)
  simpa using this

-- laws_eqByteS
theorem E_laws_eqByteS_l0 (l m : List Int) (hl : l.length ≤ 2097152) (hm : l.length = m.length) : ∀ (d n k : Nat) , n + d = l.length → d + 0 < k → laws_eqByteS.l0 k l m (n : Int) = some (decide (l.drop n = m.drop n)) := by
  intro d
  induction d with
  | zero =>
    intro n k  hn hk 
    obtain ⟨k, rfl⟩ : ∃ m, k = m + 1 := ⟨k - 1, by omega⟩
    simp only [laws_eqByteS.l0]
    rw [if_neg (by omega), List.drop_eq_nil_of_le (by omega), List.drop_eq_nil_of_le (by omega)]
    rfl
  | succ d ih =>
    intro n k  hn hk 
    obtain ⟨k, rfl⟩ : ∃ m, k = m + 1 := ⟨k - 1, by omega⟩
    have e1 : wrap64 ((n : Int) + 1) = ((n + 1 : Nat) : Int) := by rw [w64 (by omega) (by omega)]; omega
    simp only [laws_eqByteS.l0]
    rw [if_pos (by omega), if_pos (by omega), if_pos (by omega), e1, rd_nat, rd_nat, getD_drop l n 0 (by omega), getD_drop m n 0 (by omega)]
    by_cases h : l.getD n 0 = m.getD n 0
    · rw [if_pos h, ih (n + 1) k (by omega) (by omega), h]
      simp only [List.cons.injEq, true_and]
    · rw [if_neg h, decide_eq_false (fun e => h (List.cons.inj e).1)]

theorem E_laws_eqByteS (k : Nat) (l m : List Int) (hk : 4194304 < k) (hl : l.length ≤ 2097152) : laws_eqByteS.f k l m = some (decide (l = m)) := by
  unfold laws_eqByteS.f
  by_cases h : (l.length : Int) = (m.length : Int)
  · rw [if_pos h]
    have := E_laws_eqByteS_l0 l m hl (by omega) l.length 0 k (by omega) (by omega)
    simpa using this
  · rw [if_neg h]
    have : l ≠ m := fun e => h (by rw [e])
    simp [this]

-- Z_szIntS
theorem Z_laws_szIntS (l : List Int) (n : Int) (hl : l.length ≤ 9223372036854775807) (h0 : 0 ≤ n) (h1 : n ≤ 1048576) : ∃ v, laws_szIntS.f l n = some v ∧ -1 ≤ v ∧ (0 ≤ v → v ≤ n ∧ (l.length : Int) ≤ n) := by
  unfold laws_szIntS.f
  rw [w64 (by omega) (by omega)]
  by_cases h : (l.length : Int) ≤ n
  · rw [if_neg (by omega)]
    exact ⟨_, rfl, by omega, fun _ => by omega⟩
  · rw [if_pos (by omega)]
    exact ⟨_, rfl, by omega, fun h => absurd h (by omega)⟩

-- Z_szByteS
theorem Z_laws_szByteS (l : List Int) (n : Int) (hl : l.length ≤ 9223372036854775807) (h0 : 0 ≤ n) (h1 : n ≤ 1048576) : ∃ v, laws_szByteS.f l n = some v ∧ -1 ≤ v ∧ (0 ≤ v → v ≤ n ∧ (l.length : Int) ≤ n) := by
  unfold laws_szByteS.f
  rw [w64 (by omega) (by omega)]
  by_cases h : (l.length : Int) ≤ n
  · rw [if_neg (by omega)]
    exact ⟨_, rfl, by omega, fun _ => by omega⟩
  · rw [if_pos (by omega)]
    exact ⟨_, rfl, by omega, fun h => absurd h (by omega)⟩

-- sumLen
def sumLen (ls : List (List Int)) : Int := (ls.map (fun l => (l.length : Int))).foldl (· + ·) 0
theorem foldl_add (l : List Int) : ∀ (a : Int), l.foldl (· + ·) a = a + l.foldl (· + ·) 0 := by
  induction l with
  | nil => intro a; simp
  | cons x l ih => intro a; simp only [List.foldl_cons]; rw [ih (a + x), ih (0 + x)]; omega
theorem sumLen_cons (l : List Int) (ls : List (List Int)) : sumLen (l :: ls) = l.length + sumLen ls := by
  unfold sumLen
  simp only [List.map_cons, List.foldl_cons]
  rw [foldl_add]
  omega
theorem sumLen_nonneg (ls : List (List Int)) : 0 ≤ sumLen ls := by
  induction ls with
  | nil => simp [sumLen]
  | cons l ls ih => rw [sumLen_cons]; omega
theorem sumLen_append (l m : List (List Int)) : sumLen (l ++ m) = sumLen l + sumLen m := by
  induction l with
  | nil => simp [sumLen]
  | cons x l ih => rw [List.cons_append, sumLen_cons, sumLen_cons, ih]; omega
theorem mem_sumLen (l : List (List Int)) : ∀ x ∈ l, (x.length : Int) ≤ sumLen l := by
  induction l with
  | nil => intro x hx; exact absurd hx (by simp)
  | cons y l ih =>
    intro x hx
    rw [sumLen_cons]
    rcases List.mem_cons.1 hx with rfl | hx
    · have := sumLen_nonneg l; omega
    · have := ih x hx; omega

-- btiM
def btiM (l : List Int) : List Int := (l.length : Int) :: l.map wrap64
theorem btiM_length (l : List Int) : (btiM l).length = l.length + 1 := by simp [btiM]
theorem sumLen_bti (l : List (List Int)) : sumLen (l.map btiM) = l.length + sumLen l := by
  induction l with
  | nil => simp [sumLen]
  | cons x l ih => rw [List.map_cons, sumLen_cons, sumLen_cons, ih, btiM_length, List.length_cons]; omega
theorem flatten_sumLen (l : List (List Int)) : (l.flatten.length : Int) = sumLen l := by
  induction l with
  | nil => simp [sumLen]
  | cons x l ih => rw [List.flatten_cons, List.length_append, sumLen_cons, ← ih]; omega
def dbM (l : List (List Int)) : Int := hashM ((l.length : Int) :: (l.map btiM).flatten)
def shareM (a b : Int) (l : List (List Int)) : Int := hashM [179, a, b, dbM l]

-- signed
theorem Z_laws_szSignedAnswer (a b : Int) (l m : List Int) (c n : Int) (hl : l.length ≤ 9223372036854775807) (hm : m.length ≤ 9223372036854775807) (h0 : 0 ≤ n) (h1 : n ≤ 1048576) :
    ∃ v, laws_szSignedAnswer.f a b l m c n = some v ∧ (0 ≤ v → (l.length : Int) ≤ n ∧ (m.length : Int) ≤ n ∧ v ≤ n) := by
  unfold laws_szSignedAnswer.f
  obtain ⟨v, hv, hv1, hv2⟩ := Z_laws_szIntS l n hl h0 h1
  rw [hv]
  simp only [Option.bind_some]
  by_cases cc : v < 0
  · rw [if_pos cc]
    exact ⟨-1, rfl, fun h => absurd h (by omega)⟩
  · rw [if_neg cc]
    have h2 := hv2 (by omega)
    obtain ⟨u, hu, hu1, hu2⟩ := Z_laws_szByteS m v hm (by omega) (by omega)
    rw [hu]
    simp only [Option.bind_some]
    by_cases c2 : u < 0
    · rw [if_pos c2]
      exact ⟨-1, rfl, fun h => absurd h (by omega)⟩
    · rw [if_neg c2]
      have h3 := hu2 (by omega)
      exact ⟨u, rfl, fun _ => by omega⟩
theorem E_laws_toSignedAnswer (k : Nat) (a b : Int) (l m : List Int) (c : Int) (hk : 4194304 < k) (hl : l.length ≤ 2097152) (hm : m.length ≤ 2097152) : laws_toSignedAnswer.f k a b l m c = some (a, b, l, m, c) := by
  unfold laws_toSignedAnswer.f
  rw [E_laws_toIntS k l hk hl, E_laws_toByteS k m hk hm]
  rfl
theorem E_laws_eqSignedAnswer (k : Nat) (a b : Int) (l m : List Int) (c : Int) (hk : 4194304 < k) (hl : l.length ≤ 2097152) (hm : m.length ≤ 2097152) : laws_eqSignedAnswer.f k a b l m c a b l m c = some true := by
  unfold laws_eqSignedAnswer.f
  rw [if_pos rfl, if_pos rfl, E_laws_eqIntS k l l hk hl, E_laws_eqByteS k m m hk hm]
  simp
def ansM (k a b : Int) (l m : List Int) : Int := khashM k ([191, a, b, (l.length : Int)] ++ l ++ btiM m)

-- signedS
def saM (x : S154) : S155 := ⟨x.f0, x.f1, x.f2, x.f3, x.f4⟩
def saLen : List S155 → Int
  | [] => 0
  | x :: l => (x.f2.length : Int) + x.f3.length + saLen l
theorem saLen_nonneg : ∀ (l : List S155), 0 ≤ saLen l
  | [] => by simp [saLen]
  | x :: l => by have := saLen_nonneg l; rw [saLen]; omega
theorem mem_saLen : ∀ (l : List S155), ∀ x ∈ l, (x.f2.length : Int) + x.f3.length ≤ saLen l
  | [] => fun x hx => absurd hx (by simp)
  | y :: l => by
    intro x hx
    have h0 := saLen_nonneg l
    rw [saLen]
    rcases List.mem_cons.1 hx with rfl | hx
    · omega
    · have := mem_saLen l x hx; omega
theorem Z_laws_szByteSx (l : List Int) (n : Int) (hl : l.length ≤ 9223372036854775807) (h0 : 0 ≤ n) (h1 : n ≤ 1048576) : laws_szByteS.f l n = some (if n - (l.length : Int) < 0 then -1 else n - (l.length : Int)) := by
  unfold laws_szByteS.f
  rw [w64 (by omega) (by omega)]
  by_cases h : n - (l.length : Int) < 0
  · rw [if_pos h, if_pos h]
  · rw [if_neg h, if_neg h]
theorem Z_laws_szIntSx (l : List Int) (n : Int) (hl : l.length ≤ 9223372036854775807) (h0 : 0 ≤ n) (h1 : n ≤ 1048576) : laws_szIntS.f l n = some (if n - (l.length : Int) < 0 then -1 else n - (l.length : Int)) := by
  unfold laws_szIntS.f
  rw [w64 (by omega) (by omega)]
  by_cases h : n - (l.length : Int) < 0
  · rw [if_pos h, if_pos h]
  · rw [if_neg h, if_neg h]
theorem Z_laws_szSignedAnswerx (x : S154) (n : Int) (hl : x.f2.length ≤ 9223372036854775807) (hm : x.f3.length ≤ 9223372036854775807) (h0 : 0 ≤ n) (h1 : n ≤ 1048576) :
    ∃ v, laws_szSignedAnswer.f x.f0 x.f1 x.f2 x.f3 x.f4 n = some v ∧ -1 ≤ v ∧ (0 ≤ v → v + x.f2.length + x.f3.length = n) := by
  unfold laws_szSignedAnswer.f
  rw [Z_laws_szIntSx _ n hl h0 h1]
  simp only [Option.bind_some]
  by_cases c : n - (x.f2.length : Int) < 0
  · rw [if_pos c, if_pos (by omega)]
    exact ⟨-1, rfl, by omega, fun h => absurd h (by omega)⟩
  · rw [if_neg c, if_neg c, Z_laws_szByteSx _ _ hm (by omega) (by omega)]
    simp only [Option.bind_some]
    by_cases c2 : n - (x.f2.length : Int) - (x.f3.length : Int) < 0
    · rw [if_pos c2, if_pos (by omega)]
      exact ⟨-1, rfl, by omega, fun h => absurd h (by omega)⟩
    · rw [if_neg c2, if_neg c2]
      exact ⟨_, rfl, by omega, fun _ => by omega⟩
theorem Z_laws_szSignedAnswerS_l0 (l : List S154) (hl : l.length ≤ 1048576) (hw : ∀ x ∈ l, x.f2.length ≤ 9223372036854775807 ∧ x.f3.length ≤ 9223372036854775807) : ∀ (d n k : Nat) (x : Int), n + d = l.length → d + 0 < k → (0 ≤ x) → (x ≤ 1048576) → ∃ v, laws_szSignedAnswerS.l0 k l x (n : Int) = some v ∧ -1 ≤ v ∧ (0 ≤ v → v + saLen ((l.drop n).map saM) = x) := by
  intro d
  induction d with
  | zero =>
    intro n k x hn hk h0 h1
    obtain ⟨k, rfl⟩ : ∃ m, k = m + 1 := ⟨k - 1, by omega⟩
    simp only [laws_szSignedAnswerS.l0]
    rw [if_neg (by omega), List.drop_eq_nil_of_le (by omega)]
    exact ⟨x, rfl, by omega, fun _ => by simp [saLen]⟩
  | succ d ih =>
    intro n k x hn hk h0 h1
    obtain ⟨k, rfl⟩ : ∃ m, k = m + 1 := ⟨k - 1, by omega⟩
    have e1 : wrap64 ((n : Int) + 1) = ((n + 1 : Nat) : Int) := by rw [w64 (by omega) (by omega)]; omega
    simp only [laws_szSignedAnswerS.l0]
    have er : rd_T154 l (n : Int) = l.getD n z154 := by simp [rd_T154]
    have hm := hw _ (getD_mem l n z154 (by omega))
    rw [if_pos (by omega), if_pos (by omega), er]
    obtain ⟨u, hu, hu1, hu2⟩ := Z_laws_szSignedAnswerx (l.getD n z154) x hm.1 hm.2 h0 h1
    rw [hu]
    simp only [Option.bind_some]
    by_cases c : u < 0
    · rw [if_pos c]
      exact ⟨-1, rfl, by omega, fun h => absurd h (by omega)⟩
    · have h2 := hu2 (by omega)
      rw [if_neg c, e1]
      obtain ⟨v, hv, hv1, hv2⟩ := ih (n + 1) k u (by omega) (by omega) (by omega) (by omega)
      refine ⟨v, hv, hv1, fun h => ?_⟩
      have := hv2 h
      rw [getD_drop l n z154 (by omega), List.map_cons, saLen]
      show v + ((l.getD n z154).f2.length + (l.getD n z154).f3.length + saLen ((l.drop (n + 1)).map saM) : Int) = x
      omega

theorem Z_laws_szSignedAnswerS (k : Nat) (l : List S154) (n : Int) (hk : 4194304 < k) (hl : l.length ≤ 9223372036854775807) (hw : ∀ x ∈ l, x.f2.length ≤ 9223372036854775807 ∧ x.f3.length ≤ 9223372036854775807) (h0 : 0 ≤ n) (h1 : n ≤ 1048576) :
    ∃ v, laws_szSignedAnswerS.f k l n = some v ∧ -1 ≤ v ∧ (0 ≤ v → v + l.length + saLen (l.map saM) = n) := by
  unfold laws_szSignedAnswerS.f
  rw [w64 (by omega) (by omega)]
  by_cases h : (l.length : Int) ≤ n
  · rw [if_neg (by omega)]
    obtain ⟨v, hv, hv1, hv2⟩ := Z_laws_szSignedAnswerS_l0 l (by omega) hw l.length 0 k (n - l.length) (by omega) (by omega) (by omega) (by omega)
    exact ⟨v, hv, hv1, fun h' => by have := hv2 h'; rw [List.drop_zero] at this; omega⟩
  · rw [if_pos (by omega)]
    exact ⟨-1, rfl, by omega, fun h => absurd h (by omega)⟩
theorem E_laws_toSignedAnswerS_l0 (l : List S154) (hl : l.length ≤ 1048576) (hw : ∀ x ∈ l, x.f2.length ≤ 2097152 ∧ x.f3.length ≤ 2097152) : ∀ (d n k : Nat) (m : List S155), n + d = l.length → d + 4194304 < k → (m.length = l.length) → laws_toSignedAnswerS.l0 k l m (n : Int) = some (m.take n ++ (l.drop n).map saM) := by
  intro d
  induction d with
  | zero =>
    intro n k m hn hk hm
    obtain ⟨k, rfl⟩ : ∃ m, k = m + 1 := ⟨k - 1, by omega⟩
    simp only [laws_toSignedAnswerS.l0]
    rw [if_neg (by omega), List.drop_eq_nil_of_le (by omega), List.take_of_length_le (by omega), List.map_nil, List.append_nil]
  | succ d ih =>
    intro n k m hn hk hm
    obtain ⟨k, rfl⟩ : ∃ m, k = m + 1 := ⟨k - 1, by omega⟩
    have e1 : wrap64 ((n : Int) + 1) = ((n + 1 : Nat) : Int) := by rw [w64 (by omega) (by omega)]; omega
    simp only [laws_toSignedAnswerS.l0]
    have er : rd_T154 l (n : Int) = l.getD n z154 := by simp [rd_T154]
    have hy := hw _ (getD_mem l n z154 (by omega))
    rw [if_pos (by omega), if_pos (by omega), er, E_laws_toSignedAnswer k _ _ _ _ _ (by omega) hy.1 hy.2]
    simp only [Option.bind_some]
    rw [if_pos (by omega), e1, ih (n + 1) k _ (by omega) (by omega) (by rw [List.length_set]; omega)]
    rw [show (n : Int).toNat = n by omega, take_set_snoc _ n _ (by omega), List.append_assoc, getD_drop l n z154 (by omega)]
    rfl

theorem E_laws_toSignedAnswerS (k : Nat) (l : List S154) (hk : 8388608 < k) (hl : l.length ≤ 1048576) (hw : ∀ x ∈ l, x.f2.length ≤ 2097152 ∧ x.f3.length ≤ 2097152) : laws_toSignedAnswerS.f k l = some (l.map saM) := by
  unfold laws_toSignedAnswerS.f
  rw [if_pos (by omega), if_pos (by omega)]
  have := E_laws_toSignedAnswerS_l0 l hl hw l.length 0 k (List.replicate ((l.length : Int) : Int).toNat z155) (by omega) (by omega) (by simp)
  rw [show ((0 : Nat) : Int) = 0 from rfl] at this
  rw [this]
  simp
theorem E_laws_eqSignedAnswerS_l0 (l : List S155) (hl : l.length ≤ 1048576) (hw : ∀ x ∈ l, x.f2.length ≤ 2097152 ∧ x.f3.length ≤ 2097152) : ∀ (d n k : Nat) , n + d = l.length → d + 4194304 < k → laws_eqSignedAnswerS.l0 k l l (n : Int) = some true := by
  intro d
  induction d with
  | zero =>
    intro n k  hn hk 
    obtain ⟨k, rfl⟩ : ∃ m, k = m + 1 := ⟨k - 1, by omega⟩
    simp only [laws_eqSignedAnswerS.l0]
    rw [if_neg (by omega)]
  | succ d ih =>
    intro n k  hn hk 
    obtain ⟨k, rfl⟩ : ∃ m, k = m + 1 := ⟨k - 1, by omega⟩
    have e1 : wrap64 ((n : Int) + 1) = ((n + 1 : Nat) : Int) := by rw [w64 (by omega) (by omega)]; omega
    simp only [laws_eqSignedAnswerS.l0]
    have er : rd_T155 l (n : Int) = l.getD n z155 := by simp [rd_T155]
    have hy := hw _ (getD_mem l n z155 (by omega))
    rw [if_pos (by omega), if_pos (by omega), if_pos (by omega), er, E_laws_eqSignedAnswer k _ _ _ _ _ (by omega) hy.1 hy.2]
    simp only [Option.bind_some]
    rw [if_pos trivial, e1, ih (n + 1) k (by omega) (by omega)]

theorem E_laws_eqSignedAnswerS (k : Nat) (l : List S155) (hk : 8388608 < k) (hl : l.length ≤ 1048576) (hw : ∀ x ∈ l, x.f2.length ≤ 2097152 ∧ x.f3.length ≤ 2097152) : laws_eqSignedAnswerS.f k l l = some true := by
  unfold laws_eqSignedAnswerS.f
  rw [if_pos rfl]
  exact E_laws_eqSignedAnswerS_l0 l hl hw l.length 0 k (by omega) (by omega)

-- markBo
theorem E_laws_markByteS_l0 (l : List Int) (hl : l.length ≤ 2097152) : ∀ (d n k : Nat) (m : List Int) (x : Int), n + d = l.length → d + 0 < k → (m.length = l.length) → (0 ≤ x) → (x + (l.length - n : Nat) ≤ 4194304) → laws_markByteS.l0 k m x (n : Int) = some ((x + (l.length - n : Nat), m.take n ++ markB x (l.length - n))) := by
  intro d
  induction d with
  | zero =>
    intro n k m x hn hk hm h0 h1
    obtain ⟨k, rfl⟩ : ∃ m, k = m + 1 := ⟨k - 1, by omega⟩
    simp only [laws_markByteS.l0]
    have e : l.length - n = 0 := by omega
    rw [if_neg (by omega), e]
    simp only [markB, List.append_nil]
    rw [List.take_of_length_le (by omega)]
    simp
  | succ d ih =>
    intro n k m x hn hk hm h0 h1
    obtain ⟨k, rfl⟩ : ∃ m, k = m + 1 := ⟨k - 1, by omega⟩
    have e1 : wrap64 ((n : Int) + 1) = ((n + 1 : Nat) : Int) := by rw [w64 (by omega) (by omega)]; omega
    simp only [laws_markByteS.l0]
    have e : l.length - n = (l.length - (n + 1)) + 1 := by omega
    rw [if_pos (by omega), if_pos (by omega), e1, w64 (x := x + 1) (by omega) (by omega)]
    rw [ih (n + 1) k _ _ (by omega) (by omega) (by simp; omega) (by omega) (by omega), e]
    simp only [markB]
    rw [show (n : Int).toNat = n by omega, take_set_snoc _ n _ (by omega), List.append_assoc]
    rw [show x + 1 + ((l.length - (n + 1) : Nat) : Int) = x + ((l.length - (n + 1) + 1 : Nat) : Int) by omega]
    rfl

theorem E_laws_markByteS (k : Nat) (l : List Int) (x : Int) (hk : 4194304 < k) (hl : l.length ≤ 2097152) (h0 : 0 ≤ x) (h1 : x ≤ 2097152) : laws_markByteS.f k l x = some (x + l.length, markB x l.length) := by
  unfold laws_markByteS.f
  have := E_laws_markByteS_l0 l hl l.length 0 k l x (by omega) (by omega) rfl h0 (by omega)
  simpa using this

-- markIo
theorem E_laws_markIntS_l0 (l : List Int) (hl : l.length ≤ 2097152) : ∀ (d n k : Nat) (m : List Int) (x : Int), n + d = l.length → d + 0 < k → (m.length = l.length) → (0 ≤ x) → (x + (l.length - n : Nat) ≤ 4194304) → laws_markIntS.l0 k m x (n : Int) = some ((x + (l.length - n : Nat), m.take n ++ markI x (l.length - n))) := by
  intro d
  induction d with
  | zero =>
    intro n k m x hn hk hm h0 h1
    obtain ⟨k, rfl⟩ : ∃ m, k = m + 1 := ⟨k - 1, by omega⟩
    simp only [laws_markIntS.l0]
    have e : l.length - n = 0 := by omega
    rw [if_neg (by omega), e]
    simp only [markI, List.append_nil]
    rw [List.take_of_length_le (by omega)]
    simp
  | succ d ih =>
    intro n k m x hn hk hm h0 h1
    obtain ⟨k, rfl⟩ : ∃ m, k = m + 1 := ⟨k - 1, by omega⟩
    have e1 : wrap64 ((n : Int) + 1) = ((n + 1 : Nat) : Int) := by rw [w64 (by omega) (by omega)]; omega
    simp only [laws_markIntS.l0]
    have e : l.length - n = (l.length - (n + 1)) + 1 := by omega
    rw [if_pos (by omega), if_pos (by omega), e1, w64 (x := x + 1) (by omega) (by omega)]
    rw [ih (n + 1) k _ _ (by omega) (by omega) (by simp; omega) (by omega) (by omega), e]
    simp only [markI]
    rw [show (n : Int).toNat = n by omega, take_set_snoc _ n _ (by omega), List.append_assoc]
    rw [show x + 1 + ((l.length - (n + 1) : Nat) : Int) = x + ((l.length - (n + 1) + 1 : Nat) : Int) by omega]
    rfl

theorem E_laws_markIntS (k : Nat) (l : List Int) (x : Int) (hk : 4194304 < k) (hl : l.length ≤ 2097152) (h0 : 0 ≤ x) (h1 : x ≤ 2097152) : laws_markIntS.f k l x = some (x + l.length, markI x l.length) := by
  unfold laws_markIntS.f
  have := E_laws_markIntS_l0 l hl l.length 0 k l x (by omega) (by omega) rfl h0 (by omega)
  simpa using this

-- laws_markSignedAnswerS
theorem E_laws_markByteSx (k : Nat) (l : List Int) (x : Int) (hk : 4194304 < k) (hl : l.length ≤ 2097152) (h0 : 0 ≤ x) (h1 : x + l.length ≤ 4194304) : laws_markByteS.f k l x = some (x + l.length, markB x l.length) := by
  unfold laws_markByteS.f
  have := E_laws_markByteS_l0 l hl l.length 0 k l x (by omega) (by omega) rfl h0 (by omega)
  simpa using this
theorem E_laws_markIntSx (k : Nat) (l : List Int) (x : Int) (hk : 4194304 < k) (hl : l.length ≤ 2097152) (h0 : 0 ≤ x) (h1 : x + l.length ≤ 4194304) : laws_markIntS.f k l x = some (x + l.length, markI x l.length) := by
  unfold laws_markIntS.f
  have := E_laws_markIntS_l0 l hl l.length 0 k l x (by omega) (by omega) rfl h0 (by omega)
  simpa using this
theorem E_laws_markSignedAnswerS_l0 (l : List S155) (hl : l.length ≤ 1048576) (hw : ∀ x ∈ l, x.f2.length ≤ 1048576 ∧ x.f3.length ≤ 1048576) : ∀ (d n k : Nat) (m : List S155) (x : Int), n + d = l.length → d + 4194304 < k → (m.length = l.length) → (m.drop n = l.drop n) → (0 ≤ x) → (x + 3 * (l.length - n) + saLen (l.drop n) ≤ 4194000) → ∃ v, laws_markSignedAnswerS.l0 k m x (n : Int) = some v ∧ 0 ≤ v.1 := by
  intro d
  induction d with
  | zero =>
    intro n k m x hn hk hm hd h0 h1
    obtain ⟨k, rfl⟩ : ∃ m, k = m + 1 := ⟨k - 1, by omega⟩
    simp only [laws_markSignedAnswerS.l0]
    rw [if_neg (by omega)]
    exact ⟨_, rfl, h0⟩
  | succ d ih =>
    intro n k m x hn hk hm hd h0 h1
    obtain ⟨k, rfl⟩ : ∃ m, k = m + 1 := ⟨k - 1, by omega⟩
    have e1 : wrap64 ((n : Int) + 1) = ((n + 1 : Nat) : Int) := by rw [w64 (by omega) (by omega)]; omega
    simp only [laws_markSignedAnswerS.l0]
    have hg : m.getD n z155 = l.getD n z155 := by rw [getD_drop m n z155 (by omega), getD_drop l n z155 (by omega)] at hd; exact (List.cons.inj hd).1
    have ht : m.drop (n + 1) = l.drop (n + 1) := by rw [getD_drop m n z155 (by omega), getD_drop l n z155 (by omega)] at hd; exact (List.cons.inj hd).2
    have er : rd_T155 m (n : Int) = l.getD n z155 := by rw [← hg]; simp [rd_T155]
    have hy := hw _ (getD_mem l n z155 (by omega))
    rw [getD_drop l n z155 (by omega), saLen] at h1
    have hn0 := saLen_nonneg (l.drop (n + 1))
    have hz0 : (0 : Int) ≤ (l.getD n z155).f2.length := Int.natCast_nonneg _
    have hz1 : (0 : Int) ≤ (l.getD n z155).f3.length := Int.natCast_nonneg _
    rw [if_pos (by omega), if_pos (by omega), er, w64 (x := x + 1) (by omega) (by omega), w64 (x := x + 1 + 1) (by omega) (by omega), E_laws_markIntSx k _ _ (by omega) (by omega) (by omega) (by omega)]
    simp only [Option.bind_some]
    rw [E_laws_markByteSx k _ _ (by omega) (by omega) (by omega) (by omega)]
    simp only [Option.bind_some]
    rw [e1, w64 (x := x + 1 + 1 + _ + _ + 1) (by omega) (by omega)]
    exact ih (n + 1) k _ _ (by omega) (by omega) (by rw [List.length_set]; omega) (by rw [show (n : Int).toNat = n by omega, List.drop_set_of_lt (by omega)]; exact ht) (by omega) (by omega)

theorem E_laws_markSignedAnswerS (k : Nat) (l : List S155) (x : Int) (hk : 8388608 < k) (hl : l.length ≤ 1048576) (hw : ∀ x ∈ l, x.f2.length ≤ 1048576 ∧ x.f3.length ≤ 1048576) (h0 : 0 ≤ x) (h1 : x + 3 * (l.length : Int) + saLen l ≤ 4194000) : ∃ v, laws_markSignedAnswerS.f k l x = some v ∧ 0 ≤ v.1 := by
  unfold laws_markSignedAnswerS.f
  exact E_laws_markSignedAnswerS_l0 l hl hw l.length 0 k l x (by omega) (by omega) rfl rfl h0 (by simpa using h1)

-- xorM
theorem dropE {α : Type} (l : List α) (n : Nat) (h : l.length ≤ n) : l.drop n = [] := List.drop_eq_nil_of_le h
def xB (x y : Int) : Int := Go.bits .xor .u8 x y
theorem xB_comm (x y : Int) : xB x y = xB y x := by simp only [xB, Go.bits, BitVec.xor_comm]
theorem wrap8 (n : Nat) (h : n < 256) : IntKind.wrap .u8 (n : Int) = (n : Int) := by
  simp only [IntKind.wrap, IntKind.signed, IntKind.bits]
  simp
  omega
theorem xB_range (x y : Int) : 0 ≤ xB x y ∧ xB x y ≤ 255 := by
  have h : (BitVec.ofInt 8 x ^^^ BitVec.ofInt 8 y).toNat < 256 := (BitVec.ofInt 8 x ^^^ BitVec.ofInt 8 y).isLt
  have e : xB x y = ((BitVec.ofInt 8 x ^^^ BitVec.ofInt 8 y).toNat : Int) := wrap8 _ h
  omega
theorem xB_zero (x : Int) (h : 0 ≤ x ∧ x ≤ 255) : xB 0 x = x := by
  have e : xB 0 x = ((BitVec.ofInt 8 0 ^^^ BitVec.ofInt 8 x).toNat : Int) := wrap8 _ (BitVec.ofInt 8 0 ^^^ BitVec.ofInt 8 x).isLt
  rw [e]
  simp [BitVec.toNat_ofInt]
  omega
def xorM : List Int → List Int → List Int
  | [], b => b
  | x :: a, [] => x :: a
  | x :: a, y :: b => xB x y :: xorM a b
theorem xorM_nil (a : List Int) : xorM a [] = a := by cases a <;> rfl
theorem xorM_comm : ∀ (a b : List Int), xorM a b = xorM b a
  | [], b => by rw [xorM_nil]; rfl
  | x :: a, [] => rfl
  | x :: a, y :: b => by rw [xorM, xorM, xB_comm, xorM_comm a b]
theorem xorM_length : ∀ (a b : List Int), (xorM a b).length = max a.length b.length
  | [], b => by simp [xorM]
  | x :: a, [] => by simp [xorM]
  | x :: a, y :: b => by rw [xorM, List.length_cons, List.length_cons, List.length_cons, xorM_length a b]; omega
theorem xorM_byte : ∀ (a b : List Int), (∀ y ∈ a, 0 ≤ y ∧ y ≤ 255) → (∀ y ∈ b, 0 ≤ y ∧ y ≤ 255) → ∀ y ∈ xorM a b, 0 ≤ y ∧ y ≤ 255
  | [], b, _, hb => hb
  | x :: a, [], ha, _ => ha
  | x :: a, z :: b, ha, hb => by
    intro y hy
    rcases List.mem_cons.1 hy with rfl | hy
    · exact xB_range x z
    · exact xorM_byte a b (fun y h => ha y (List.mem_cons_of_mem _ h)) (fun y h => hb y (List.mem_cons_of_mem _ h)) y hy

-- xallM
def rowOk (l : List (List Int)) : Prop := ∀ x ∈ l, x.length ≤ 1048576 ∧ ∀ y ∈ x, 0 ≤ y ∧ y ≤ 255
def xallM (a : List Int) (l : List (List Int)) : List Int := l.foldl xorM a
theorem xallM_ok : ∀ (l : List (List Int)) (a : List Int), rowOk l → a.length ≤ 1048576 → (∀ y ∈ a, 0 ≤ y ∧ y ≤ 255) → (xallM a l).length ≤ 1048576 ∧ ∀ y ∈ xallM a l, 0 ≤ y ∧ y ≤ 255
  | [], a, _, h1, h2 => ⟨h1, h2⟩
  | x :: l, a, h, h1, h2 => by
    have hx := h x (List.mem_cons_self ..)
    exact xallM_ok l (xorM a x) (fun y hy => h y (List.mem_cons_of_mem _ hy)) (by rw [xorM_length]; omega) (xorM_byte a x h2 hx.2)

-- combM
def all24 (l : List (List Int)) : Prop := ∀ x ∈ l, (x.length : Int) = 24
instance (l : List (List Int)) : Decidable (all24 l) := List.decidableBAll _ l
def combM (l : List (List Int)) : List Int × Bool := if (2 ≤ (l.length : Int) ∧ (l.length : Int) ≤ 4) ∧ all24 l then (xallM [] l, true) else ([], false)
theorem combM_length (l : List (List Int)) (hw : rowOk l) : (combM l).1.length ≤ 1048576 := by
  unfold combM
  split
  · exact (xallM_ok l [] hw (by simp) (by simp)).1
  · simp

-- spec_XorBytes
theorem E_spec_XorBytes_l0 (a b : List Int) (ha : a.length ≤ 1048576) (hb : b.length ≤ 1048576) (hB : ∀ y ∈ b, 0 ≤ y ∧ y ≤ 255) : ∀ (d n k : Nat) (m : List Int), n + d = max a.length b.length → 2 * d + 2 < k → m.length = n → spec_XorBytes.l0 k a b m (n : Int) = some (m ++ xorM (a.drop n) (b.drop n)) := by
  intro d
  induction d with
  | zero =>
    intro n k m hn hk hm
    obtain ⟨k, rfl⟩ : ∃ j, k = j + 2 := ⟨k - 2, by omega⟩
    simp only [spec_XorBytes.l0, spec_XorBytes.j1]
    rw [if_neg (by omega), if_neg (by rw [decide_eq_false (by omega)]; decide), List.drop_eq_nil_of_le (by omega), List.drop_eq_nil_of_le (by omega), xorM, List.append_nil]
  | succ d ih =>
    intro n k m hn hk hm
    obtain ⟨k, rfl⟩ : ∃ j, k = j + 2 := ⟨k - 2, by omega⟩
    have e1 : wrap64 ((n : Int) + 1) = ((n + 1 : Nat) : Int) := by rw [w64 (by omega) (by omega)]; omega
    have hj : spec_XorBytes.l0 (k + 2) a b m (n : Int) = spec_XorBytes.j1 (k + 1) a b m (n : Int) true := by
      rw [spec_XorBytes.l0]
      by_cases c : (n : Int) < (a.length : Int)
      · rw [if_pos c]
      · rw [if_neg c, decide_eq_true (show (n : Int) < (b.length : Int) by omega)]
    rw [hj]
    simp only [spec_XorBytes.j1]
    rw [if_pos trivial]
    by_cases c1 : n < a.length
    · rw [if_pos (by omega), if_pos (by omega)]
      by_cases c2 : n < b.length
      · rw [if_pos (by omega), if_pos (by omega), e1, ih (n + 1) k _ (by omega) (by omega) (by rw [List.length_append, List.length_singleton]; omega), rd_nat, rd_nat, getD_drop a n 0 c1, getD_drop b n 0 c2, xorM, List.append_assoc]
        rfl
      · rw [if_neg (by omega), if_pos (by omega), e1, ih (n + 1) k _ (by omega) (by omega) (by rw [List.length_append, List.length_singleton]; omega), rd_nat, getD_drop a n 0 c1, dropE b n (by omega), dropE b (n + 1) (by omega), xorM_nil, xorM_nil, List.append_assoc]
        rfl
    · have c2 : n < b.length := by omega
      rw [if_neg (by omega), if_pos (by omega), if_pos (by omega), if_pos (by omega), e1, ih (n + 1) k _ (by omega) (by omega) (by rw [List.length_append, List.length_singleton]; omega), rd_nat, getD_drop b n 0 c2, dropE a n (by omega), dropE a (n + 1) (by omega), xorM, xorM, List.append_assoc, show Go.bits .xor .u8 0 (b.getD n 0) = b.getD n 0 from xB_zero _ (hB _ (getD_mem b n 0 c2))]
      rfl
theorem E_spec_XorBytes (k : Nat) (a b : List Int) (ha : a.length ≤ 1048576) (hb : b.length ≤ 1048576) (hB : ∀ y ∈ b, 0 ≤ y ∧ y ≤ 255) (hk : 4194304 < k) : spec_XorBytes.f k a b = some (xorM a b) := by
  unfold spec_XorBytes.f
  exact E_spec_XorBytes_l0 a b ha hb hB (max a.length b.length) 0 k [] (by omega) (by omega) rfl

-- spec_XorAll
theorem E_spec_XorAll_l0 (l : List (List Int)) (hl : l.length ≤ 1048576) (hw : rowOk l) : ∀ (d n k : Nat) (m : List Int), n + d = l.length → d + 4194304 < k → (m.length ≤ 1048576) → (∀ y ∈ m, 0 ≤ y ∧ y ≤ 255) → spec_XorAll.l0 k l m (n : Int) = some (xallM m (l.drop n)) := by
  intro d
  induction d with
  | zero =>
    intro n k m hn hk h1 h2
    obtain ⟨k, rfl⟩ : ∃ m, k = m + 1 := ⟨k - 1, by omega⟩
    simp only [spec_XorAll.l0]
    rw [if_neg (by omega), List.drop_eq_nil_of_le (by omega)]
    rfl
  | succ d ih =>
    intro n k m hn hk h1 h2
    obtain ⟨k, rfl⟩ : ∃ m, k = m + 1 := ⟨k - 1, by omega⟩
    have e1 : wrap64 ((n : Int) + 1) = ((n + 1 : Nat) : Int) := by rw [w64 (by omega) (by omega)]; omega
    simp only [spec_XorAll.l0]
    have er : rd_L2 l (n : Int) = l.getD n [] := by simp [rd_L2]
    have hx := hw _ (getD_mem l n [] (by omega))
    rw [if_pos (by omega), if_pos (by omega), er, E_spec_XorBytes k m _ h1 hx.1 hx.2 (by omega)]
    simp only [Option.bind_some]
    rw [e1, ih (n + 1) k _ (by omega) (by omega) (by rw [xorM_length]; omega) (xorM_byte m _ h2 hx.2), getD_drop l n [] (by omega)]
    rfl

theorem E_spec_XorAll (k : Nat) (l : List (List Int)) (hl : l.length ≤ 1048576) (hw : rowOk l) (hk : 8388608 < k) : spec_XorAll.f k l = some (xallM [] l) := by
  unfold spec_XorAll.f
  exact E_spec_XorAll_l0 l hl hw l.length 0 k [] (by omega) (by omega) (by simp) (by simp)

-- l1In
theorem E_spec_l1In (a b c : Int) : spec_l1In.f a b c = some (decide (b ≤ a ∧ a ≤ c)) := by
  unfold spec_l1In.f
  by_cases h : a ≥ b
  · rw [if_pos h]; simp [show b ≤ a from h]
  · rw [if_neg h]; simp [show ¬ b ≤ a from h]

-- spec_CombineAnswers
theorem E_spec_CombineAnswers_l0 (l : List (List Int)) (hl : l.length ≤ 1048576) (hw : rowOk l) : ∀ (d n k : Nat) , n + d = l.length → d + 12582912 < k → (∀ x ∈ l.take n, (x.length : Int) = 24) → spec_CombineAnswers.l0 k l (n : Int) = some (combM l) := by
  intro d
  induction d with
  | zero =>
    intro n k  hn hk hp
    obtain ⟨k, rfl⟩ : ∃ m, k = m + 1 := ⟨k - 1, by omega⟩
    simp only [spec_CombineAnswers.l0]
    have ha : all24 l := by rw [List.take_of_length_le (by omega)] at hp; exact hp
    unfold spec_l7Count.f
    rw [if_neg (by omega), E_spec_l1In]
    simp only [Option.bind_some, decide_eq_true_eq]
    unfold combM
    by_cases c : 2 ≤ (l.length : Int) ∧ (l.length : Int) ≤ 4
    · rw [if_pos c, E_spec_XorAll k l hl hw (by omega), if_pos ⟨c, ha⟩]
      rfl
    · rw [if_neg c, if_neg (fun h => c h.1)]
  | succ d ih =>
    intro n k  hn hk hp
    obtain ⟨k, rfl⟩ : ∃ m, k = m + 1 := ⟨k - 1, by omega⟩
    have e1 : wrap64 ((n : Int) + 1) = ((n + 1 : Nat) : Int) := by rw [w64 (by omega) (by omega)]; omega
    simp only [spec_CombineAnswers.l0]
    have er : rd_L2 l (n : Int) = l.getD n [] := by simp [rd_L2]
    rw [if_pos (by omega), if_pos (by omega), er]
    by_cases c : ((l.getD n []).length : Int) = 24
    · rw [if_pos c, e1, ih (n + 1) k (by omega) (by omega) (by
        intro x hx
        rw [take_getD l n [] (by omega)] at hx
        rcases List.mem_append.1 hx with hx | hx
        · exact hp x hx
        · rw [List.mem_singleton.1 hx]; exact c)]
    · rw [if_neg c]
      unfold combM
      rw [if_neg (fun h => c (h.2 _ (getD_mem l n [] (by omega))))]

theorem E_spec_CombineAnswers (k : Nat) (l : List (List Int)) (hl : l.length ≤ 1048576) (hw : rowOk l) (hk : 16777216 < k) : spec_CombineAnswers.f k l = some (combM l) := by
  unfold spec_CombineAnswers.f
  exact E_spec_CombineAnswers_l0 l hl hw l.length 0 k (by omega) (by omega) (by simp)

-- spec_AnswersToCell
theorem E_spec_AnswersToCell_l0 (l : List S155) (hl : l.length ≤ 1048576) (hw : rowOk (l.map (fun x => x.f3))) : ∀ (d n k : Nat) (m : List (List Int)), n + d = l.length → d + 20971520 < k → (m = (l.map (fun x => x.f3)).take n) → spec_AnswersToCell.l0 k l m (n : Int) = some (combM (l.map (fun x => x.f3))) := by
  intro d
  induction d with
  | zero =>
    intro n k m hn hk hm
    obtain ⟨k, rfl⟩ : ∃ m, k = m + 1 := ⟨k - 1, by omega⟩
    simp only [spec_AnswersToCell.l0]
    rw [if_neg (by omega), hm, List.take_of_length_le (by rw [List.length_map]; omega), E_spec_CombineAnswers k _ (by rw [List.length_map]; exact hl) hw (by omega)]
    rfl
  | succ d ih =>
    intro n k m hn hk hm
    obtain ⟨k, rfl⟩ : ∃ m, k = m + 1 := ⟨k - 1, by omega⟩
    have e1 : wrap64 ((n : Int) + 1) = ((n + 1 : Nat) : Int) := by rw [w64 (by omega) (by omega)]; omega
    simp only [spec_AnswersToCell.l0]
    have er : rd_T155 l (n : Int) = l.getD n z155 := by simp [rd_T155]
    have hml : m.length ≤ 1048576 := by rw [hm, List.length_take, List.length_map]; omega
    rw [if_pos (by omega), if_pos (by omega), if_pos (by omega), er, e1, ih (n + 1) k _ (by omega) (by omega) (by rw [hm, take_getD _ n [] (by rw [List.length_map]; omega), show (l.map (fun x => x.f3)).getD n [] = (l.getD n z155).f3 by simp [List.getD_eq_getElem?_getD, List.getElem?_map, List.getElem?_eq_getElem (show n < l.length by omega)]])]

theorem E_spec_AnswersToCell (k : Nat) (l : List S155) (hl : l.length ≤ 1048576) (hw : rowOk (l.map (fun x => x.f3))) (hk : 25165824 < k) : spec_AnswersToCell.f k l = some (combM (l.map (fun x => x.f3))) := by
  unfold spec_AnswersToCell.f
  exact E_spec_AnswersToCell_l0 l hl hw l.length 0 k [] (by omega) (by omega) (by simp)

-- impl_XorBytes
theorem E_impl_XorBytes_l0 (a b : List Int) (hb : b.length ≤ 1048576) (hab : b.length ≤ a.length) : ∀ (d n k : Nat) (m : List Int), n + d = b.length → d + 0 < k → (m.length = a.length) → (m.drop n = a.drop n) → impl_XorBytes.l0 k m b (b.length : Int) (n : Int) = some (m.take n ++ xorM (a.drop n) (b.drop n)) := by
  intro d
  induction d with
  | zero =>
    intro n k m hn hk hm hd
    obtain ⟨k, rfl⟩ : ∃ m, k = m + 1 := ⟨k - 1, by omega⟩
    simp only [impl_XorBytes.l0]
    rw [if_neg (by omega), dropE b n (by omega), xorM_nil, ← hd, List.take_append_drop]
  | succ d ih =>
    intro n k m hn hk hm hd
    obtain ⟨k, rfl⟩ : ∃ m, k = m + 1 := ⟨k - 1, by omega⟩
    have e1 : wrap64 ((n : Int) + 1) = ((n + 1 : Nat) : Int) := by rw [w64 (by omega) (by omega)]; omega
    simp only [impl_XorBytes.l0]
    have hg : m.getD n 0 = a.getD n 0 := by rw [getD_drop m n 0 (by omega), getD_drop a n 0 (by omega)] at hd; exact (List.cons.inj hd).1
    have ht : m.drop (n + 1) = a.drop (n + 1) := by rw [getD_drop m n 0 (by omega), getD_drop a n 0 (by omega)] at hd; exact (List.cons.inj hd).2
    rw [if_pos (by omega), if_pos (by omega), if_pos (by omega), if_pos (by omega), e1, ih (n + 1) k _ (by omega) (by omega) (by rw [List.length_set]; exact hm) (by rw [show (n : Int).toNat = n by omega, List.drop_set_of_lt (by omega)]; exact ht)]
    rw [show (n : Int).toNat = n by omega, take_set_snoc _ n _ (by omega), rd_nat, rd_nat, hg, getD_drop a n 0 (by omega), getD_drop b n 0 (by omega), xorM, List.append_assoc]
    rfl

theorem E_impl_XorBytes_g (k : Nat) (a b : List Int) (ha : a.length ≤ 1048576) (hab : b.length ≤ a.length) (hk : 4194304 < k) : impl_XorBytes.g k a b = some (xorM a b) := by
  unfold impl_XorBytes.g slices_Clone_byte.f
  simp only [Option.bind_some, List.nil_append]
  rw [if_pos (by simp; omega)]
  simp only [Option.bind_some]
  have := E_impl_XorBytes_l0 a b (by omega) hab b.length 0 k a (by omega) (by omega) rfl rfl
  simpa using this
theorem E_impl_XorBytes (k : Nat) (a b : List Int) (ha : a.length ≤ 1048576) (hb : b.length ≤ 1048576) (hk : 4194304 < k) : impl_XorBytes.f k a b = some (xorM a b) := by
  unfold impl_XorBytes.f
  by_cases c : (a.length : Int) < (b.length : Int)
  · rw [if_pos c, E_impl_XorBytes_g k b a hb (by omega) hk, xorM_comm]
  · rw [if_neg c, E_impl_XorBytes_g k a b ha (by omega) hk]

-- impl_XorAll
theorem E_impl_XorAll_l0 (l : List (List Int)) (hl : l.length ≤ 1048576) (hw : rowOk l) : ∀ (d n k : Nat) (m : List Int), n + d = l.length → d + 4194304 < k → (m.length ≤ 1048576) → (∀ y ∈ m, 0 ≤ y ∧ y ≤ 255) → impl_XorAll.l0 k m l (l.length : Int) (n : Int) = some (xallM m (l.drop n)) := by
  intro d
  induction d with
  | zero =>
    intro n k m hn hk h1 h2
    obtain ⟨k, rfl⟩ : ∃ m, k = m + 1 := ⟨k - 1, by omega⟩
    simp only [impl_XorAll.l0]
    rw [if_neg (by omega), List.drop_eq_nil_of_le (by omega)]
    rfl
  | succ d ih =>
    intro n k m hn hk h1 h2
    obtain ⟨k, rfl⟩ : ∃ m, k = m + 1 := ⟨k - 1, by omega⟩
    have e1 : wrap64 ((n : Int) + 1) = ((n + 1 : Nat) : Int) := by rw [w64 (by omega) (by omega)]; omega
    simp only [impl_XorAll.l0]
    have er : rd_L2 l (n : Int) = l.getD n [] := by simp [rd_L2]
    have hx := hw _ (getD_mem l n [] (by omega))
    rw [if_pos (by omega), if_pos (by omega), if_pos (by omega), er, E_impl_XorBytes k m _ h1 hx.1 (by omega)]
    simp only [Option.bind_some]
    rw [e1, ih (n + 1) k _ (by omega) (by omega) (by rw [xorM_length]; omega) (xorM_byte m _ h2 hx.2), getD_drop l n [] (by omega)]
    rfl

theorem E_impl_XorAll (k : Nat) (l : List (List Int)) (hl : l.length ≤ 1048576) (hw : rowOk l) (hk : 8388608 < k) : impl_XorAll.f k l = some (xallM [] l) := by
  unfold impl_XorAll.f
  exact E_impl_XorAll_l0 l hl hw l.length 0 k [] (by omega) (by omega) (by simp) (by simp)

-- InRange
theorem E_impl_InRange (a b c : Int) : impl_InRange.f a b c = some (decide (b ≤ a ∧ a ≤ c)) := by
  unfold impl_InRange.f
  by_cases h : b ≤ a
  · rw [if_pos h]; simp [h]
  · rw [if_neg h]; simp [h]

-- impl_CombineAnswers
theorem E_impl_CombineAnswers_1 (l : List Int) : impl_CombineAnswers_1.f l = some (!decide ((l.length : Int) = 24)) := rfl
theorem E_slices_IndexFunc_Lbyte_at_impl_CombineAnswers_1_l0 (l : List (List Int)) (hl : l.length ≤ 1048577) : ∀ (d n k : Nat) , n + d = l.length → d + 0 < k → ∃ v, slices_IndexFunc_Lbyte_at_impl_CombineAnswers_1.l0 k l (l.length : Int) (n : Int) = some v ∧ (v ≥ 0 ↔ ∃ y ∈ l.drop n, ¬ (y.length : Int) = 24) := by
  intro d
  induction d with
  | zero =>
    intro n k  hn hk 
    obtain ⟨k, rfl⟩ : ∃ m, k = m + 1 := ⟨k - 1, by omega⟩
    simp only [slices_IndexFunc_Lbyte_at_impl_CombineAnswers_1.l0]
    rw [if_neg (by omega), List.drop_eq_nil_of_le (by omega)]
    exact ⟨_, rfl, by simp⟩
  | succ d ih =>
    intro n k  hn hk 
    obtain ⟨k, rfl⟩ : ∃ m, k = m + 1 := ⟨k - 1, by omega⟩
    have e1 : wrap64 ((n : Int) + 1) = ((n + 1 : Nat) : Int) := by rw [w64 (by omega) (by omega)]; omega
    simp only [slices_IndexFunc_Lbyte_at_impl_CombineAnswers_1.l0]
    have er : rd_L2 l (n : Int) = l.getD n [] := by simp [rd_L2]
    rw [if_pos (by omega), if_pos (by omega), if_pos (by omega), er, E_impl_CombineAnswers_1, getD_drop l n [] (by omega)]
    simp only [Option.bind_some, decide_eq_true_eq]
    generalize l.getD n [] = y
    by_cases h : ¬ (y.length : Int) = 24
    · rw [if_pos (by simpa using h)]
      exact ⟨_, rfl, fun _ => ⟨y, List.mem_cons_self, h⟩, fun _ => by omega⟩
    · rw [if_neg (by simpa using h), e1]
      obtain ⟨v, hv, h1⟩ := ih (n + 1) k (by omega) (by omega)
      refine ⟨v, hv, h1.trans ?_⟩
      constructor
      · rintro ⟨x, hx, hb⟩
        exact ⟨x, List.mem_cons_of_mem _ hx, hb⟩
      · rintro ⟨x, hx, hb⟩
        rcases List.mem_cons.1 hx with rfl | hx
        · exact absurd hb h
        · exact ⟨x, hx, hb⟩

theorem E_slices_IndexFunc_Lbyte_at_impl_CombineAnswers_1 (k : Nat) (l : List (List Int)) (hk : 4194304 < k) (hl : l.length ≤ 1048577) : ∃ v, slices_IndexFunc_Lbyte_at_impl_CombineAnswers_1.f k l = some v ∧ (v ≥ 0 ↔ ∃ y ∈ l, ¬ (y.length : Int) = 24) := by
  unfold slices_IndexFunc_Lbyte_at_impl_CombineAnswers_1.f
  obtain ⟨v, hv, h1⟩ := E_slices_IndexFunc_Lbyte_at_impl_CombineAnswers_1_l0 l hl l.length 0 k (by omega) (by omega)
  exact ⟨v, hv, by simpa using h1⟩

theorem E_slices_ContainsFunc_Lbyte_at_impl_CombineAnswers_1 (k : Nat) (l : List (List Int)) (hk : 4194304 < k) (hl : l.length ≤ 1048577) : ∃ v, slices_ContainsFunc_Lbyte_at_impl_CombineAnswers_1.f k l = some v ∧ (v = true ↔ ∃ y ∈ l, ¬ (y.length : Int) = 24) := by
  unfold slices_ContainsFunc_Lbyte_at_impl_CombineAnswers_1.f
  obtain ⟨v, hv, h1⟩ := E_slices_IndexFunc_Lbyte_at_impl_CombineAnswers_1 k l hk hl
  rw [hv]
  exact ⟨_, rfl, by rw [decide_eq_true_eq]; exact h1⟩

theorem E_impl_CombineAnswers (k : Nat) (l : List (List Int)) (hl : l.length ≤ 1048576) (hw : rowOk l) (hk : 16777216 < k) : impl_CombineAnswers.f k l = some (combM l) := by
  unfold impl_CombineAnswers.f impl_isServerCount.f combM
  rw [E_impl_InRange]
  simp only [Option.bind_some, decide_eq_true_eq]
  by_cases c : 2 ≤ (l.length : Int) ∧ (l.length : Int) ≤ 4
  · obtain ⟨v, hv, h⟩ := E_slices_ContainsFunc_Lbyte_at_impl_CombineAnswers_1 k l (by omega) (by omega)
    rw [if_pos c, hv]
    simp only [Option.bind_some]
    cases v with
    | true =>
      obtain ⟨y, hy, hb⟩ := h.1 rfl
      rw [if_pos rfl, if_neg (fun hh => hb (hh.2 y hy))]
    | false =>
      rw [if_neg (by decide), E_impl_XorAll k l hl hw (by omega), if_pos ⟨c, fun y hy => Classical.byContradiction fun hb => Bool.noConfusion (h.2 ⟨y, hy, hb⟩)⟩]
      rfl
  · rw [if_neg c, if_neg (fun h => c h.1)]

-- impl_AnswersToCell
theorem E_impl_AnswersToCell_l0 (l : List S155) (hl : l.length ≤ 1048576) (hw : rowOk (l.map (fun x => x.f3))) : ∀ (d n k : Nat) (m : List (List Int)), n + d = l.length → d + 20971520 < k → (m = (l.map (fun x => x.f3)).take n) → impl_AnswersToCell.l0 k m l (l.length : Int) (n : Int) = some (combM (l.map (fun x => x.f3))) := by
  intro d
  induction d with
  | zero =>
    intro n k m hn hk hm
    obtain ⟨k, rfl⟩ : ∃ m, k = m + 1 := ⟨k - 1, by omega⟩
    simp only [impl_AnswersToCell.l0]
    rw [if_neg (by omega), hm, List.take_of_length_le (by rw [List.length_map]; omega), E_impl_CombineAnswers k _ (by rw [List.length_map]; exact hl) hw (by omega)]
    rfl
  | succ d ih =>
    intro n k m hn hk hm
    obtain ⟨k, rfl⟩ : ∃ m, k = m + 1 := ⟨k - 1, by omega⟩
    have e1 : wrap64 ((n : Int) + 1) = ((n + 1 : Nat) : Int) := by rw [w64 (by omega) (by omega)]; omega
    simp only [impl_AnswersToCell.l0]
    have er : rd_T155 l (n : Int) = l.getD n z155 := by simp [rd_T155]
    have hml : m.length ≤ 1048576 := by rw [hm, List.length_take, List.length_map]; omega
    rw [if_pos (by omega), if_pos (by omega), if_pos (by omega), if_pos (by omega), er, e1, ih (n + 1) k _ (by omega) (by omega) (by rw [hm, take_getD _ n [] (by rw [List.length_map]; omega), show (l.map (fun x => x.f3)).getD n [] = (l.getD n z155).f3 by simp [List.getD_eq_getElem?_getD, List.getElem?_map, List.getElem?_eq_getElem (show n < l.length by omega)]])]

theorem E_impl_AnswersToCell (k : Nat) (l : List S155) (hl : l.length ≤ 1048576) (hw : rowOk (l.map (fun x => x.f3))) (hk : 25165824 < k) : impl_AnswersToCell.f k l = some (combM (l.map (fun x => x.f3))) := by
  unfold impl_AnswersToCell.f
  exact E_impl_AnswersToCell_l0 l hl hw l.length 0 k [] (by omega) (by omega) (by simp)

-- heldB
theorem E_laws_heldByteS_l0 (l : List Int) (x0 : Int) (n0 : Nat) (hn0 : n0 ≤ 2097152) (h0 : 0 ≤ x0) (h1 : x0 ≤ 2097152) (hl : l = markB x0 n0) : ∀ (d n k : Nat), n + d = n0 → d < k → laws_heldByteS.l0 k l (x0 + n) (n : Int) = some (x0 + n0) := by
  have hlen : l.length = n0 := by rw [hl, markB_length]
  intro d
  induction d with
  | zero =>
    intro n k hn hk
    obtain ⟨k, rfl⟩ : ∃ m, k = m + 1 := ⟨k - 1, by omega⟩
    simp only [laws_heldByteS.l0]
    rw [if_neg (by omega)]
    congr 1
    omega
  | succ d ih =>
    intro n k hn hk
    obtain ⟨k, rfl⟩ : ∃ m, k = m + 1 := ⟨k - 1, by omega⟩
    simp only [laws_heldByteS.l0]
    rw [if_pos (by omega), if_pos (by omega), rd_nat, hl, markB_get _ _ _ (by omega), if_pos rfl, w64 (by omega) (by omega), w64 (by omega) (by omega), ← hl]
    have := ih (n + 1) k (by omega) (by omega)
    rw [← this]
    congr 1
    · omega
theorem E_laws_heldByteS (k : Nat) (x : Int) (n : Nat) (hk : 4194304 < k) (hn : n ≤ 2097152) (h0 : 0 ≤ x) (h1 : x ≤ 2097152) : laws_heldByteS.f k (markB x n) x = some (x + n) := by
  unfold laws_heldByteS.f
  have := E_laws_heldByteS_l0 (markB x n) x n hn h0 h1 rfl n 0 k (by omega) (by omega)
  simpa using this

-- FnExactAnswersToCell
theorem FnExactAnswersToCell : laws_FnExactAnswersToCell.Pure := by
  intro l hl
  have hm := hl.1
  have hw : ∀ x ∈ l, x.f2.length ≤ 9223372036854775807 ∧ x.f3.length ≤ 9223372036854775807 := fun x hx => by have h := hl.2 x hx; have h1 := h.2.2.1.1; have h2 := h.2.2.2.1.1; unfold maxLen at h1 h2; omega
  unfold maxLen at hm
  refine ⟨33554432, ?_⟩
  unfold laws_FnExactAnswersToCell.f
  obtain ⟨v, hv, hv1, hv2⟩ := Z_laws_szSignedAnswerS 33554432 l 1048576 (by omega) (by omega) hw (by omega) (by omega)
  rw [hv]
  simp only [Option.bind_some]
  by_cases cc : v < 0
  · rw [if_pos cc]
  · have hs := hv2 (by omega)
    have hs0 := saLen_nonneg (l.map saM)
    have hwb : ∀ x ∈ l.map saM, x.f2.length ≤ 1048576 ∧ x.f3.length ≤ 1048576 := fun x hx => by have := mem_saLen _ x hx; omega
    have hwa : ∀ x ∈ l, x.f2.length ≤ 2097152 ∧ x.f3.length ≤ 2097152 := fun x hx => by have := hwb _ (List.mem_map_of_mem hx); exact ⟨Nat.le_trans this.1 (by omega), Nat.le_trans this.2 (by omega)⟩
    have hF : rowOk ((l.map saM).map (fun x => x.f3)) := by
      intro y hy
      obtain ⟨z, hz, rfl⟩ := List.mem_map.1 hy
      refine ⟨(hwb z hz).2, ?_⟩
      obtain ⟨x, hx, rfl⟩ := List.mem_map.1 hz
      exact fun y hy => wf8 ((hl.2 x hx).2.2.2.1.2 y hy)
    have hlm : (l.map saM).length ≤ 1048576 := by rw [List.length_map]; omega
    obtain ⟨g, hg⟩ : ∃ g, g = combM ((l.map saM).map (fun x => x.f3)) := ⟨_, rfl⟩
    have hgl : g.1.length ≤ 1048576 := by rw [hg]; exact combM_length _ hF
    have e1 := E_spec_AnswersToCell 33554432 (l.map saM) hlm hF (by omega)
    have e2 := E_impl_AnswersToCell 33554432 (l.map saM) hlm hF (by omega)
    rw [← hg] at e1 e2
    obtain ⟨q, hq, hq1⟩ := E_laws_markSignedAnswerS 33554432 (l.map saM) 1 (by omega) hlm hwb (by omega) (by rw [List.length_map]; omega)
    rw [if_neg cc, E_laws_toSignedAnswerS _ l (by omega) (by omega) hwa]
    simp only [Option.bind_some]
    rw [e1, e2]
    simp only [Option.bind_some]
    rw [E_laws_eqByteS _ g.1 g.1 (by omega) (by omega), E_laws_eqSignedAnswerS _ (l.map saM) (by omega) hlm (fun x hx => by have := hwb x hx; omega), hq, E_laws_markByteS _ g.1 1 (by omega) (by omega) (by omega) (by omega)]
    simp only [Option.bind_some]
    rw [E_laws_heldByteS _ 1 g.1.length (by omega) (by omega) (by omega) (by omega)]
    simp only [Option.bind_some]
    simp
    omega
end Go.Proofs.Ytgdfnoipcompkaa.Pure
