/- FnExactChangedRows: what the law's functions compute, over numbers and lists, answers true for every input that its bounds let in. -/
import Derived.Test.YtcdaiclfomekhaaM
import Derived.Test.YtcdaiclfomekhaaQxFLMPDL
namespace Go.Proofs.Ytcdaiclfomekhaa.Pure
open Go.RowKit Go.Proofs.Ytcdaiclfomekhaa.M Go.Proofs.Ytcdaiclfomekhaa.Q Go.Proofs.YtcdaiclfomekhaaW.PrintWords Go.Proofs.YtcdaiclfomekhaaW.PrintLast
set_option linter.unusedVariables false
set_option linter.unusedSimpArgs false
-- sumLen
def sumLen (ls : List (List Int)) : Int := (ls.map (fun l => (l.length : Int))).foldl (· + ·) 0
theorem foldl_add (l : List Int) : ∀ (a : Int), l.foldl (· + ·) a = a + l.foldl (· + ·) 0 := by
  induction l with
  | nil => intro a; simp
  | cons x l ih => intro a; simp only [List.foldl_cons]; rw [ih (a + x), ih (0 + x)]; omega
theorem sumLen_cons (l : List Int) (ls : List (List Int)) : sumLen (l :: ls) = l.length + sumLen ls := by
  unfold sumLen
  simp only [List.map_cons, List.foldl_cons]
  rw [foldl_add]
  omega
theorem sumLen_nonneg (ls : List (List Int)) : 0 ≤ sumLen ls := by
  induction ls with
  | nil => simp [sumLen]
  | cons l ls ih => rw [sumLen_cons]; omega
theorem sumLen_append (l m : List (List Int)) : sumLen (l ++ m) = sumLen l + sumLen m := by
  induction l with
  | nil => simp [sumLen]
  | cons x l ih => rw [List.cons_append, sumLen_cons, sumLen_cons, ih]; omega
theorem mem_sumLen (l : List (List Int)) : ∀ x ∈ l, (x.length : Int) ≤ sumLen l := by
  induction l with
  | nil => intro x hx; exact absurd hx (by simp)
  | cons y l ih =>
    intro x hx
    rw [sumLen_cons]
    rcases List.mem_cons.1 hx with rfl | hx
    · have := sumLen_nonneg l; omega
    · have := ih x hx; omega

-- szDatabase
theorem Z_laws_szByteS' (l : List Int) (n : Int) (hl : l.length ≤ 9223372036854775807) (h0 : 0 ≤ n) (h1 : n ≤ 1048576) : laws_szByteS.f l n = some (if n - (l.length : Int) < 0 then -1 else n - (l.length : Int)) := by
  unfold laws_szByteS.f
  rw [w64 (by omega) (by omega)]
  by_cases h : n - (l.length : Int) < 0
  · rw [if_pos h, if_pos h]
  · rw [if_neg h, if_neg h]
theorem Z_laws_szByteSS_l0 (l : List (List Int)) (hl : l.length ≤ 1048576) (hw : ∀ x ∈ l, x.length ≤ 9223372036854775807) : ∀ (d n k : Nat) (x : Int), n + d = l.length → d + 0 < k → (0 ≤ x) → (x ≤ 1048576) → ∃ v, laws_szByteSS.l0 k l x (n : Int) = some v ∧ -1 ≤ v ∧ (0 ≤ v → v + sumLen (l.drop n) = x) := by
  intro d
  induction d with
  | zero =>
    intro n k x hn hk h0 h1
    obtain ⟨k, rfl⟩ : ∃ m, k = m + 1 := ⟨k - 1, by omega⟩
    simp only [laws_szByteSS.l0]
    rw [if_neg (by omega), List.drop_eq_nil_of_le (by omega)]
    exact ⟨x, rfl, by omega, fun _ => by simp [sumLen]⟩
  | succ d ih =>
    intro n k x hn hk h0 h1
    obtain ⟨k, rfl⟩ : ∃ m, k = m + 1 := ⟨k - 1, by omega⟩
    have e1 : wrap64 ((n : Int) + 1) = ((n + 1 : Nat) : Int) := by rw [w64 (by omega) (by omega)]; omega
    simp only [laws_szByteSS.l0]
    have er : rd_L2 l (n : Int) = l.getD n [] := by simp [rd_L2]
    have hm := hw _ (getD_mem l n [] (by omega))
    rw [if_pos (by omega), if_pos (by omega), er, Z_laws_szByteS' _ x hm h0 h1]
    simp only [Option.bind_some]
    by_cases c : x - ((l.getD n []).length : Int) < 0
    · rw [if_pos c, if_pos (by omega)]
      exact ⟨-1, rfl, by omega, fun h => absurd h (by omega)⟩
    · rw [if_neg c, if_neg c, e1]
      obtain ⟨v, hv, hv1, hv2⟩ := ih (n + 1) k (x - ((l.getD n []).length : Int)) (by omega) (by omega) (by omega) (by omega)
      refine ⟨v, hv, hv1, fun h => ?_⟩
      have := hv2 h
      rw [getD_drop l n [] (by omega), sumLen_cons]
      omega

theorem Z_laws_szDatabase (k : Nat) (l : List (List Int)) (n : Int) (hk : 4194304 < k) (hl : l.length ≤ 9223372036854775807) (hw : ∀ x ∈ l, x.length ≤ 9223372036854775807) (h0 : 0 ≤ n) (h1 : n ≤ 1048576) :
    ∃ v, laws_szDatabase.f k l n = some v ∧ -1 ≤ v ∧ (0 ≤ v → v + l.length + sumLen l = n) := by
  have hS : ∃ v, laws_szByteSS.f k l n = some v ∧ -1 ≤ v ∧ (0 ≤ v → v + l.length + sumLen l = n) := by
    unfold laws_szByteSS.f
    rw [w64 (by omega) (by omega)]
    by_cases h : (l.length : Int) ≤ n
    · rw [if_neg (by omega)]
      obtain ⟨v, hv, hv1, hv2⟩ := Z_laws_szByteSS_l0 l (by omega) hw l.length 0 k (n - l.length) (by omega) (by omega) (by omega) (by omega)
      exact ⟨v, hv, hv1, fun h' => by have := hv2 h'; rw [List.drop_zero] at this; omega⟩
    · rw [if_pos (by omega)]
      exact ⟨-1, rfl, by omega, fun h => absurd h (by omega)⟩
  unfold laws_szDatabase.f
  obtain ⟨v, hv, hv1, hv2⟩ := hS
  rw [hv]
  simp only [Option.bind_some]
  by_cases c : v < 0
  · rw [if_pos c]
    exact ⟨-1, rfl, by omega, fun h => absurd h (by omega)⟩
  · rw [if_neg c]
    exact ⟨v, rfl, hv1, hv2⟩

-- laws_toByteS
theorem E_laws_toByteS_l0 (l : List Int) (hl : l.length ≤ 2097152) : ∀ (d n k : Nat) (m : List Int), n + d = l.length → d + 0 < k → (m.length = l.length) → laws_toByteS.l0 k l m (n : Int) = some (m.take n ++ l.drop n) := by
  intro d
  induction d with
  | zero =>
    intro n k m hn hk hm
    obtain ⟨k, rfl⟩ : ∃ m, k = m + 1 := ⟨k - 1, by omega⟩
    simp only [laws_toByteS.l0]
    rw [if_neg (by omega), List.drop_eq_nil_of_le (by omega), List.append_nil, List.take_of_length_le (by omega)]
  | succ d ih =>
    intro n k m hn hk hm
    obtain ⟨k, rfl⟩ : ∃ m, k = m + 1 := ⟨k - 1, by omega⟩
    have e1 : wrap64 ((n : Int) + 1) = ((n + 1 : Nat) : Int) := by rw [w64 (by omega) (by omega)]; omega
    simp only [laws_toByteS.l0]
    rw [if_pos (by omega), if_pos (by omega), if_pos (by omega), e1, rd_nat]
    rw [ih (n + 1) k _ (by omega) (by omega) (by simp; omega), getD_drop l n 0 (by omega)]
    rw [show (n : Int).toNat = n by omega, take_set_snoc _ n _ (by omega), List.append_assoc]
    rfl

theorem E_laws_toByteS (k : Nat) (l : List Int) (hk : 4194304 < k) (hl : l.length ≤ 2097152) : laws_toByteS.f k l = some l := by
  unfold laws_toByteS.f
  rw [if_pos (by omega), if_pos (by omega)]
  have := E_laws_toByteS_l0 l hl l.length 0 k (List.replicate ((l.length : Int) : Int).toNat 0) (by omega) (by omega) (by simp)
  simpa using this

-- laws_toDatabase
theorem E_laws_toByteSS_l0 (l : List (List Int)) (hl : l.length ≤ 1048576) (hw : ∀ x ∈ l, (x.length : Int) ≤ 1048576) : ∀ (d n k : Nat) (m : List (List Int)), n + d = l.length → d + 4194304 < k → (m.length = l.length) → laws_toByteSS.l0 k l m (n : Int) = some (m.take n ++ l.drop n) := by
  intro d
  induction d with
  | zero =>
    intro n k m hn hk hm
    obtain ⟨k, rfl⟩ : ∃ m, k = m + 1 := ⟨k - 1, by omega⟩
    simp only [laws_toByteSS.l0]
    rw [if_neg (by omega), List.drop_eq_nil_of_le (by omega), List.take_of_length_le (by omega), List.append_nil]
  | succ d ih =>
    intro n k m hn hk hm
    obtain ⟨k, rfl⟩ : ∃ m, k = m + 1 := ⟨k - 1, by omega⟩
    have e1 : wrap64 ((n : Int) + 1) = ((n + 1 : Nat) : Int) := by rw [w64 (by omega) (by omega)]; omega
    simp only [laws_toByteSS.l0]
    have er : rd_L2 l (n : Int) = l.getD n [] := by simp [rd_L2]
    have hy := hw _ (getD_mem l n [] (by omega))
    rw [if_pos (by omega), if_pos (by omega), er, E_laws_toByteS k _ (by omega) (by omega)]
    simp only [Option.bind_some]
    rw [if_pos (by omega), e1, ih (n + 1) k _ (by omega) (by omega) (by rw [List.length_set]; omega)]
    rw [show (n : Int).toNat = n by omega, take_set_snoc _ n _ (by omega), List.append_assoc, getD_drop l n [] (by omega)]
    rfl

theorem E_laws_toDatabase (k : Nat) (l : List (List Int)) (hk : 8388608 < k) (hs : l.length + sumLen l ≤ 1048576) : laws_toDatabase.f k l = some l := by
  have h0 := sumLen_nonneg l
  have hw : ∀ x ∈ l, (x.length : Int) ≤ 1048576 := fun x hx => by have := mem_sumLen l x hx; omega
  unfold laws_toDatabase.f laws_toByteSS.f
  rw [if_pos (by omega), if_pos (by omega)]
  have := E_laws_toByteSS_l0 l (by omega) hw l.length 0 k (List.replicate ((l.length : Int) : Int).toNat []) (by omega) (by omega) (by simp)
  rw [show ((0 : Nat) : Int) = 0 from rfl] at this
  rw [this]
  simp

-- laws_eqByteS
theorem E_laws_eqByteS_l0 (l m : List Int) (hl : l.length ≤ 2097152) (hm : l.length = m.length) : ∀ (d n k : Nat) , n + d = l.length → d + 0 < k → laws_eqByteS.l0 k l m (n : Int) = some (decide (l.drop n = m.drop n)) := by
  intro d
  induction d with
  | zero =>
    intro n k  hn hk 
    obtain ⟨k, rfl⟩ : ∃ m, k = m + 1 := ⟨k - 1, by omega⟩
    simp only [laws_eqByteS.l0]
    rw [if_neg (by omega), List.drop_eq_nil_of_le (by omega), List.drop_eq_nil_of_le (by omega)]
    rfl
  | succ d ih =>
    intro n k  hn hk 
    obtain ⟨k, rfl⟩ : ∃ m, k = m + 1 := ⟨k - 1, by omega⟩
    have e1 : wrap64 ((n : Int) + 1) = ((n + 1 : Nat) : Int) := by rw [w64 (by omega) (by omega)]; omega
    simp only [laws_eqByteS.l0]
    rw [if_pos (by omega), if_pos (by omega), if_pos (by omega), e1, rd_nat, rd_nat, getD_drop l n 0 (by omega), getD_drop m n 0 (by omega)]
    by_cases h : l.getD n 0 = m.getD n 0
    · rw [if_pos h, ih (n + 1) k (by omega) (by omega), h]
      simp only [List.cons.injEq, true_and]
    · rw [if_neg h, decide_eq_false (fun e => h (List.cons.inj e).1)]

theorem E_laws_eqByteS (k : Nat) (l m : List Int) (hk : 4194304 < k) (hl : l.length ≤ 2097152) : laws_eqByteS.f k l m = some (decide (l = m)) := by
  unfold laws_eqByteS.f
  by_cases h : (l.length : Int) = (m.length : Int)
  · rw [if_pos h]
    have := E_laws_eqByteS_l0 l m hl (by omega) l.length 0 k (by omega) (by omega)
    simpa using this
  · rw [if_neg h]
    have : l ≠ m := fun e => h (by rw [e])
    simp [this]

-- laws_eqDatabase
theorem E_laws_eqByteSS_l0 (l : List (List Int)) (hl : l.length ≤ 1048576) (hw : ∀ x ∈ l, (x.length : Int) ≤ 1048576) : ∀ (d n k : Nat) , n + d = l.length → d + 4194304 < k → laws_eqByteSS.l0 k l l (n : Int) = some true := by
  intro d
  induction d with
  | zero =>
    intro n k  hn hk 
    obtain ⟨k, rfl⟩ : ∃ m, k = m + 1 := ⟨k - 1, by omega⟩
    simp only [laws_eqByteSS.l0]
    rw [if_neg (by omega)]
  | succ d ih =>
    intro n k  hn hk 
    obtain ⟨k, rfl⟩ : ∃ m, k = m + 1 := ⟨k - 1, by omega⟩
    have e1 : wrap64 ((n : Int) + 1) = ((n + 1 : Nat) : Int) := by rw [w64 (by omega) (by omega)]; omega
    simp only [laws_eqByteSS.l0]
    have er : rd_L2 l (n : Int) = l.getD n [] := by simp [rd_L2]
    have hy := hw _ (getD_mem l n [] (by omega))
    rw [if_pos (by omega), if_pos (by omega), if_pos (by omega), er, E_laws_eqByteS k _ _ (by omega) (by omega)]
    simp only [Option.bind_some]
    rw [if_pos (by simp), e1, ih (n + 1) k (by omega) (by omega)]

theorem E_laws_eqDatabase (k : Nat) (l : List (List Int)) (hk : 8388608 < k) (hs : l.length + sumLen l ≤ 1048576) : laws_eqDatabase.f k l l = some true := by
  have h0 := sumLen_nonneg l
  have hw : ∀ x ∈ l, (x.length : Int) ≤ 1048576 := fun x hx => by have := mem_sumLen l x hx; omega
  unfold laws_eqDatabase.f laws_eqByteSS.f
  rw [if_pos rfl]
  have := E_laws_eqByteSS_l0 l (by omega) hw l.length 0 k (by omega) (by omega)
  rw [show ((0 : Nat) : Int) = 0 from rfl] at this
  rw [this]
  simp

-- laws_eqIntS
theorem E_laws_eqIntS_l0 (l m : List Int) (hl : l.length ≤ 2097152) (hm : l.length = m.length) : ∀ (d n k : Nat) , n + d = l.length → d + 0 < k → laws_eqIntS.l0 k l m (n : Int) = some (decide (l.drop n = m.drop n)) := by
  intro d
  induction d with
  | zero =>
    intro n k  hn hk 
    obtain ⟨k, rfl⟩ : ∃ m, k = m + 1 := ⟨k - 1, by omega⟩
    simp only [laws_eqIntS.l0]
    rw [if_neg (by omega), List.drop_eq_nil_of_le (by omega), List.drop_eq_nil_of_le (by omega)]
    rfl
  | succ d ih =>
    intro n k  hn hk 
    obtain ⟨k, rfl⟩ : ∃ m, k = m + 1 := ⟨k - 1, by omega⟩
    have e1 : wrap64 ((n : Int) + 1) = ((n + 1 : Nat) : Int) := by rw [w64 (by omega) (by omega)]; omega
    simp only [laws_eqIntS.l0]
    rw [if_pos (by omega), if_pos (by omega), if_pos (by omega), e1, rd_nat, rd_nat, getD_drop l n 0 (by omega), getD_drop m n 0 (by omega)]
    by_cases h : l.getD n 0 = m.getD n 0
    · rw [if_pos h, ih (n + 1) k (by omega) (by omega), h]
      simp only [List.cons.injEq, true_and]
    · rw [if_neg h, decide_eq_false (fun e => h (List.cons.inj e).1)]

theorem E_laws_eqIntS (k : Nat) (l m : List Int) (hk : 4194304 < k) (hl : l.length ≤ 2097152) : laws_eqIntS.f k l m = some (decide (l = m)) := by
  unfold laws_eqIntS.f
  by_cases h : (l.length : Int) = (m.length : Int)
  · rw [if_pos h]
    have := E_laws_eqIntS_l0 l m hl (by omega) l.length 0 k (by omega) (by omega)
    simpa using this
  · rw [if_neg h]
    have : l ≠ m := fun e => h (by rw [e])
    simp [this]

-- markBo
theorem E_laws_markByteS_l0 (l : List Int) (hl : l.length ≤ 2097152) : ∀ (d n k : Nat) (m : List Int) (x : Int), n + d = l.length → d + 0 < k → (m.length = l.length) → (0 ≤ x) → (x + (l.length - n : Nat) ≤ 4194304) → laws_markByteS.l0 k m x (n : Int) = some ((x + (l.length - n : Nat), m.take n ++ markB x (l.length - n))) := by
  intro d
  induction d with
  | zero =>
    intro n k m x hn hk hm h0 h1
    obtain ⟨k, rfl⟩ : ∃ m, k = m + 1 := ⟨k - 1, by omega⟩
    simp only [laws_markByteS.l0]
    have e : l.length - n = 0 := by omega
    rw [if_neg (by omega), e]
    simp only [markB, List.append_nil]
    rw [List.take_of_length_le (by omega)]
    simp
  | succ d ih =>
    intro n k m x hn hk hm h0 h1
    obtain ⟨k, rfl⟩ : ∃ m, k = m + 1 := ⟨k - 1, by omega⟩
    have e1 : wrap64 ((n : Int) + 1) = ((n + 1 : Nat) : Int) := by rw [w64 (by omega) (by omega)]; omega
    simp only [laws_markByteS.l0]
    have e : l.length - n = (l.length - (n + 1)) + 1 := by omega
    rw [if_pos (by omega), if_pos (by omega), e1, w64 (x := x + 1) (by omega) (by omega)]
    rw [ih (n + 1) k _ _ (by omega) (by omega) (by simp; omega) (by omega) (by omega), e]
    simp only [markB]
    rw [show (n : Int).toNat = n by omega, take_set_snoc _ n _ (by omega), List.append_assoc]
    rw [show x + 1 + ((l.length - (n + 1) : Nat) : Int) = x + ((l.length - (n + 1) + 1 : Nat) : Int) by omega]
    rfl

theorem E_laws_markByteS (k : Nat) (l : List Int) (x : Int) (hk : 4194304 < k) (hl : l.length ≤ 2097152) (h0 : 0 ≤ x) (h1 : x ≤ 2097152) : laws_markByteS.f k l x = some (x + l.length, markB x l.length) := by
  unfold laws_markByteS.f
  have := E_laws_markByteS_l0 l hl l.length 0 k l x (by omega) (by omega) rfl h0 (by omega)
  simpa using this

-- markBB
def markBB : List (List Int) → Int → List (List Int)
  | [], _ => []
  | l :: ls, x => markB x l.length :: markBB ls (x + l.length)
theorem markBB_length : ∀ (l : List (List Int)) (x : Int), (markBB l x).length = l.length
  | [], _ => rfl
  | l :: ls, x => by simp [markBB, markBB_length ls]
theorem sumLen_drop_succ (l : List (List Int)) (n : Nat) (h : n < l.length) : sumLen (l.drop n) = ((l.getD n []).length : Int) + sumLen (l.drop (n + 1)) := by rw [getD_drop l n [] h, sumLen_cons]
theorem sumLen_markBB : ∀ (l : List (List Int)) (x : Int), sumLen (markBB l x) = sumLen l
  | [], _ => rfl
  | l :: ls, x => by rw [markBB, sumLen_cons, sumLen_cons, sumLen_markBB ls, markB_length]

-- laws_markByteSS
theorem E_laws_markByteSS_l0 (l : List (List Int)) (hl : l.length ≤ 2097152) : ∀ (d n k : Nat) (m : List (List Int)) (x : Int), n + d = l.length → d + 4194304 < k → (m.length = l.length) → (m.drop n = l.drop n) → (0 ≤ x) → (x + sumLen (l.drop n) ≤ 2097152) → laws_markByteSS.l0 k m x (n : Int) = some (x + sumLen (l.drop n), m.take n ++ markBB (l.drop n) x) := by
  intro d
  induction d with
  | zero =>
    intro n k m x hn hk hm hd h0 h1
    obtain ⟨k, rfl⟩ : ∃ m, k = m + 1 := ⟨k - 1, by omega⟩
    simp only [laws_markByteSS.l0]
    rw [if_neg (by omega), List.drop_eq_nil_of_le (by omega), List.take_of_length_le (by omega), markBB, List.append_nil, show sumLen ([] : List (List Int)) = 0 by simp [sumLen]]
    simp
  | succ d ih =>
    intro n k m x hn hk hm hd h0 h1
    obtain ⟨k, rfl⟩ : ∃ m, k = m + 1 := ⟨k - 1, by omega⟩
    have e1 : wrap64 ((n : Int) + 1) = ((n + 1 : Nat) : Int) := by rw [w64 (by omega) (by omega)]; omega
    simp only [laws_markByteSS.l0]
    have hg : m.getD n [] = l.getD n [] := by rw [getD_drop m n [] (by omega), getD_drop l n [] (by omega)] at hd; exact (List.cons.inj hd).1
    have ht : m.drop (n + 1) = l.drop (n + 1) := by rw [getD_drop m n [] (by omega), getD_drop l n [] (by omega)] at hd; exact (List.cons.inj hd).2
    have er : rd_L2 m (n : Int) = l.getD n [] := by rw [← hg]; simp [rd_L2]
    have hs := sumLen_drop_succ l n (by omega)
    have hn0 := sumLen_nonneg (l.drop (n + 1))
    rw [if_pos (by omega), if_pos (by omega), er, E_laws_markByteS k _ x (by omega) (by omega) h0 (by omega)]
    simp only [Option.bind_some]
    rw [e1, ih (n + 1) k _ _ (by omega) (by omega) (by rw [List.length_set]; omega) (by rw [show (n : Int).toNat = n by omega, List.drop_set_of_lt (by omega)]; exact ht) (by omega) (by omega)]
    rw [show (n : Int).toNat = n by omega, take_set_snoc _ n _ (by omega), getD_drop l n [] (by omega), markBB, List.append_assoc, sumLen_cons]
    simp only [Option.some.injEq, Prod.mk.injEq]
    exact ⟨by omega, rfl⟩

theorem E_laws_markByteSS (k : Nat) (l : List (List Int)) (x : Int) (hk : 8388608 < k) (hl : l.length ≤ 2097152) (h0 : 0 ≤ x) (h1 : x + sumLen l ≤ 2097152) : laws_markByteSS.f k l x = some (x + sumLen l, markBB l x) := by
  unfold laws_markByteSS.f
  have := E_laws_markByteSS_l0 l hl l.length 0 k l x (by omega) (by omega) rfl rfl h0 (by simpa using h1)
  simpa using this
theorem E_laws_markDatabase (k : Nat) (l : List (List Int)) (x : Int) (hk : 8388608 < k) (hl : l.length ≤ 2097152) (h0 : 0 ≤ x) (h1 : x + sumLen l ≤ 2097152) : laws_markDatabase.f k l x = some (x + sumLen l, markBB l x) := by
  unfold laws_markDatabase.f
  rw [E_laws_markByteSS k l x hk hl h0 h1]
  rfl

-- chgM
def chgM (a b : List (List Int)) (n : Nat) : Bool := decide (a.length ≤ n ∨ b.length ≤ n ∨ a.getD n [] ≠ b.getD n [])
def chL (a b : List (List Int)) : Nat → Nat → List Int
  | 0, _ => []
  | d + 1, n => if chgM a b n = true then (n : Int) :: chL a b d (n + 1) else chL a b d (n + 1)
theorem chL_length (a b : List (List Int)) : ∀ d n, (chL a b d n).length ≤ d
  | 0, _ => by simp [chL]
  | d + 1, n => by
    have := chL_length a b d (n + 1)
    rw [chL]
    split
    · simp only [List.length_cons]; omega
    · omega

-- spec_EqualBytes
theorem bytes_inj : ∀ (l m : List Int), (∀ x ∈ l, 0 ≤ x ∧ x ≤ 255) → (∀ x ∈ m, 0 ≤ x ∧ x ≤ 255) → (l.map fun n => UInt8.ofNat n.toNat) = (m.map fun n => UInt8.ofNat n.toNat) → l = m := by
  intro l
  induction l with
  | nil =>
    intro m _ _ h
    cases m with
    | nil => rfl
    | cons y m => simp at h
  | cons x l ih =>
    intro m hl hm h
    cases m with
    | nil => simp at h
    | cons y m =>
      simp only [List.map_cons, List.cons.injEq] at h
      have hx := hl x List.mem_cons_self
      have hy := hm y List.mem_cons_self
      have e : x = y := by
        have := congrArg UInt8.toNat h.1
        rw [UInt8.toNat_ofNat', UInt8.toNat_ofNat'] at this
        omega
      rw [e, ih m (fun z hz => hl z (List.mem_cons_of_mem _ hz)) (fun z hz => hm z (List.mem_cons_of_mem _ hz)) h.2]
theorem E_spec_EqualBytes (l m : List Int) (hl : ∀ x ∈ l, 0 ≤ x ∧ x ≤ 255) (hm : ∀ x ∈ m, 0 ≤ x ∧ x ≤ 255) : spec_EqualBytes.f l m = some (decide (l = m)) := by
  unfold spec_EqualBytes.f
  rw [ByteArray.toList_eq, ByteArray.toList_eq, strOfNums_data, strOfNums_data]
  congr 1
  by_cases h : l = m
  · rw [h]
    simp
  · rw [decide_eq_false h, beq_eq_false_iff_ne]
    exact fun e => h (bytes_inj l m hl hm e)

-- spec_ChangedRows
theorem E_spec_ChangedRows_l0 (a b : List (List Int)) (ha : a.length ≤ 1048576) (hb : b.length ≤ 1048576) (hA : ∀ x ∈ a, x.length ≤ 1048576 ∧ ∀ y ∈ x, 0 ≤ y ∧ y ≤ 255) (hB : ∀ x ∈ b, x.length ≤ 1048576 ∧ ∀ y ∈ x, 0 ≤ y ∧ y ≤ 255) : ∀ (d n k : Nat) (m : List Int), n + d = max a.length b.length → 2 * d + 2 < k → m.length ≤ n → spec_ChangedRows.l0 k m (n : Int) a b = some (m ++ chL a b d n) := by
  intro d
  induction d with
  | zero =>
    intro n k m hn hk hm
    obtain ⟨k, rfl⟩ : ∃ j, k = j + 2 := ⟨k - 2, by omega⟩
    simp only [spec_ChangedRows.l0, spec_ChangedRows.j1]
    rw [if_neg (by omega), if_neg (by rw [decide_eq_false (by omega)]; decide), chL, List.append_nil]
  | succ d ih =>
    intro n k m hn hk hm
    obtain ⟨k, rfl⟩ : ∃ j, k = j + 2 := ⟨k - 2, by omega⟩
    have e1 : wrap64 ((n : Int) + 1) = ((n + 1 : Nat) : Int) := by rw [w64 (by omega) (by omega)]; omega
    have hj : spec_ChangedRows.l0 (k + 2) m (n : Int) a b = spec_ChangedRows.j1 (k + 1) m (n : Int) true a b := by
      rw [spec_ChangedRows.l0]
      by_cases c : (n : Int) < (a.length : Int)
      · rw [if_pos c]
      · rw [if_neg c, decide_eq_true (show (n : Int) < (b.length : Int) by omega)]
    rw [hj]
    simp only [spec_ChangedRows.j1]
    rw [if_pos trivial]

    by_cases c1 : a.length ≤ n
    · rw [if_pos (by omega), if_pos (by omega), e1, ih (n + 1) k _ (by omega) (by omega) (by rw [List.length_append, List.length_singleton]; omega), chL, if_pos (by simp [chgM, c1]), List.append_assoc]
      rfl
    · rw [if_neg (by omega)]
      by_cases c2 : b.length ≤ n
      · rw [if_pos (by omega), if_pos (by omega), e1, ih (n + 1) k _ (by omega) (by omega) (by rw [List.length_append, List.length_singleton]; omega), chL, if_pos (by simp [chgM, c2]), List.append_assoc]
        rfl
      · have ea : rd_L2 a (n : Int) = a.getD n [] := by simp [rd_L2]
        have eb : rd_L2 b (n : Int) = b.getD n [] := by simp [rd_L2]
        rw [if_neg (by omega), if_pos (by omega), if_pos (by omega), if_pos (by omega), ea, eb, E_spec_EqualBytes _ _ (hA _ (getD_mem a n [] (by omega))).2 (hB _ (getD_mem b n [] (by omega))).2]
        simp only [Option.bind_some]
        by_cases c3 : a.getD n [] = b.getD n []
        · rw [if_pos (by rw [decide_eq_true c3]), e1, ih (n + 1) k _ (by omega) (by omega) (by omega), chL, if_neg (by simp only [chgM, decide_eq_true_eq]; exact fun h => h.elim c1 (fun h => h.elim c2 (fun h => h c3)))]
        · rw [if_neg (by rw [decide_eq_false c3]; decide), if_pos (by omega), e1, ih (n + 1) k _ (by omega) (by omega) (by rw [List.length_append, List.length_singleton]; omega), chL, if_pos (by simp only [chgM, decide_eq_true_eq]; exact .inr (.inr c3)), List.append_assoc]
          rfl

-- slices_Equal_byte
theorem E_slices_Equal_byte_l0 (l m : List Int) (hl : l.length ≤ 2097152) (hm : l.length = m.length) : ∀ (d n k : Nat) , n + d = l.length → d + 0 < k → slices_Equal_byte.l0 k l m (l.length : Int) (n : Int) = some (decide (l.drop n = m.drop n)) := by
  intro d
  induction d with
  | zero =>
    intro n k  hn hk 
    obtain ⟨k, rfl⟩ : ∃ m, k = m + 1 := ⟨k - 1, by omega⟩
    simp only [slices_Equal_byte.l0]
    rw [if_neg (by omega), List.drop_eq_nil_of_le (by omega), List.drop_eq_nil_of_le (by omega)]
    rfl
  | succ d ih =>
    intro n k  hn hk 
    obtain ⟨k, rfl⟩ : ∃ m, k = m + 1 := ⟨k - 1, by omega⟩
    have e1 : wrap64 ((n : Int) + 1) = ((n + 1 : Nat) : Int) := by rw [w64 (by omega) (by omega)]; omega
    simp only [slices_Equal_byte.l0]
    rw [if_pos (by omega), if_pos (by omega), if_pos (by omega), if_pos (by omega), e1, rd_nat, rd_nat, getD_drop l n 0 (by omega), getD_drop m n 0 (by omega)]
    by_cases h : l.getD n 0 = m.getD n 0
    · rw [if_pos h, ih (n + 1) k (by omega) (by omega), h]
      simp only [List.cons.injEq, true_and]
    · rw [if_neg h, decide_eq_false (fun e => h (List.cons.inj e).1)]

theorem E_slices_Equal_byte (k : Nat) (l m : List Int) (hk : 4194304 < k) (hl : l.length ≤ 2097152) : slices_Equal_byte.f k l m = some (decide (l = m)) := by
  unfold slices_Equal_byte.f
  by_cases h : (l.length : Int) = (m.length : Int)
  · rw [if_pos h]
    have := E_slices_Equal_byte_l0 l m hl (by omega) l.length 0 k (by omega) (by omega)
    simpa using this
  · rw [if_neg h]
    have : l ≠ m := fun e => h (by rw [e])
    simp [this]

-- impl_ChangedRows
theorem E_impl_ChangedRows_l0 (a b : List (List Int)) (ha : a.length ≤ 1048576) (hb : b.length ≤ 1048576) (hA : ∀ x ∈ a, x.length ≤ 1048576 ∧ ∀ y ∈ x, 0 ≤ y ∧ y ≤ 255) (hB : ∀ x ∈ b, x.length ≤ 1048576 ∧ ∀ y ∈ x, 0 ≤ y ∧ y ≤ 255) : ∀ (d n k : Nat) (m : List Int), n + d = max a.length b.length → d + 4194304 < k → m.length ≤ n → impl_ChangedRows.l0 k m ((max a.length b.length : Nat) : Int) (n : Int) a b = some (m ++ chL a b d n) := by
  intro d
  induction d with
  | zero =>
    intro n k m hn hk hm
    obtain ⟨k, rfl⟩ : ∃ j, k = j + 1 := ⟨k - 1, by omega⟩
    simp only [impl_ChangedRows.l0]
    rw [if_neg (by omega), chL, List.append_nil]
  | succ d ih =>
    intro n k m hn hk hm
    obtain ⟨k, rfl⟩ : ∃ j, k = j + 1 := ⟨k - 1, by omega⟩
    have e1 : wrap64 ((n : Int) + 1) = ((n + 1 : Nat) : Int) := by rw [w64 (by omega) (by omega)]; omega
    have hq : impl_EqualBytes.f k (a.getD n []) (b.getD n []) = some (decide (a.getD n [] = b.getD n [])) := by
      unfold impl_EqualBytes.f
      by_cases c : n < a.length
      · rw [E_slices_Equal_byte k _ _ (by omega) (by have := (hA _ (getD_mem a n [] c)).1; omega)]
        rfl
      · rw [E_slices_Equal_byte k _ _ (by omega) (by rw [List.getD_eq_getElem?_getD, List.getElem?_eq_none (by omega)]; simp)]
        rfl
    simp only [impl_ChangedRows.l0]
    rw [if_pos (by omega)]

    by_cases c1 : a.length ≤ n
    · rw [if_pos (by omega), if_pos (by omega), e1, ih (n + 1) k _ (by omega) (by omega) (by rw [List.length_append, List.length_singleton]; omega), chL, if_pos (by simp [chgM, c1]), List.append_assoc]
      rfl
    · rw [if_neg (by omega)]
      by_cases c2 : b.length ≤ n
      · rw [if_pos (by omega), if_pos (by omega), e1, ih (n + 1) k _ (by omega) (by omega) (by rw [List.length_append, List.length_singleton]; omega), chL, if_pos (by simp [chgM, c2]), List.append_assoc]
        rfl
      · have ea : rd_L2 a (n : Int) = a.getD n [] := by simp [rd_L2]
        have eb : rd_L2 b (n : Int) = b.getD n [] := by simp [rd_L2]
        rw [if_neg (by omega), if_pos (by omega), if_pos (by omega), if_pos (by omega), ea, eb, hq]
        simp only [Option.bind_some]
        by_cases c3 : a.getD n [] = b.getD n []
        · rw [if_pos (by rw [decide_eq_true c3]), e1, ih (n + 1) k _ (by omega) (by omega) (by omega), chL, if_neg (by simp only [chgM, decide_eq_true_eq]; exact fun h => h.elim c1 (fun h => h.elim c2 (fun h => h c3)))]
        · rw [if_neg (by rw [decide_eq_false c3]; decide), if_pos (by omega), e1, ih (n + 1) k _ (by omega) (by omega) (by rw [List.length_append, List.length_singleton]; omega), chL, if_pos (by simp only [chgM, decide_eq_true_eq]; exact .inr (.inr c3)), List.append_assoc]
          rfl

-- markIo
theorem E_laws_markIntS_l0 (l : List Int) (hl : l.length ≤ 2097152) : ∀ (d n k : Nat) (m : List Int) (x : Int), n + d = l.length → d + 0 < k → (m.length = l.length) → (0 ≤ x) → (x + (l.length - n : Nat) ≤ 4194304) → laws_markIntS.l0 k m x (n : Int) = some ((x + (l.length - n : Nat), m.take n ++ markI x (l.length - n))) := by
  intro d
  induction d with
  | zero =>
    intro n k m x hn hk hm h0 h1
    obtain ⟨k, rfl⟩ : ∃ m, k = m + 1 := ⟨k - 1, by omega⟩
    simp only [laws_markIntS.l0]
    have e : l.length - n = 0 := by omega
    rw [if_neg (by omega), e]
    simp only [markI, List.append_nil]
    rw [List.take_of_length_le (by omega)]
    simp
  | succ d ih =>
    intro n k m x hn hk hm h0 h1
    obtain ⟨k, rfl⟩ : ∃ m, k = m + 1 := ⟨k - 1, by omega⟩
    have e1 : wrap64 ((n : Int) + 1) = ((n + 1 : Nat) : Int) := by rw [w64 (by omega) (by omega)]; omega
    simp only [laws_markIntS.l0]
    have e : l.length - n = (l.length - (n + 1)) + 1 := by omega
    rw [if_pos (by omega), if_pos (by omega), e1, w64 (x := x + 1) (by omega) (by omega)]
    rw [ih (n + 1) k _ _ (by omega) (by omega) (by simp; omega) (by omega) (by omega), e]
    simp only [markI]
    rw [show (n : Int).toNat = n by omega, take_set_snoc _ n _ (by omega), List.append_assoc]
    rw [show x + 1 + ((l.length - (n + 1) : Nat) : Int) = x + ((l.length - (n + 1) + 1 : Nat) : Int) by omega]
    rfl

theorem E_laws_markIntS (k : Nat) (l : List Int) (x : Int) (hk : 4194304 < k) (hl : l.length ≤ 2097152) (h0 : 0 ≤ x) (h1 : x ≤ 2097152) : laws_markIntS.f k l x = some (x + l.length, markI x l.length) := by
  unfold laws_markIntS.f
  have := E_laws_markIntS_l0 l hl l.length 0 k l x (by omega) (by omega) rfl h0 (by omega)
  simpa using this

-- heldI
theorem E_laws_heldIntS_l0 (l : List Int) (x0 : Int) (n0 : Nat) (hn0 : n0 ≤ 2097152) (h0 : 0 ≤ x0) (h1 : x0 ≤ 2097152) (hl : l = markI x0 n0) : ∀ (d n k : Nat), n + d = n0 → d < k → laws_heldIntS.l0 k l (x0 + n) (n : Int) = some (x0 + n0) := by
  have hlen : l.length = n0 := by rw [hl, markI_length]
  intro d
  induction d with
  | zero =>
    intro n k hn hk
    obtain ⟨k, rfl⟩ : ∃ m, k = m + 1 := ⟨k - 1, by omega⟩
    simp only [laws_heldIntS.l0]
    rw [if_neg (by omega)]
    congr 1
    omega
  | succ d ih =>
    intro n k hn hk
    obtain ⟨k, rfl⟩ : ∃ m, k = m + 1 := ⟨k - 1, by omega⟩
    simp only [laws_heldIntS.l0]
    rw [if_pos (by omega), if_pos (by omega), rd_nat, hl, markI_get _ _ _ (by omega), if_pos rfl, w64 (by omega) (by omega), w64 (by omega) (by omega), ← hl]
    have := ih (n + 1) k (by omega) (by omega)
    rw [← this]
    congr 1
    · omega
theorem E_laws_heldIntS (k : Nat) (x : Int) (n : Nat) (hk : 4194304 < k) (hn : n ≤ 2097152) (h0 : 0 ≤ x) (h1 : x ≤ 2097152) : laws_heldIntS.f k (markI x n) x = some (x + n) := by
  unfold laws_heldIntS.f
  have := E_laws_heldIntS_l0 (markI x n) x n hn h0 h1 rfl n 0 k (by omega) (by omega)
  simpa using this

-- markI

-- FnExactChangedRows
theorem FnExactChangedRows : laws_FnExactChangedRows.Pure := by
  intro a b hA hB
  have ha := hA.1
  have hb := hB.1
  have hwa : ∀ x ∈ a, x.length ≤ 9223372036854775807 := fun x hx => by have := (hA.2 x hx).1; unfold maxLen at this; omega
  have hwb : ∀ x ∈ b, x.length ≤ 9223372036854775807 := fun x hx => by have := (hB.2 x hx).1; unfold maxLen at this; omega
  unfold maxLen at ha hb
  refine ⟨16777216, ?_⟩
  unfold laws_FnExactChangedRows.f
  obtain ⟨v, hv, hv1, hv2⟩ := Z_laws_szDatabase 16777216 a 1048576 (by omega) (by omega) hwa (by omega) (by omega)
  rw [hv]
  simp only [Option.bind_some]
  by_cases cc : v < 0
  · rw [if_pos cc]
  · have hs := hv2 (by omega)
    have hs0 := sumLen_nonneg a
    obtain ⟨u, hu, hu1, hu2⟩ := Z_laws_szDatabase 16777216 b v (by omega) (by omega) hwb (by omega) (by omega)
    rw [if_neg cc, hu]
    simp only [Option.bind_some]
    by_cases cu : u < 0
    · rw [if_pos cu]
    · have ht := hu2 (by omega)
      have ht0 := sumLen_nonneg b
      have hs : a.length + sumLen a ≤ 1048576 := by omega
      have ht : b.length + sumLen b ≤ 1048576 := by omega
      have hAw : ∀ x ∈ a, x.length ≤ 1048576 ∧ ∀ y ∈ x, 0 ≤ y ∧ y ≤ 255 := fun x hx => ⟨by have := mem_sumLen a x hx; omega, fun y hy => wf8 ((hA.2 x hx).2 y hy)⟩
      have hBw : ∀ x ∈ b, x.length ≤ 1048576 ∧ ∀ y ∈ x, 0 ≤ y ∧ y ≤ 255 := fun x hx => ⟨by have := mem_sumLen b x hx; omega, fun y hy => wf8 ((hB.2 x hx).2 y hy)⟩
      obtain ⟨g, hg⟩ : ∃ g, g = chL a b (max a.length b.length) 0 := ⟨_, rfl⟩
      have hgl : g.length ≤ 1048576 := by rw [hg]; have := chL_length a b (max a.length b.length) 0; omega
      have e1 : spec_ChangedRows.f 16777216 a b = some g := by
        unfold spec_ChangedRows.f
        rw [hg]
        exact E_spec_ChangedRows_l0 a b (by omega) (by omega) hAw hBw _ 0 _ [] (by omega) (by omega) (by simp)
      have e2 : impl_ChangedRows.f 16777216 a b = some g := by
        unfold impl_ChangedRows.f
        rw [hg, show mx (a.length : Int) (b.length : Int) = ((max a.length b.length : Nat) : Int) by unfold mx; split <;> omega]
        exact E_impl_ChangedRows_l0 a b (by omega) (by omega) hAw hBw _ 0 _ [] (by omega) (by omega) (by simp)
      rw [if_neg cu, E_laws_toDatabase _ a (by omega) hs, E_laws_toDatabase _ b (by omega) ht]
      simp only [Option.bind_some]
      rw [e1, e2]
      simp only [Option.bind_some]
      rw [E_laws_eqIntS _ g g (by omega) (by omega), E_laws_eqDatabase _ a (by omega) hs, E_laws_eqDatabase _ b (by omega) ht, E_laws_markDatabase _ a 1 (by omega) (by omega) (by omega) (by omega)]
      simp only [Option.bind_some]
      rw [E_laws_markDatabase _ b _ (by omega) (by omega) (by omega) (by omega), E_laws_markIntS _ g 1 (by omega) (by omega) (by omega) (by omega)]
      simp only [Option.bind_some]
      rw [E_laws_heldIntS _ 1 g.length (by omega) (by omega) (by omega) (by omega)]
      simp only [Option.bind_some]
      simp
      omega
end Go.Proofs.Ytcdaiclfomekhaa.Pure
