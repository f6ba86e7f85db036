/- FnExactVerifyRow: what the law's functions compute, over numbers and lists, answers true for every input that its bounds let in. -/
import Derived.Test.YtofkfagfdeohmaaM
import Derived.Test.YtofkfagfdeohmaaQxLKKLJI
namespace Go.Proofs.Ytofkfagfdeohmaa.Pure
open Go.RowKit Go.Proofs.Ytofkfagfdeohmaa.M Go.Proofs.Ytofkfagfdeohmaa.Q Go.Proofs.YtofkfagfdeohmaaW.PrintWords Go.Proofs.YtofkfagfdeohmaaW.PrintLast
set_option linter.unusedVariables false
set_option linter.unusedSimpArgs false
-- laws_toIntS
theorem E_laws_toIntS_l0 (l : List Int) (hl : l.length ≤ 2097152) : ∀ (d n k : Nat) (m : List Int), n + d = l.length → d + 0 < k → (m.length = l.length) → laws_toIntS.l0 k l m (n : Int) = some (m.take n ++ l.drop n) := by
  intro d
  induction d with
  | zero =>
    intro n k m hn hk hm
    obtain ⟨k, rfl⟩ : ∃ m, k = m + 1 := ⟨k - 1, by omega⟩
    simp only [laws_toIntS.l0]
    rw [if_neg (by omega), List.drop_eq_nil_of_le (by omega), List.append_nil, List.take_of_length_le (by omega)]
  | succ d ih =>
    intro n k m hn hk hm
    obtain ⟨k, rfl⟩ : ∃ m, k = m + 1 := ⟨k - 1, by omega⟩
    have e1 : wrap64 ((n : Int) + 1) = ((n + 1 : Nat) : Int) := by rw [w64 (by omega) (by omega)]; omega
    simp only [laws_toIntS.l0]
    rw [if_pos (by omega), if_pos (by omega), if_pos (by omega), e1, rd_nat]
    rw [ih (n + 1) k _ (by omega) (by omega) (by simp; omega), getD_drop l n 0 (by omega)]
    rw [show (n : Int).toNat = n by omega, take_set_snoc _ n _ (by omega), List.append_assoc]
    rfl

theorem E_laws_toIntS (k : Nat) (l : List Int) (hk : 4194304 < k) (hl : l.length ≤ 2097152) : laws_toIntS.f k l = some l := by
  unfold laws_toIntS.f
  rw [if_pos (by omega), if_pos (by omega)]
  have := E_laws_toIntS_l0 l hl l.length 0 k (List.replicate ((l.length : Int) : Int).toNat 0) (by omega) (by omega) (by simp)
  simpa using this

-- laws_eqIntS
theorem E_laws_eqIntS_l0 (l m : List Int) (hl : l.length ≤ 2097152) (hm : l.length = m.length) : ∀ (d n k : Nat) , n + d = l.length → d + 0 < k → laws_eqIntS.l0 k l m (n : Int) = some (decide (l.drop n = m.drop n)) := by
  intro d
  induction d with
  | zero =>
    intro n k  hn hk 
    obtain ⟨k, rfl⟩ : ∃ m, k = m + 1 := ⟨k - 1, by omega⟩
    simp only [laws_eqIntS.l0]
    rw [if_neg (by omega), List.drop_eq_nil_of_le (by omega), List.drop_eq_nil_of_le (by omega)]
    rfl
  | succ d ih =>
    intro n k  hn hk 
    obtain ⟨k, rfl⟩ : ∃ m, k = m + 1 := ⟨k - 1, by omega⟩
    have e1 : wrap64 ((n : Int) + 1) = ((n + 1 : Nat) : Int) := by rw [w64 (by omega) (by omega)]; omega
    simp only [laws_eqIntS.l0]
    rw [if_pos (by omega), if_pos (by omega), if_pos (by omega), e1, rd_nat, rd_nat, getD_drop l n 0 (by omega), getD_drop m n 0 (by omega)]
    by_cases h : l.getD n 0 = m.getD n 0
    · rw [if_pos h, ih (n + 1) k (by omega) (by omega), h]
      simp only [List.cons.injEq, true_and]
    · rw [if_neg h, decide_eq_false (fun e => h (List.cons.inj e).1)]

theorem E_laws_eqIntS (k : Nat) (l m : List Int) (hk : 4194304 < k) (hl : l.length ≤ 2097152) : laws_eqIntS.f k l m = some (decide (l = m)) := by
  unfold laws_eqIntS.f
  by_cases h : (l.length : Int) = (m.length : Int)
  · rw [if_pos h]
    have := E_laws_eqIntS_l0 l m hl (by omega) l.length 0 k (by omega) (by omega)
    simpa using this
  · rw [if_neg h]
    have : l ≠ m := fun e => h (by rw [e])
    simp [this]

-- laws_toByteS
theorem E_laws_toByteS_l0 (l : List Int) (hl : l.length ≤ 2097152) : ∀ (d n k : Nat) (m : List Int), n + d = l.length → d + 0 < k → (m.length = l.length) → laws_toByteS.l0 k l m (n : Int) = some (m.take n ++ l.drop n) := by
  intro d
  induction d with
  | zero =>
    intro n k m hn hk hm
    obtain ⟨k, rfl⟩ : ∃ m, k = m + 1 := ⟨k - 1, by omega⟩
    simp only [laws_toByteS.l0]
    rw [if_neg (by omega), List.drop_eq_nil_of_le (by omega), List.append_nil, List.take_of_length_le (by omega)]
  | succ d ih =>
    intro n k m hn hk hm
    obtain ⟨k, rfl⟩ : ∃ m, k = m + 1 := ⟨k - 1, by omega⟩
    have e1 : wrap64 ((n : Int) + 1) = ((n + 1 : Nat) : Int) := by rw [w64 (by omega) (by omega)]; omega
    simp only [laws_toByteS.l0]
    rw [if_pos (by omega), if_pos (by omega), if_pos (by omega), e1, rd_nat]
    rw [ih (n + 1) k _ (by omega) (by omega) (by simp; omega), getD_drop l n 0 (by omega)]
    rw [show (n : Int).toNat = n by omega, take_set_snoc _ n _ (by omega), List.append_assoc]
    rfl

theorem E_laws_toByteS (k : Nat) (l : List Int) (hk : 4194304 < k) (hl : l.length ≤ 2097152) : laws_toByteS.f k l = some l := by
  unfold laws_toByteS.f
  rw [if_pos (by omega), if_pos (by omega)]
  have := E_laws_toByteS_l0 l hl l.length 0 k (List.replicate ((l.length : Int) : Int).toNat 0) (by omega) (by omega) (by simp)
  simpa using this

-- laws_eqByteS
theorem E_laws_eqByteS_l0 (l m : List Int) (hl : l.length ≤ 2097152) (hm : l.length = m.length) : ∀ (d n k : Nat) , n + d = l.length → d + 0 < k → laws_eqByteS.l0 k l m (n : Int) = some (decide (l.drop n = m.drop n)) := by
  intro d
  induction d with
  | zero =>
    intro n k  hn hk 
    obtain ⟨k, rfl⟩ : ∃ m, k = m + 1 := ⟨k - 1, by omega⟩
    simp only [laws_eqByteS.l0]
    rw [if_neg (by omega), List.drop_eq_nil_of_le (by omega), List.drop_eq_nil_of_le (by omega)]
    rfl
  | succ d ih =>
    intro n k  hn hk 
    obtain ⟨k, rfl⟩ : ∃ m, k = m + 1 := ⟨k - 1, by omega⟩
    have e1 : wrap64 ((n : Int) + 1) = ((n + 1 : Nat) : Int) := by rw [w64 (by omega) (by omega)]; omega
    simp only [laws_eqByteS.l0]
    rw [if_pos (by omega), if_pos (by omega), if_pos (by omega), e1, rd_nat, rd_nat, getD_drop l n 0 (by omega), getD_drop m n 0 (by omega)]
    by_cases h : l.getD n 0 = m.getD n 0
    · rw [if_pos h, ih (n + 1) k (by omega) (by omega), h]
      simp only [List.cons.injEq, true_and]
    · rw [if_neg h, decide_eq_false (fun e => h (List.cons.inj e).1)]

theorem E_laws_eqByteS (k : Nat) (l m : List Int) (hk : 4194304 < k) (hl : l.length ≤ 2097152) : laws_eqByteS.f k l m = some (decide (l = m)) := by
  unfold laws_eqByteS.f
  by_cases h : (l.length : Int) = (m.length : Int)
  · rw [if_pos h]
    have := E_laws_eqByteS_l0 l m hl (by omega) l.length 0 k (by omega) (by omega)
    simpa using this
  · rw [if_neg h]
    have : l ≠ m := fun e => h (by rw [e])
    simp [this]

-- Z_szIntS
theorem Z_laws_szIntS (l : List Int) (n : Int) (hl : l.length ≤ 9223372036854775807) (h0 : 0 ≤ n) (h1 : n ≤ 1048576) : ∃ v, laws_szIntS.f l n = some v ∧ -1 ≤ v ∧ (0 ≤ v → v ≤ n ∧ (l.length : Int) ≤ n) := by
  unfold laws_szIntS.f
  rw [w64 (by omega) (by omega)]
  by_cases h : (l.length : Int) ≤ n
  · rw [if_neg (by omega)]
    exact ⟨_, rfl, by omega, fun _ => by omega⟩
  · rw [if_pos (by omega)]
    exact ⟨_, rfl, by omega, fun h => absurd h (by omega)⟩

-- verM
def verM (x : Int) : List Int → Int → Int → Int
  | [], _, h => h
  | y :: l, i, h => verM x l (i + 1) (if Go.bits .and .i64 (shr .i64 x i) 1 = 1 then hashM [167, y, h] else hashM [167, h, y])

-- l1In
theorem E_spec_l1In (a b c : Int) : spec_l1In.f a b c = some (decide (b ≤ a ∧ a ≤ c)) := by
  unfold spec_l1In.f
  by_cases h : a ≥ b
  · rw [if_pos h]; simp [show b ≤ a from h]
  · rw [if_neg h]; simp [show ¬ b ≤ a from h]

-- InRange
theorem E_impl_InRange (a b c : Int) : impl_InRange.f a b c = some (decide (b ≤ a ∧ a ≤ c)) := by
  unfold impl_InRange.f
  by_cases h : b ≤ a
  · rw [if_pos h]; simp [h]
  · rw [if_neg h]; simp [h]

-- treeDepth
theorem tree_same : ∀ (k : Nat) (x i : Int), spec_TreeDepth.l0 k x i = impl_TreeDepth.l0 k x i := by
  intro k
  induction k with
  | zero => intro x i; rfl
  | succ k ih => intro x i; simp only [spec_TreeDepth.l0, impl_TreeDepth.l0, ih]
theorem tree_ends (x : Int) (hx : x ≤ 64) : ∀ (d : Nat) (k i : Nat), i + d = 6 → d < k → ∃ r, impl_TreeDepth.l0 k x (i : Int) = some r := by
  intro d
  induction d with
  | zero =>
    intro k i hi hk
    obtain ⟨k, rfl⟩ : ∃ m, k = m + 1 := ⟨k - 1, by omega⟩
    obtain rfl : i = 6 := by omega
    refine ⟨((6 : Nat) : Int), ?_⟩
    simp only [impl_TreeDepth.l0]
    rw [if_pos (by omega), if_neg (by rw [show shl .i64 1 ((6 : Nat) : Int) = 64 by decide]; omega)]
  | succ d ih =>
    intro k i hi hk
    obtain ⟨k, rfl⟩ : ∃ m, k = m + 1 := ⟨k - 1, by omega⟩
    simp only [impl_TreeDepth.l0]
    rw [if_pos (by omega)]
    split
    · rw [w64 (by omega) (by omega)]
      have := ih k (i + 1) (by omega) (by omega)
      simpa using this
    · exact ⟨_, rfl⟩
theorem E_TreeDepth (k : Nat) (a0 : Int) (hk : 8 < k) : ∃ r, spec_TreeDepth.f k a0 = some r ∧ impl_TreeDepth.f k a0 = some r := by
  unfold spec_TreeDepth.f impl_TreeDepth.f
  rw [E_spec_l1In, E_impl_InRange]
  simp only [Option.bind_some, decide_eq_true_eq]
  by_cases h : 0 ≤ a0 ∧ a0 ≤ 64
  · rw [if_pos h, if_pos h, tree_same]
    obtain ⟨r, hr⟩ := tree_ends a0 h.2 6 k 0 (by omega) (by omega)
    rw [show ((0 : Nat) : Int) = 0 from rfl] at hr
    exact ⟨r, hr, hr⟩
  · rw [if_neg h, if_neg h]
    exact ⟨-1, rfl, rfl⟩

-- spec_Mod
theorem E_spec_Mod (a b : Int) : spec_Mod.f a b = some (modM a b) := by
  unfold spec_Mod.f modM
  rw [E_spec_l1In]
  simp only [Option.bind_some, decide_eq_true_eq]
  by_cases h : 1 ≤ b ∧ b ≤ 1000000000000
  · rw [if_pos h, if_pos h, if_neg (by omega)]
  · rw [if_neg h, if_neg h]

-- spec_Hash
theorem E_spec_Hash_l0 (l : List Int) (hl : l.length ≤ 4194304) : ∀ (d n k : Nat) (h : Int), n + d = l.length → d + 0 < k → spec_Hash.l0 k l h (n : Int) = some ((l.drop n).foldl stepM h) := by
  intro d
  induction d with
  | zero =>
    intro n k h hn hk 
    obtain ⟨k, rfl⟩ : ∃ m, k = m + 1 := ⟨k - 1, by omega⟩
    simp only [spec_Hash.l0]
    rw [if_neg (by omega), List.drop_eq_nil_of_le (by omega)]
    rfl
  | succ d ih =>
    intro n k h hn hk 
    obtain ⟨k, rfl⟩ : ∃ m, k = m + 1 := ⟨k - 1, by omega⟩
    have e1 : wrap64 ((n : Int) + 1) = ((n + 1 : Nat) : Int) := by rw [w64 (by omega) (by omega)]; omega
    simp only [spec_Hash.l0]
    rw [if_pos (by omega), if_pos (by omega), E_spec_Mod]
    simp only [Option.bind_some]
    rw [e1, rd_nat]
    rw [show (Int.tmod (wrap64 (wrap64 (wrap64 (h * 1000003) + modM (l.getD n 0) 2147483647) + 13)) 2147483647) = stepM h (l.getD n 0) from rfl]
    rw [ih (n + 1) k _ (by omega) (by omega), getD_drop l n 0 (by omega)]
    rfl

theorem E_spec_Hash (k : Nat) (l : List Int) (hk : 4194304 < k) (hl : l.length ≤ 4194304) : spec_Hash.f k l = some (hashM l) := by
  unfold spec_Hash.f
  have := E_spec_Hash_l0 l hl l.length 0 k 11 (by omega) (by omega)
  simpa [hashM] using this

-- spec_NodeHash
theorem E_spec_NodeHash (k : Nat) (a b : Int) (hk : 4194304 < k) : spec_NodeHash.f k a b = some (hashM [167, a, b]) := by
  unfold spec_NodeHash.f
  rw [E_spec_Hash k _ hk (by simp)]
  rfl

-- spec_BytesToInts
theorem E_spec_BytesToInts_l0 (l : List Int) (hl : l.length ≤ 2097152) (hb : ∀ x ∈ l, 0 ≤ x ∧ x ≤ 255) : ∀ (d n k : Nat) (acc : List Int), n + d = l.length → d + 0 < k → (acc.length ≤ n + 1) → spec_BytesToInts.l0 k l acc (n : Int) = some (acc ++ l.drop n) := by
  intro d
  induction d with
  | zero =>
    intro n k acc hn hk ha
    obtain ⟨k, rfl⟩ : ∃ m, k = m + 1 := ⟨k - 1, by omega⟩
    simp only [spec_BytesToInts.l0]
    rw [if_neg (by omega), List.drop_eq_nil_of_le (by omega), List.append_nil]
  | succ d ih =>
    intro n k acc hn hk ha
    obtain ⟨k, rfl⟩ : ∃ m, k = m + 1 := ⟨k - 1, by omega⟩
    have e1 : wrap64 ((n : Int) + 1) = ((n + 1 : Nat) : Int) := by rw [w64 (by omega) (by omega)]; omega
    simp only [spec_BytesToInts.l0]
    have hx := hb (l.getD n 0) (by rw [List.getD_eq_getElem?_getD, List.getElem?_eq_getElem (show n < l.length by omega)]; exact List.getElem_mem _)
    rw [if_pos (by omega), if_pos (by omega), if_pos (by omega), e1, rd_nat, w64 (by omega) (by omega)]
    rw [ih (n + 1) k _ (by omega) (by omega) (by simp; omega), getD_drop l n 0 (by omega), List.append_assoc]
    rfl

theorem E_spec_BytesToInts (k : Nat) (l : List Int) (hk : 4194304 < k) (hl : l.length ≤ 2097152) (hb : ∀ x ∈ l, 0 ≤ x ∧ x ≤ 255) : spec_BytesToInts.f k l = some ((l.length : Int) :: l) := by
  unfold spec_BytesToInts.f
  have := E_spec_BytesToInts_l0 l hl hb l.length 0 k [(l.length : Int)] (by omega) (by omega) (by simp)
  simpa using this

-- spec_RowHash
theorem E_spec_RowHash (k : Nat) (a : Int) (l : List Int) (hk : 4194304 < k) (hl : l.length ≤ 2097152) (hb : ∀ x ∈ l, 0 ≤ x ∧ x ≤ 255) : spec_RowHash.f k a l = some (hashM (163 :: a :: (l.length : Int) :: l)) := by
  unfold spec_RowHash.f
  simp only [Option.bind_some]
  rw [E_spec_BytesToInts k l hk hl hb]
  simp only [Option.bind_some]
  rw [if_pos (by simp; omega), E_spec_Hash k _ hk (by simp; omega)]
  rfl

-- spec_VerifyRow
theorem E_spec_VerifyRow_l0 (r x : Int) (l : List Int) (hl : l.length ≤ 1048577) : ∀ (d n k : Nat) (h : Int), n + d = l.length → d + 4194310 < k → spec_VerifyRow.l0 k r h (n : Int) x l = some (verM x (l.drop n) (n : Int) h == r) := by
  intro d
  induction d with
  | zero =>
    intro n k h hn hk 
    obtain ⟨k, rfl⟩ : ∃ m, k = m + 1 := ⟨k - 1, by omega⟩
    simp only [spec_VerifyRow.l0]
    rw [if_neg (by omega), List.drop_eq_nil_of_le (by omega)]
    rfl
  | succ d ih =>
    intro n k h hn hk 
    obtain ⟨k, rfl⟩ : ∃ m, k = m + 1 := ⟨k - 1, by omega⟩
    have e1 : wrap64 ((n : Int) + 1) = ((n + 1 : Nat) : Int) := by rw [w64 (by omega) (by omega)]; omega
    simp only [spec_VerifyRow.l0]
    have e2 : ((n + 1 : Nat) : Int) = (n : Int) + 1 := by omega
    rw [if_pos (by omega), if_pos (by omega), rd_nat, getD_drop l n 0 (by omega)]
    simp only [verM]
    by_cases cc : Go.bits .and .i64 (shr .i64 x (n : Int)) 1 = 1
    · rw [if_pos cc, if_pos cc, E_spec_NodeHash k _ _ (by omega)]
      simp only [Option.bind_some]
      rw [e1, ih (n + 1) k _ (by omega) (by omega), e2]
    · rw [if_neg cc, if_neg cc, E_spec_NodeHash k _ _ (by omega)]
      simp only [Option.bind_some]
      rw [e1, ih (n + 1) k _ (by omega) (by omega), e2]

theorem E_spec_VerifyRow (k : Nat) (a n x : Int) (l m : List Int) (d : Int) (hd : spec_TreeDepth.f k n = some d) (hk : 12582912 < k) (hl : l.length ≤ 1048577) (hm : m.length ≤ 2097152) (hb : ∀ y ∈ m, 0 ≤ y ∧ y ≤ 255) :
    spec_VerifyRow.f k a n x l m = some (if (m.length : Int) = 24 ∧ (0 ≤ x ∧ x ≤ wrap64 (n - 1)) ∧ (l.length : Int) = d then (verM x l 0 (hashM (163 :: x :: (m.length : Int) :: m)) == a) else false) := by
  have hj : ∀ z : Bool, spec_VerifyRow.j0 k a m z x l = some (if z = true then false else (verM x l 0 (hashM (163 :: x :: (m.length : Int) :: m)) == a)) := by
    intro z
    obtain ⟨k, rfl⟩ : ∃ j, k = j + 1 := ⟨k - 1, by omega⟩
    simp only [spec_VerifyRow.j0]
    by_cases h : z = true
    · rw [if_pos h, if_pos h]
    · rw [if_neg h, if_neg h, E_spec_RowHash k x m (by omega) hm hb]
      simp only [Option.bind_some]
      have := E_spec_VerifyRow_l0 a x l hl l.length 0 k (hashM (163 :: x :: (m.length : Int) :: m)) (by omega) (by omega)
      rw [List.drop_zero] at this
      exact this
  unfold spec_VerifyRow.f
  rw [E_spec_l1In, hd]
  simp only [Option.bind_some, decide_eq_true_eq, hj]
  by_cases h1 : (m.length : Int) = 24
  · rw [if_pos h1]
    by_cases h2 : 0 ≤ x ∧ x ≤ wrap64 (n - 1)
    · rw [if_pos h2]
      by_cases h3 : (l.length : Int) = d
      · rw [if_neg (by simp [h3]), if_pos ⟨h1, h2, h3⟩]
      · rw [if_pos (by simp [h3]), if_neg (fun h => h3 h.2.2)]
    · rw [if_neg h2, if_pos trivial, if_neg (fun h => h2 h.2.1)]
  · rw [if_neg h1, if_pos trivial, if_neg (fun h => h1 h.1)]

-- impl_Mod
theorem E_impl_Mod (a b : Int) : impl_Mod.f a b = some (modM a b) := by
  unfold impl_Mod.f modM
  rw [E_impl_InRange]
  simp only [Option.bind_some, decide_eq_true_eq]
  by_cases h : 1 ≤ b ∧ b ≤ 1000000000000
  · rw [if_pos h, if_pos h, if_neg (by omega)]
  · rw [if_neg h, if_neg h]

-- impl_Hash
theorem E_impl_Hash_l0 (l : List Int) (hl : l.length ≤ 4194304) : ∀ (d n k : Nat) (h : Int), n + d = l.length → d + 0 < k → impl_Hash.l0 k h l (l.length : Int) (n : Int) = some ((l.drop n).foldl stepM h) := by
  intro d
  induction d with
  | zero =>
    intro n k h hn hk 
    obtain ⟨k, rfl⟩ : ∃ m, k = m + 1 := ⟨k - 1, by omega⟩
    simp only [impl_Hash.l0]
    rw [if_neg (by omega), List.drop_eq_nil_of_le (by omega)]
    rfl
  | succ d ih =>
    intro n k h hn hk 
    obtain ⟨k, rfl⟩ : ∃ m, k = m + 1 := ⟨k - 1, by omega⟩
    have e1 : wrap64 ((n : Int) + 1) = ((n + 1 : Nat) : Int) := by rw [w64 (by omega) (by omega)]; omega
    simp only [impl_Hash.l0]
    rw [if_pos (by omega), if_pos (by omega), if_pos (by omega), E_impl_Mod]
    simp only [Option.bind_some]
    rw [e1, rd_nat]
    rw [show (Int.tmod (wrap64 (wrap64 (wrap64 (h * 1000003) + modM (l.getD n 0) 2147483647) + 13)) 2147483647) = stepM h (l.getD n 0) from rfl]
    rw [ih (n + 1) k _ (by omega) (by omega), getD_drop l n 0 (by omega)]
    rfl

theorem E_impl_Hash (k : Nat) (l : List Int) (hk : 4194304 < k) (hl : l.length ≤ 4194304) : impl_Hash.f k l = some (hashM l) := by
  unfold impl_Hash.f
  have := E_impl_Hash_l0 l hl l.length 0 k 11 (by omega) (by omega)
  simpa [hashM] using this

-- impl_NodeHash
theorem E_impl_NodeHash (k : Nat) (a b : Int) (hk : 4194304 < k) : impl_NodeHash.f k a b = some (hashM [167, a, b]) := by
  unfold impl_NodeHash.f
  rw [E_impl_Hash k _ hk (by simp)]
  rfl

-- impl_BytesToInts
theorem E_impl_BytesToInts_l0 (l : List Int) (hl : l.length ≤ 2097152) (hb : ∀ x ∈ l, 0 ≤ x ∧ x ≤ 255) : ∀ (d n k : Nat) (acc : List Int), n + d = l.length → d + 0 < k → (acc.length ≤ n + 1) → impl_BytesToInts.l0 k acc l (l.length : Int) (n : Int) = some (acc ++ l.drop n) := by
  intro d
  induction d with
  | zero =>
    intro n k acc hn hk ha
    obtain ⟨k, rfl⟩ : ∃ m, k = m + 1 := ⟨k - 1, by omega⟩
    simp only [impl_BytesToInts.l0]
    rw [if_neg (by omega), List.drop_eq_nil_of_le (by omega), List.append_nil]
  | succ d ih =>
    intro n k acc hn hk ha
    obtain ⟨k, rfl⟩ : ∃ m, k = m + 1 := ⟨k - 1, by omega⟩
    have e1 : wrap64 ((n : Int) + 1) = ((n + 1 : Nat) : Int) := by rw [w64 (by omega) (by omega)]; omega
    simp only [impl_BytesToInts.l0]
    have hx := hb (l.getD n 0) (by rw [List.getD_eq_getElem?_getD, List.getElem?_eq_getElem (show n < l.length by omega)]; exact List.getElem_mem _)
    rw [if_pos (by omega), if_pos (by omega), if_pos (by omega), if_pos (by omega), e1, rd_nat, w64 (by omega) (by omega)]
    rw [ih (n + 1) k _ (by omega) (by omega) (by simp; omega), getD_drop l n 0 (by omega), List.append_assoc]
    rfl

theorem E_impl_BytesToInts (k : Nat) (l : List Int) (hk : 4194304 < k) (hl : l.length ≤ 2097152) (hb : ∀ x ∈ l, 0 ≤ x ∧ x ≤ 255) : impl_BytesToInts.f k l = some ((l.length : Int) :: l) := by
  unfold impl_BytesToInts.f
  have := E_impl_BytesToInts_l0 l hl hb l.length 0 k [(l.length : Int)] (by omega) (by omega) (by simp)
  simpa using this

-- impl_RowHash
theorem E_impl_RowHash (k : Nat) (a : Int) (l : List Int) (hk : 4194304 < k) (hl : l.length ≤ 2097152) (hb : ∀ x ∈ l, 0 ≤ x ∧ x ≤ 255) : impl_RowHash.f k a l = some (hashM (163 :: a :: (l.length : Int) :: l)) := by
  unfold impl_RowHash.f
  simp only [Option.bind_some]
  rw [E_impl_BytesToInts k l hk hl hb]
  simp only [Option.bind_some]
  rw [if_pos (by simp; omega), E_impl_Hash k _ hk (by simp; omega)]
  rfl

-- impl_VerifyRow
theorem E_impl_VerifyRow_l0 (r x : Int) (l : List Int) (hl : l.length ≤ 1048577) : ∀ (d n k : Nat) (h : Int), n + d = l.length → d + 4194310 < k → impl_VerifyRow.l0 k r h l (l.length : Int) (n : Int) x l = some (verM x (l.drop n) (n : Int) h == r) := by
  intro d
  induction d with
  | zero =>
    intro n k h hn hk 
    obtain ⟨k, rfl⟩ : ∃ m, k = m + 1 := ⟨k - 1, by omega⟩
    simp only [impl_VerifyRow.l0]
    rw [if_neg (by omega), List.drop_eq_nil_of_le (by omega)]
    rfl
  | succ d ih =>
    intro n k h hn hk 
    obtain ⟨k, rfl⟩ : ∃ m, k = m + 1 := ⟨k - 1, by omega⟩
    have e1 : wrap64 ((n : Int) + 1) = ((n + 1 : Nat) : Int) := by rw [w64 (by omega) (by omega)]; omega
    simp only [impl_VerifyRow.l0]
    have e2 : ((n + 1 : Nat) : Int) = (n : Int) + 1 := by omega
    rw [if_pos (by omega), if_pos (by omega), if_pos (by omega), rd_nat, getD_drop l n 0 (by omega)]
    simp only [verM]
    by_cases cc : Go.bits .and .i64 (shr .i64 x (n : Int)) 1 = 1
    · rw [if_pos cc, if_pos cc, E_impl_NodeHash k _ _ (by omega)]
      simp only [Option.bind_some]
      rw [e1, ih (n + 1) k _ (by omega) (by omega), e2]
    · rw [if_neg cc, if_neg cc, E_impl_NodeHash k _ _ (by omega)]
      simp only [Option.bind_some]
      rw [e1, ih (n + 1) k _ (by omega) (by omega), e2]

theorem E_impl_VerifyRow (k : Nat) (a n x : Int) (l m : List Int) (d : Int) (hd : impl_TreeDepth.f k n = some d) (hk : 12582912 < k) (hl : l.length ≤ 1048577) (hm : m.length ≤ 2097152) (hb : ∀ y ∈ m, 0 ≤ y ∧ y ≤ 255) :
    impl_VerifyRow.f k a n x l m = some (if (m.length : Int) = 24 ∧ (0 ≤ x ∧ x ≤ wrap64 (n - 1)) ∧ (l.length : Int) = d then (verM x l 0 (hashM (163 :: x :: (m.length : Int) :: m)) == a) else false) := by
  have hj : ∀ z : Bool, impl_VerifyRow.j0 k a m z x l = some (if z = true then false else (verM x l 0 (hashM (163 :: x :: (m.length : Int) :: m)) == a)) := by
    intro z
    obtain ⟨k, rfl⟩ : ∃ j, k = j + 1 := ⟨k - 1, by omega⟩
    simp only [impl_VerifyRow.j0]
    by_cases h : z = true
    · rw [if_pos h, if_pos h]
    · rw [if_neg h, if_neg h, E_impl_RowHash k x m (by omega) hm hb]
      simp only [Option.bind_some]
      have := E_impl_VerifyRow_l0 a x l hl l.length 0 k (hashM (163 :: x :: (m.length : Int) :: m)) (by omega) (by omega)
      rw [List.drop_zero] at this
      exact this
  unfold impl_VerifyRow.f
  rw [E_impl_InRange, hd]
  simp only [Option.bind_some, decide_eq_true_eq, hj]
  by_cases h1 : (m.length : Int) = 24
  · rw [if_pos h1]
    by_cases h2 : 0 ≤ x ∧ x ≤ wrap64 (n - 1)
    · rw [if_pos h2]
      by_cases h3 : (l.length : Int) = d
      · rw [if_neg (by simp [h3]), if_pos ⟨h1, h2, h3⟩]
      · rw [if_pos (by simp [h3]), if_neg (fun h => h3 h.2.2)]
    · rw [if_neg h2, if_pos trivial, if_neg (fun h => h2 h.2.1)]
  · rw [if_neg h1, if_pos trivial, if_neg (fun h => h1 h.1)]

-- FnExactVerifyRow
theorem E_laws_toRowProof (k : Nat) (a : Int) (l : List Int) (hk : 4194304 < k) (hl : l.length ≤ 2097152) : laws_toRowProof.f k a l = some (a, l) := by
  unfold laws_toRowProof.f
  rw [E_laws_toIntS k l hk hl]
  rfl
theorem E_laws_eqRowProof (k : Nat) (a : Int) (l : List Int) (hk : 4194304 < k) (hl : l.length ≤ 2097152) : laws_eqRowProof.f k a l a l = some true := by
  unfold laws_eqRowProof.f
  rw [if_pos rfl, E_laws_eqIntS k l l hk hl]
  simp
theorem FnExactVerifyRow : laws_FnExactVerifyRow.Pure := by
  intro a n x l m ha hn hx hl hm
  have hb : ∀ y ∈ m, 0 ≤ y ∧ y ≤ 255 := fun y hy => wf8 (hm.2 y hy)
  have hl := hl.1
  unfold maxLen at hl
  refine ⟨16777216, ?_⟩
  unfold laws_FnExactVerifyRow.f
  by_cases hg : (m.length : Int) > 1048576
  · rw [if_pos hg]
  · rw [if_neg hg]
    unfold laws_szRowProof.f
    obtain ⟨v, hv, hv1, hv2⟩ := Z_laws_szIntS l 1048576 (by omega) (by omega) (by omega)
    rw [hv]
    simp only [Option.bind_some]
    by_cases cc : v < 0
    · rw [if_pos cc]
      rfl
    · have hs := hv2 (by omega)
      rw [if_neg cc]
      simp only [Option.bind_some]
      rw [if_neg cc, E_laws_toRowProof _ x l (by omega) (by omega), E_laws_toByteS _ m (by omega) (by omega)]
      simp only [Option.bind_some]
      obtain ⟨d, hd1, hd2⟩ := E_TreeDepth 16777216 n (by omega)
      rw [E_spec_VerifyRow _ a n x l m d hd1 (by omega) (by omega) (by omega) hb, E_impl_VerifyRow _ a n x l m d hd2 (by omega) (by omega) (by omega) hb]
      simp only [Option.bind_some]
      rw [if_neg (by simp), E_laws_eqRowProof _ x l (by omega) (by omega)]
      simp only [Option.bind_some]
      rw [if_pos trivial, E_laws_eqByteS _ m m (by omega) (by omega)]
      simp
end Go.Proofs.Ytofkfagfdeohmaa.Pure
