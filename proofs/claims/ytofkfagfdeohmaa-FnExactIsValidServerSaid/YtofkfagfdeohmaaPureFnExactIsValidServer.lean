/- FnExactIsValidServer: what the law's functions compute, over numbers and lists, answers true for every input that its bounds let in. -/
import Derived.Test.YtofkfagfdeohmaaM
import Derived.Test.YtofkfagfdeohmaaQxCPKAAO
namespace Go.Proofs.Ytofkfagfdeohmaa.Pure
open Go.RowKit Go.Proofs.Ytofkfagfdeohmaa.M Go.Proofs.Ytofkfagfdeohmaa.Q Go.Proofs.YtofkfagfdeohmaaW.PrintWords Go.Proofs.YtofkfagfdeohmaaW.PrintLast
set_option linter.unusedVariables false
set_option linter.unusedSimpArgs false
-- sumLen
def sumLen (ls : List (List Int)) : Int := (ls.map (fun l => (l.length : Int))).foldl (· + ·) 0
theorem foldl_add (l : List Int) : ∀ (a : Int), l.foldl (· + ·) a = a + l.foldl (· + ·) 0 := by
  induction l with
  | nil => intro a; simp
  | cons x l ih => intro a; simp only [List.foldl_cons]; rw [ih (a + x), ih (0 + x)]; omega
theorem sumLen_cons (l : List Int) (ls : List (List Int)) : sumLen (l :: ls) = l.length + sumLen ls := by
  unfold sumLen
  simp only [List.map_cons, List.foldl_cons]
  rw [foldl_add]
  omega
theorem sumLen_nonneg (ls : List (List Int)) : 0 ≤ sumLen ls := by
  induction ls with
  | nil => simp [sumLen]
  | cons l ls ih => rw [sumLen_cons]; omega
theorem sumLen_append (l m : List (List Int)) : sumLen (l ++ m) = sumLen l + sumLen m := by
  induction l with
  | nil => simp [sumLen]
  | cons x l ih => rw [List.cons_append, sumLen_cons, sumLen_cons, ih]; omega
theorem mem_sumLen (l : List (List Int)) : ∀ x ∈ l, (x.length : Int) ≤ sumLen l := by
  induction l with
  | nil => intro x hx; exact absurd hx (by simp)
  | cons y l ih =>
    intro x hx
    rw [sumLen_cons]
    rcases List.mem_cons.1 hx with rfl | hx
    · have := sumLen_nonneg l; omega
    · have := ih x hx; omega

-- szDatabase
theorem Z_laws_szByteS' (l : List Int) (n : Int) (hl : l.length ≤ 9223372036854775807) (h0 : 0 ≤ n) (h1 : n ≤ 1048576) : laws_szByteS.f l n = some (if n - (l.length : Int) < 0 then -1 else n - (l.length : Int)) := by
  unfold laws_szByteS.f
  rw [w64 (by omega) (by omega)]
  by_cases h : n - (l.length : Int) < 0
  · rw [if_pos h, if_pos h]
  · rw [if_neg h, if_neg h]
theorem Z_laws_szByteSS_l0 (l : List (List Int)) (hl : l.length ≤ 1048576) (hw : ∀ x ∈ l, x.length ≤ 9223372036854775807) : ∀ (d n k : Nat) (x : Int), n + d = l.length → d + 0 < k → (0 ≤ x) → (x ≤ 1048576) → ∃ v, laws_szByteSS.l0 k l x (n : Int) = some v ∧ -1 ≤ v ∧ (0 ≤ v → v + sumLen (l.drop n) = x) := by
  intro d
  induction d with
  | zero =>
    intro n k x hn hk h0 h1
    obtain ⟨k, rfl⟩ : ∃ m, k = m + 1 := ⟨k - 1, by omega⟩
    simp only [laws_szByteSS.l0]
    rw [if_neg (by omega), List.drop_eq_nil_of_le (by omega)]
    exact ⟨x, rfl, by omega, fun _ => by simp [sumLen]⟩
  | succ d ih =>
    intro n k x hn hk h0 h1
    obtain ⟨k, rfl⟩ : ∃ m, k = m + 1 := ⟨k - 1, by omega⟩
    have e1 : wrap64 ((n : Int) + 1) = ((n + 1 : Nat) : Int) := by rw [w64 (by omega) (by omega)]; omega
    simp only [laws_szByteSS.l0]
    have er : rd_L1 l (n : Int) = l.getD n [] := by simp [rd_L1]
    have hm := hw _ (getD_mem l n [] (by omega))
    rw [if_pos (by omega), if_pos (by omega), er, Z_laws_szByteS' _ x hm h0 h1]
    simp only [Option.bind_some]
    by_cases c : x - ((l.getD n []).length : Int) < 0
    · rw [if_pos c, if_pos (by omega)]
      exact ⟨-1, rfl, by omega, fun h => absurd h (by omega)⟩
    · rw [if_neg c, if_neg c, e1]
      obtain ⟨v, hv, hv1, hv2⟩ := ih (n + 1) k (x - ((l.getD n []).length : Int)) (by omega) (by omega) (by omega) (by omega)
      refine ⟨v, hv, hv1, fun h => ?_⟩
      have := hv2 h
      rw [getD_drop l n [] (by omega), sumLen_cons]
      omega

theorem Z_laws_szDatabase (k : Nat) (l : List (List Int)) (n : Int) (hk : 4194304 < k) (hl : l.length ≤ 9223372036854775807) (hw : ∀ x ∈ l, x.length ≤ 9223372036854775807) (h0 : 0 ≤ n) (h1 : n ≤ 1048576) :
    ∃ v, laws_szDatabase.f k l n = some v ∧ -1 ≤ v ∧ (0 ≤ v → v + l.length + sumLen l = n) := by
  have hS : ∃ v, laws_szByteSS.f k l n = some v ∧ -1 ≤ v ∧ (0 ≤ v → v + l.length + sumLen l = n) := by
    unfold laws_szByteSS.f
    rw [w64 (by omega) (by omega)]
    by_cases h : (l.length : Int) ≤ n
    · rw [if_neg (by omega)]
      obtain ⟨v, hv, hv1, hv2⟩ := Z_laws_szByteSS_l0 l (by omega) hw l.length 0 k (n - l.length) (by omega) (by omega) (by omega) (by omega)
      exact ⟨v, hv, hv1, fun h' => by have := hv2 h'; rw [List.drop_zero] at this; omega⟩
    · rw [if_pos (by omega)]
      exact ⟨-1, rfl, by omega, fun h => absurd h (by omega)⟩
  unfold laws_szDatabase.f
  obtain ⟨v, hv, hv1, hv2⟩ := hS
  rw [hv]
  simp only [Option.bind_some]
  by_cases c : v < 0
  · rw [if_pos c]
    exact ⟨-1, rfl, by omega, fun h => absurd h (by omega)⟩
  · rw [if_neg c]
    exact ⟨v, rfl, hv1, hv2⟩

-- szServer
theorem Z_laws_szReceivedShareS_l0 (l : List S161) (hl : l.length ≤ 1048576) (hw : ∀ y ∈ l, y.f1.f0.length ≤ 9223372036854775807 ∧ ∀ x ∈ y.f1.f0, x.length ≤ 9223372036854775807) : ∀ (d n k : Nat) (x : Int), n + d = l.length → d + 4194304 < k → (0 ≤ x) → (x ≤ 1048576) → ∃ v, laws_szReceivedShareS.l0 k l x (n : Int) = some v ∧ -1 ≤ v ∧ (0 ≤ v → v ≤ x ∧ ∀ y ∈ l.drop n, (y.f1.f0.length : Int) + sumLen y.f1.f0 ≤ 1048576) := by
  intro d
  induction d with
  | zero =>
    intro n k x hn hk h0 h1
    obtain ⟨k, rfl⟩ : ∃ m, k = m + 1 := ⟨k - 1, by omega⟩
    simp only [laws_szReceivedShareS.l0]
    rw [if_neg (by omega), List.drop_eq_nil_of_le (by omega)]
    exact ⟨x, rfl, by omega, fun _ => ⟨by omega, fun y hy => absurd hy (by simp)⟩⟩
  | succ d ih =>
    intro n k x hn hk h0 h1
    obtain ⟨k, rfl⟩ : ∃ m, k = m + 1 := ⟨k - 1, by omega⟩
    have e1 : wrap64 ((n : Int) + 1) = ((n + 1 : Nat) : Int) := by rw [w64 (by omega) (by omega)]; omega
    simp only [laws_szReceivedShareS.l0]
    have er : rd_T161 l (n : Int) = l.getD n z161 := by simp [rd_T161]
    have hm := hw _ (getD_mem l n z161 (by omega))
    rw [if_pos (by omega), if_pos (by omega), er]
    unfold laws_szReceivedShare.f
    obtain ⟨v, hv, hv1, hv2⟩ := Z_laws_szDatabase k _ x (by omega) hm.1 hm.2 h0 h1
    rw [hv]
    simp only [Option.bind_some]
    by_cases c : v < 0
    · rw [if_pos c]
      exact ⟨-1, rfl, by omega, fun h => absurd h (by omega)⟩
    · rw [if_neg c]
      simp only [Option.bind_some]
      rw [if_neg c, e1]
      have hv3 := hv2 (by omega)
      have hv4 := sumLen_nonneg (l.getD n z161).f1.f0
      obtain ⟨v', hv', hv1', hv2'⟩ := ih (n + 1) k v (by omega) (by omega) (by omega) (by omega)
      refine ⟨v', hv', hv1', fun h => ⟨by have := (hv2' h).1; omega, ?_⟩⟩
      rw [getD_drop l n z161 (by omega)]
      intro y hy
      rcases List.mem_cons.1 hy with rfl | hy
      · omega
      · exact (hv2' h).2 y hy

theorem Z_laws_szServer (k : Nat) (a b c : Int) (l : List S161) (d n : Int) (hk : 8388608 < k) (hl : l.length ≤ 9223372036854775807) (hw : ∀ y ∈ l, y.f1.f0.length ≤ 9223372036854775807 ∧ ∀ x ∈ y.f1.f0, x.length ≤ 9223372036854775807) (h0 : 0 ≤ n) (h1 : n ≤ 1048576) :
    ∃ v, laws_szServer.f k a b c l d n = some v ∧ -1 ≤ v ∧ (0 ≤ v → (l.length : Int) ≤ 1048576 ∧ ∀ y ∈ l, (y.f1.f0.length : Int) + sumLen y.f1.f0 ≤ 1048576) := by
  have hS : ∃ v, laws_szReceivedShareS.f k l n = some v ∧ -1 ≤ v ∧ (0 ≤ v → (l.length : Int) ≤ 1048576 ∧ ∀ y ∈ l, (y.f1.f0.length : Int) + sumLen y.f1.f0 ≤ 1048576) := by
    unfold laws_szReceivedShareS.f
    rw [w64 (by omega) (by omega)]
    by_cases h : (l.length : Int) ≤ n
    · rw [if_neg (by omega)]
      obtain ⟨v, hv, hv1, hv2⟩ := Z_laws_szReceivedShareS_l0 l (by omega) hw l.length 0 k (n - l.length) (by omega) (by omega) (by omega) (by omega)
      exact ⟨v, hv, hv1, fun h' => ⟨by omega, by have := (hv2 h').2; rw [List.drop_zero] at this; exact this⟩⟩
    · rw [if_pos (by omega)]
      exact ⟨-1, rfl, by omega, fun h => absurd h (by omega)⟩
  unfold laws_szServer.f
  obtain ⟨v, hv, hv1, hv2⟩ := hS
  rw [hv]
  simp only [Option.bind_some]
  by_cases c : v < 0
  · rw [if_pos c]
    exact ⟨-1, rfl, by omega, fun h => absurd h (by omega)⟩
  · rw [if_neg c]
    exact ⟨v, rfl, hv1, hv2⟩

-- laws_toByteS
theorem E_laws_toByteS_l0 (l : List Int) (hl : l.length ≤ 2097152) : ∀ (d n k : Nat) (m : List Int), n + d = l.length → d + 0 < k → (m.length = l.length) → laws_toByteS.l0 k l m (n : Int) = some (m.take n ++ l.drop n) := by
  intro d
  induction d with
  | zero =>
    intro n k m hn hk hm
    obtain ⟨k, rfl⟩ : ∃ m, k = m + 1 := ⟨k - 1, by omega⟩
    simp only [laws_toByteS.l0]
    rw [if_neg (by omega), List.drop_eq_nil_of_le (by omega), List.append_nil, List.take_of_length_le (by omega)]
  | succ d ih =>
    intro n k m hn hk hm
    obtain ⟨k, rfl⟩ : ∃ m, k = m + 1 := ⟨k - 1, by omega⟩
    have e1 : wrap64 ((n : Int) + 1) = ((n + 1 : Nat) : Int) := by rw [w64 (by omega) (by omega)]; omega
    simp only [laws_toByteS.l0]
    rw [if_pos (by omega), if_pos (by omega), if_pos (by omega), e1, rd_nat]
    rw [ih (n + 1) k _ (by omega) (by omega) (by simp; omega), getD_drop l n 0 (by omega)]
    rw [show (n : Int).toNat = n by omega, take_set_snoc _ n _ (by omega), List.append_assoc]
    rfl

theorem E_laws_toByteS (k : Nat) (l : List Int) (hk : 4194304 < k) (hl : l.length ≤ 2097152) : laws_toByteS.f k l = some l := by
  unfold laws_toByteS.f
  rw [if_pos (by omega), if_pos (by omega)]
  have := E_laws_toByteS_l0 l hl l.length 0 k (List.replicate ((l.length : Int) : Int).toNat 0) (by omega) (by omega) (by simp)
  simpa using this

-- laws_toDatabase
theorem E_laws_toByteSS_l0 (l : List (List Int)) (hl : l.length ≤ 1048576) (hw : ∀ x ∈ l, (x.length : Int) ≤ 1048576) : ∀ (d n k : Nat) (m : List (List Int)), n + d = l.length → d + 4194304 < k → (m.length = l.length) → laws_toByteSS.l0 k l m (n : Int) = some (m.take n ++ l.drop n) := by
  intro d
  induction d with
  | zero =>
    intro n k m hn hk hm
    obtain ⟨k, rfl⟩ : ∃ m, k = m + 1 := ⟨k - 1, by omega⟩
    simp only [laws_toByteSS.l0]
    rw [if_neg (by omega), List.drop_eq_nil_of_le (by omega), List.take_of_length_le (by omega), List.append_nil]
  | succ d ih =>
    intro n k m hn hk hm
    obtain ⟨k, rfl⟩ : ∃ m, k = m + 1 := ⟨k - 1, by omega⟩
    have e1 : wrap64 ((n : Int) + 1) = ((n + 1 : Nat) : Int) := by rw [w64 (by omega) (by omega)]; omega
    simp only [laws_toByteSS.l0]
    have er : rd_L1 l (n : Int) = l.getD n [] := by simp [rd_L1]
    have hy := hw _ (getD_mem l n [] (by omega))
    rw [if_pos (by omega), if_pos (by omega), er, E_laws_toByteS k _ (by omega) (by omega)]
    simp only [Option.bind_some]
    rw [if_pos (by omega), e1, ih (n + 1) k _ (by omega) (by omega) (by rw [List.length_set]; omega)]
    rw [show (n : Int).toNat = n by omega, take_set_snoc _ n _ (by omega), List.append_assoc, getD_drop l n [] (by omega)]
    rfl

theorem E_laws_toDatabase (k : Nat) (l : List (List Int)) (hk : 8388608 < k) (hs : l.length + sumLen l ≤ 1048576) : laws_toDatabase.f k l = some l := by
  have h0 := sumLen_nonneg l
  have hw : ∀ x ∈ l, (x.length : Int) ≤ 1048576 := fun x hx => by have := mem_sumLen l x hx; omega
  unfold laws_toDatabase.f laws_toByteSS.f
  rw [if_pos (by omega), if_pos (by omega)]
  have := E_laws_toByteSS_l0 l (by omega) hw l.length 0 k (List.replicate ((l.length : Int) : Int).toNat []) (by omega) (by omega) (by simp)
  rw [show ((0 : Nat) : Int) = 0 from rfl] at this
  rw [this]
  simp

-- laws_toServer
def cShare (x : S161) : S125 := ⟨x.f0, ⟨x.f1.f0⟩⟩
theorem E_laws_toReceivedShareS_l0 (l : List S161) (hl : l.length ≤ 1048576) (hw : ∀ y ∈ l, (y.f1.f0.length : Int) + sumLen y.f1.f0 ≤ 1048576) : ∀ (d n k : Nat) (m : List S125), n + d = l.length → d + 8388608 < k → (m.length = l.length) → laws_toReceivedShareS.l0 k l m (n : Int) = some (m.take n ++ (l.drop n).map cShare) := by
  intro d
  induction d with
  | zero =>
    intro n k m hn hk hm
    obtain ⟨k, rfl⟩ : ∃ m, k = m + 1 := ⟨k - 1, by omega⟩
    simp only [laws_toReceivedShareS.l0]
    rw [if_neg (by omega), List.drop_eq_nil_of_le (by omega), List.take_of_length_le (by omega)]
    simp
  | succ d ih =>
    intro n k m hn hk hm
    obtain ⟨k, rfl⟩ : ∃ m, k = m + 1 := ⟨k - 1, by omega⟩
    have e1 : wrap64 ((n : Int) + 1) = ((n + 1 : Nat) : Int) := by rw [w64 (by omega) (by omega)]; omega
    simp only [laws_toReceivedShareS.l0]
    have er : rd_T161 l (n : Int) = l.getD n z161 := by simp [rd_T161]
    have hy := hw _ (getD_mem l n z161 (by omega))
    rw [if_pos (by omega), if_pos (by omega), er]
    unfold laws_toReceivedShare.f
    rw [E_laws_toDatabase k _ (by omega) hy]
    simp only [Option.bind_some]
    rw [if_pos (by omega), e1, ih (n + 1) k _ (by omega) (by omega) (by rw [List.length_set]; omega)]
    rw [show (n : Int).toNat = n by omega, take_set_snoc _ n _ (by omega), List.append_assoc, getD_drop l n z161 (by omega)]
    rfl

theorem E_laws_toServer (k : Nat) (a b c : Int) (l : List S161) (d : Int) (hk : 12582912 < k) (hl : (l.length : Int) ≤ 1048576) (hw : ∀ y ∈ l, (y.f1.f0.length : Int) + sumLen y.f1.f0 ≤ 1048576) : laws_toServer.f k a b c l d = some (a, b, c, l.map cShare, d) := by
  unfold laws_toServer.f laws_toReceivedShareS.f
  rw [if_pos (by omega), if_pos (by omega)]
  have := E_laws_toReceivedShareS_l0 l (by omega) hw l.length 0 k (List.replicate ((l.length : Int) : Int).toNat z125) (by omega) (by omega) (by simp)
  rw [show ((0 : Nat) : Int) = 0 from rfl] at this
  rw [this]
  simp

-- laws_eqByteS
theorem E_laws_eqByteS_l0 (l m : List Int) (hl : l.length ≤ 2097152) (hm : l.length = m.length) : ∀ (d n k : Nat) , n + d = l.length → d + 0 < k → laws_eqByteS.l0 k l m (n : Int) = some (decide (l.drop n = m.drop n)) := by
  intro d
  induction d with
  | zero =>
    intro n k  hn hk 
    obtain ⟨k, rfl⟩ : ∃ m, k = m + 1 := ⟨k - 1, by omega⟩
    simp only [laws_eqByteS.l0]
    rw [if_neg (by omega), List.drop_eq_nil_of_le (by omega), List.drop_eq_nil_of_le (by omega)]
    rfl
  | succ d ih =>
    intro n k  hn hk 
    obtain ⟨k, rfl⟩ : ∃ m, k = m + 1 := ⟨k - 1, by omega⟩
    have e1 : wrap64 ((n : Int) + 1) = ((n + 1 : Nat) : Int) := by rw [w64 (by omega) (by omega)]; omega
    simp only [laws_eqByteS.l0]
    rw [if_pos (by omega), if_pos (by omega), if_pos (by omega), e1, rd_nat, rd_nat, getD_drop l n 0 (by omega), getD_drop m n 0 (by omega)]
    by_cases h : l.getD n 0 = m.getD n 0
    · rw [if_pos h, ih (n + 1) k (by omega) (by omega), h]
      simp only [List.cons.injEq, true_and]
    · rw [if_neg h, decide_eq_false (fun e => h (List.cons.inj e).1)]

theorem E_laws_eqByteS (k : Nat) (l m : List Int) (hk : 4194304 < k) (hl : l.length ≤ 2097152) : laws_eqByteS.f k l m = some (decide (l = m)) := by
  unfold laws_eqByteS.f
  by_cases h : (l.length : Int) = (m.length : Int)
  · rw [if_pos h]
    have := E_laws_eqByteS_l0 l m hl (by omega) l.length 0 k (by omega) (by omega)
    simpa using this
  · rw [if_neg h]
    have : l ≠ m := fun e => h (by rw [e])
    simp [this]

-- laws_eqDatabase
theorem E_laws_eqByteSS_l0 (l : List (List Int)) (hl : l.length ≤ 1048576) (hw : ∀ x ∈ l, (x.length : Int) ≤ 1048576) : ∀ (d n k : Nat) , n + d = l.length → d + 4194304 < k → laws_eqByteSS.l0 k l l (n : Int) = some true := by
  intro d
  induction d with
  | zero =>
    intro n k  hn hk 
    obtain ⟨k, rfl⟩ : ∃ m, k = m + 1 := ⟨k - 1, by omega⟩
    simp only [laws_eqByteSS.l0]
    rw [if_neg (by omega)]
  | succ d ih =>
    intro n k  hn hk 
    obtain ⟨k, rfl⟩ : ∃ m, k = m + 1 := ⟨k - 1, by omega⟩
    have e1 : wrap64 ((n : Int) + 1) = ((n + 1 : Nat) : Int) := by rw [w64 (by omega) (by omega)]; omega
    simp only [laws_eqByteSS.l0]
    have er : rd_L1 l (n : Int) = l.getD n [] := by simp [rd_L1]
    have hy := hw _ (getD_mem l n [] (by omega))
    rw [if_pos (by omega), if_pos (by omega), if_pos (by omega), er, E_laws_eqByteS k _ _ (by omega) (by omega)]
    simp only [Option.bind_some]
    rw [if_pos (by simp), e1, ih (n + 1) k (by omega) (by omega)]

theorem E_laws_eqDatabase (k : Nat) (l : List (List Int)) (hk : 8388608 < k) (hs : l.length + sumLen l ≤ 1048576) : laws_eqDatabase.f k l l = some true := by
  have h0 := sumLen_nonneg l
  have hw : ∀ x ∈ l, (x.length : Int) ≤ 1048576 := fun x hx => by have := mem_sumLen l x hx; omega
  unfold laws_eqDatabase.f laws_eqByteSS.f
  rw [if_pos rfl]
  have := E_laws_eqByteSS_l0 l (by omega) hw l.length 0 k (by omega) (by omega)
  rw [show ((0 : Nat) : Int) = 0 from rfl] at this
  rw [this]
  simp

-- laws_eqServer
theorem E_laws_eqReceivedShareS_l0 (l : List S125) (hl : l.length ≤ 1048577) (hw : ∀ y ∈ l, (y.f1.f0.length : Int) + sumLen y.f1.f0 ≤ 1048576) : ∀ (d n k : Nat) , n + d = l.length → d + 8388608 < k → laws_eqReceivedShareS.l0 k l l (n : Int) = some true := by
  intro d
  induction d with
  | zero =>
    intro n k  hn hk 
    obtain ⟨k, rfl⟩ : ∃ m, k = m + 1 := ⟨k - 1, by omega⟩
    simp only [laws_eqReceivedShareS.l0]
    rw [if_neg (by omega)]
  | succ d ih =>
    intro n k  hn hk 
    obtain ⟨k, rfl⟩ : ∃ m, k = m + 1 := ⟨k - 1, by omega⟩
    have e1 : wrap64 ((n : Int) + 1) = ((n + 1 : Nat) : Int) := by rw [w64 (by omega) (by omega)]; omega
    simp only [laws_eqReceivedShareS.l0]
    have er : rd_T125 l (n : Int) = l.getD n z125 := by simp [rd_T125]
    have hy := hw _ (getD_mem l n z125 (by omega))
    rw [if_pos (by omega), if_pos (by omega), if_pos (by omega), er]
    unfold laws_eqReceivedShare.f
    rw [if_pos rfl, E_laws_eqDatabase k _ (by omega) hy]
    simp only [Option.bind_some, if_true]
    rw [e1, ih (n + 1) k (by omega) (by omega)]

theorem E_laws_eqServer (k : Nat) (a b c : Int) (l : List S125) (d : Int) (hk : 12582912 < k) (hl : l.length ≤ 1048577) (hw : ∀ y ∈ l, (y.f1.f0.length : Int) + sumLen y.f1.f0 ≤ 1048576) : laws_eqServer.f k a b c l d a b c l d = some true := by
  unfold laws_eqServer.f laws_eqReceivedShareS.f
  rw [if_pos rfl, if_pos rfl, if_pos rfl, if_pos rfl]
  have := E_laws_eqReceivedShareS_l0 l hl hw l.length 0 k (by omega) (by omega)
  rw [show ((0 : Nat) : Int) = 0 from rfl] at this
  rw [this]
  simp

-- l1In
theorem E_spec_l1In (a b c : Int) : spec_l1In.f a b c = some (decide (b ≤ a ∧ a ≤ c)) := by
  unfold spec_l1In.f
  by_cases h : a ≥ b
  · rw [if_pos h]; simp [show b ≤ a from h]
  · rw [if_neg h]; simp [show ¬ b ≤ a from h]

-- dbOk
def dbOk (l : List (List Int)) : Prop := (∀ x ∈ l, (x.length : Int) = 24) ∧ (l.length : Int) ≤ 64
instance (l : List (List Int)) : Decidable (dbOk l) := by unfold dbOk; infer_instance

-- spec_IsValidDatabase
theorem E_spec_IsValidDatabase_l0 (l : List (List Int)) (hl : l.length ≤ 1048577) : ∀ (d n k : Nat) , n + d = l.length → d + 0 < k → ∃ v, spec_IsValidDatabase.l0 k (n : Int) l = some v ∧ (v = true ↔ (∀ x ∈ l.drop n, (x.length : Int) = 24) ∧ (l.length : Int) ≤ 64) := by
  intro d
  induction d with
  | zero =>
    intro n k  hn hk 
    obtain ⟨k, rfl⟩ : ∃ m, k = m + 1 := ⟨k - 1, by omega⟩
    simp only [spec_IsValidDatabase.l0]
    rw [if_neg (by omega), List.drop_eq_nil_of_le (by omega)]
    exact ⟨_, rfl, by rw [decide_eq_true_eq]; exact ⟨fun h => ⟨fun x hx => absurd hx (by simp), h⟩, fun h => h.2⟩⟩
  | succ d ih =>
    intro n k  hn hk 
    obtain ⟨k, rfl⟩ : ∃ m, k = m + 1 := ⟨k - 1, by omega⟩
    have e1 : wrap64 ((n : Int) + 1) = ((n + 1 : Nat) : Int) := by rw [w64 (by omega) (by omega)]; omega
    simp only [spec_IsValidDatabase.l0]
    have er : rd_L1 l (n : Int) = l.getD n [] := by simp [rd_L1]
    rw [if_pos (by omega), if_pos (by omega), er, getD_drop l n [] (by omega)]
    by_cases c : ((l.getD n []).length : Int) = 24
    · rw [if_pos c, e1]
      obtain ⟨v, hv, h3⟩ := ih (n + 1) k (by omega) (by omega)
      exact ⟨v, hv, h3.trans ⟨fun h => ⟨fun x hx => (List.mem_cons.1 hx).elim (fun e => by rw [e]; exact c) (h.1 x), h.2⟩, fun h => ⟨fun x hx => h.1 x (List.mem_cons_of_mem _ hx), h.2⟩⟩⟩
    · rw [if_neg c]
      exact ⟨false, rfl, by simp only [Bool.false_eq_true, false_iff]; exact fun h => c (h.1 _ List.mem_cons_self)⟩

theorem E_spec_IsValidDatabase (k : Nat) (l : List (List Int)) (hk : 4194304 < k) (hl : l.length ≤ 1048577) : ∃ v, spec_IsValidDatabase.f k l = some v ∧ (v = true ↔ dbOk l) := by
  unfold spec_IsValidDatabase.f
  obtain ⟨v, hv, h⟩ := E_spec_IsValidDatabase_l0 l hl l.length 0 k (by omega) (by omega)
  rw [List.drop_zero] at h
  exact ⟨v, hv, h⟩

-- sharesFrom
def shareAt (b : Int) (l : List S125) (i : Nat) : Prop := (0 ≤ (l.getD i z125).f0 ∧ (l.getD i z125).f0 ≤ 7) ∧ (0 < i → (l.getD (i - 1) z125).f0 < (l.getD i z125).f0) ∧ dbOk (l.getD i z125).f1.f0 ∧ ((l.getD i z125).f1.f0.length : Int) = b
def sharesFrom (b : Int) (l : List S125) (n : Nat) : Prop := ∀ i, n ≤ i → i < l.length → shareAt b l i
theorem sharesFrom_end (b : Int) (l : List S125) (n : Nat) (h : l.length ≤ n) : sharesFrom b l n := fun i h1 h2 => absurd h2 (by omega)
theorem sharesFrom_step (b : Int) (l : List S125) (n : Nat) (h : n < l.length) : sharesFrom b l n ↔ shareAt b l n ∧ sharesFrom b l (n + 1) := by
  constructor
  · exact fun hh => ⟨hh n (Nat.le_refl _) h, fun i h1 h2 => hh i (by omega) h2⟩
  · rintro ⟨h0, hh⟩ i h1 h2
    rcases Nat.lt_or_ge n i with h3 | h3
    · exact hh i h3 h2
    · obtain rfl : i = n := by omega
      exact h0
def serverOk (a b c : Int) (l : List S125) (d : Int) : Prop := (0 ≤ a ∧ a ≤ 3) ∧ (1 ≤ b ∧ b ≤ 64) ∧ (0 ≤ d ∧ d ≤ 3) ∧ (0 ≤ c ∧ c ≤ 100000) ∧ (l.length : Int) ≤ 8 ∧ sharesFrom b l 0

-- spec_IsValidServer
theorem spec_srv_tail (k : Nat) (n a b c : Int) (l : List S125) (d : Int) (y : List (List Int)) (hk : 4194304 < k) (hy : y.length ≤ 1048577) :
    ((spec_IsValidDatabase.f (k + 1) y).bind fun t => if t = true then spec_IsValidServer.j1 (k + 1) n ((y.length : Int) != b) a b c l d else spec_IsValidServer.j1 (k + 1) n true a b c l d) = if dbOk y ∧ (y.length : Int) = b then spec_IsValidServer.l0 k (wrap64 (n + 1)) a b c l d else some false := by
  obtain ⟨v, hv, h⟩ := E_spec_IsValidDatabase (k + 1) y (by omega) hy
  rw [hv]
  simp only [Option.bind_some, spec_IsValidServer.j1]
  by_cases c0 : dbOk y
  · rw [if_pos (h.2 c0)]
    by_cases c1 : (y.length : Int) = b
    · rw [if_neg (by simp [c1]), if_pos ⟨c0, c1⟩]
    · rw [if_pos (by simp [c1]), if_neg (fun h => c1 h.2)]
  · rw [if_neg (fun e => c0 (h.1 e)), if_pos trivial, if_neg (fun h => c0 h.1)]
theorem E_spec_IsValidServer_l0 (a b c : Int) (l : List S125) (q : Int) (hl : l.length ≤ 1048577) (hw : ∀ y ∈ l, (y.f1.f0.length : Int) + sumLen y.f1.f0 ≤ 1048576) : ∀ (d n k : Nat) , n + d = l.length → d + d + 4194310 < k → ∃ v, spec_IsValidServer.l0 k (n : Int) a b c l q = some v ∧ (v = true ↔ sharesFrom b l n ∧ (0 ≤ a ∧ a ≤ 3) ∧ (1 ≤ b ∧ b ≤ 64) ∧ (0 ≤ q ∧ q ≤ 3) ∧ (0 ≤ c ∧ c ≤ 100000) ∧ (l.length : Int) ≤ 8) := by
  intro d
  induction d with
  | zero =>
    intro n k  hn hk 
    obtain ⟨k, rfl⟩ : ∃ m, k = m + 1 := ⟨k - 1, by omega⟩
    simp only [spec_IsValidServer.l0]
    rw [if_neg (by omega), E_spec_l1In, E_spec_l1In, E_spec_l1In, E_spec_l1In]
    simp only [Option.bind_some, decide_eq_true_eq]
    have h0 := sharesFrom_end b l n (by omega)
    by_cases c0 : 0 ≤ a ∧ a ≤ 3
    · rw [if_pos c0]
      by_cases c1 : 1 ≤ b ∧ b ≤ 64
      · rw [if_pos c1]
        by_cases c2 : 0 ≤ q ∧ q ≤ 3
        · rw [if_pos c2]
          by_cases c3 : 0 ≤ c ∧ c ≤ 100000
          · rw [if_pos c3]
            exact ⟨_, rfl, by rw [decide_eq_true_eq]; exact ⟨fun h => ⟨h0, c0, c1, c2, c3, h⟩, fun h => h.2.2.2.2.2⟩⟩
          · rw [if_neg c3]
            exact ⟨false, rfl, by simp only [Bool.false_eq_true, false_iff]; exact fun h => c3 h.2.2.2.2.1⟩
        · rw [if_neg c2]
          exact ⟨false, rfl, by simp only [Bool.false_eq_true, false_iff]; exact fun h => c2 h.2.2.2.1⟩
      · rw [if_neg c1]
        exact ⟨false, rfl, by simp only [Bool.false_eq_true, false_iff]; exact fun h => c1 h.2.2.1⟩
    · rw [if_neg c0]
      exact ⟨false, rfl, by simp only [Bool.false_eq_true, false_iff]; exact fun h => c0 h.2.1⟩
  | succ d ih =>
    intro n k  hn hk 
    obtain ⟨k, rfl⟩ : ∃ m, k = m + 1 := ⟨k - 1, by omega⟩
    have e1 : wrap64 ((n : Int) + 1) = ((n + 1 : Nat) : Int) := by rw [w64 (by omega) (by omega)]; omega
    simp only [spec_IsValidServer.l0]
    obtain ⟨k, rfl⟩ : ∃ m, k = m + 1 := ⟨k - 1, by omega⟩
    have er : rd_T125 l (n : Int) = l.getD n z125 := by simp [rd_T125]
    have er2 : rd_T125 l ((n - 1 : Nat) : Int) = l.getD (n - 1) z125 := by simp [rd_T125]
    have hy := hw _ (getD_mem l n z125 (by omega))
    have hy0 := sumLen_nonneg (l.getD n z125).f1.f0
    rw [if_pos (by omega), if_pos (by omega), er, E_spec_l1In]
    simp only [Option.bind_some, decide_eq_true_eq]
    by_cases c0 : 0 ≤ (l.getD n z125).f0 ∧ (l.getD n z125).f0 ≤ 7
    · rw [if_pos c0]
      have key : ∀ T, T = (if dbOk (l.getD n z125).f1.f0 ∧ ((l.getD n z125).f1.f0.length : Int) = b then spec_IsValidServer.l0 k ((n + 1 : Nat) : Int) a b c l q else some false) → (0 < n → (l.getD (n - 1) z125).f0 < (l.getD n z125).f0) → ∃ v, T = some v ∧ (v = true ↔ sharesFrom b l n ∧ (0 ≤ a ∧ a ≤ 3) ∧ (1 ≤ b ∧ b ≤ 64) ∧ (0 ≤ q ∧ q ≤ 3) ∧ (0 ≤ c ∧ c ≤ 100000) ∧ (l.length : Int) ≤ 8) := by
        intro T hT hp
        rw [hT, sharesFrom_step b l n (by omega)]
        by_cases c3 : dbOk (l.getD n z125).f1.f0 ∧ ((l.getD n z125).f1.f0.length : Int) = b
        · rw [if_pos c3]
          obtain ⟨v, hv, h3⟩ := ih (n + 1) k (by omega) (by omega)
          have : shareAt b l n := ⟨c0, hp, c3.1, c3.2⟩
          exact ⟨v, hv, h3.trans (by simp [this])⟩
        · rw [if_neg c3]
          exact ⟨false, rfl, by simp only [Bool.false_eq_true, false_iff]; exact fun h => c3 (h.1.1.2.2)⟩
      by_cases c1 : (n : Int) > 0
      · have e2 : wrap64 ((n : Int) - 1) = ((n - 1 : Nat) : Int) := by rw [w64 (by omega) (by omega)]; omega
        rw [if_pos c1, e2, if_pos (by omega), if_pos (by omega), er2]
        by_cases c2 : (l.getD (n - 1) z125).f0 ≥ (l.getD n z125).f0
        · rw [if_pos c2]
          simp only [spec_IsValidServer.j1]
          rw [if_pos trivial]
          exact ⟨false, rfl, by simp only [Bool.false_eq_true, false_iff, sharesFrom_step b l n (by omega)]; exact fun h => by have := (h.1.1.2.1) (by omega); omega⟩
        · rw [if_neg c2]
          exact key _ (by rw [spec_srv_tail k _ a b c l q _ (by omega) (by omega), e1]) (fun _ => by omega)
      · rw [if_neg c1]
        exact key _ (by rw [spec_srv_tail k _ a b c l q _ (by omega) (by omega), e1]) (fun h => absurd h (by omega))
    · rw [if_neg c0]
      simp only [spec_IsValidServer.j1]
      rw [if_pos trivial]
      exact ⟨false, rfl, by simp only [Bool.false_eq_true, false_iff, sharesFrom_step b l n (by omega)]; exact fun h => c0 (h.1.1.1)⟩

theorem E_spec_IsValidServer (k : Nat) (a b c : Int) (l : List S125) (q : Int) (hk : 12582912 < k) (hl : l.length ≤ 1048577) (hw : ∀ y ∈ l, (y.f1.f0.length : Int) + sumLen y.f1.f0 ≤ 1048576) : ∃ v, spec_IsValidServer.f k a b c l q = some v ∧ (v = true ↔ serverOk a b c l q) := by
  unfold spec_IsValidServer.f serverOk
  obtain ⟨v, hv, h⟩ := E_spec_IsValidServer_l0 a b c l q hl hw l.length 0 k (by omega) (by omega)
  exact ⟨v, hv, h.trans ⟨fun h => ⟨h.2.1, h.2.2.1, h.2.2.2.1, h.2.2.2.2.1, h.2.2.2.2.2, h.1⟩, fun h => ⟨h.2.2.2.2.2, h.1, h.2.1, h.2.2.1, h.2.2.2.1, h.2.2.2.2.1⟩⟩⟩

-- InRange
theorem E_impl_InRange (a b c : Int) : impl_InRange.f a b c = some (decide (b ≤ a ∧ a ≤ c)) := by
  unfold impl_InRange.f
  by_cases h : b ≤ a
  · rw [if_pos h]; simp [h]
  · rw [if_neg h]; simp [h]

-- impl_IsValidDatabase
theorem E_impl_IsValidDatabase_1 (l : List Int) : impl_IsValidDatabase_1.f l = some (!decide ((l.length : Int) = 24)) := rfl
theorem E_slices_IndexFunc_Lbyte_at_impl_IsValidDatabase_1_l0 (l : List (List Int)) (hl : l.length ≤ 1048577) : ∀ (d n k : Nat) , n + d = l.length → d + 0 < k → ∃ v, slices_IndexFunc_Lbyte_at_impl_IsValidDatabase_1.l0 k l (l.length : Int) (n : Int) = some v ∧ (v ≥ 0 ↔ ∃ y ∈ l.drop n, ¬ (y.length : Int) = 24) := by
  intro d
  induction d with
  | zero =>
    intro n k  hn hk 
    obtain ⟨k, rfl⟩ : ∃ m, k = m + 1 := ⟨k - 1, by omega⟩
    simp only [slices_IndexFunc_Lbyte_at_impl_IsValidDatabase_1.l0]
    rw [if_neg (by omega), List.drop_eq_nil_of_le (by omega)]
    exact ⟨_, rfl, by simp⟩
  | succ d ih =>
    intro n k  hn hk 
    obtain ⟨k, rfl⟩ : ∃ m, k = m + 1 := ⟨k - 1, by omega⟩
    have e1 : wrap64 ((n : Int) + 1) = ((n + 1 : Nat) : Int) := by rw [w64 (by omega) (by omega)]; omega
    simp only [slices_IndexFunc_Lbyte_at_impl_IsValidDatabase_1.l0]
    have er : rd_L1 l (n : Int) = l.getD n [] := by simp [rd_L1]
    rw [if_pos (by omega), if_pos (by omega), if_pos (by omega), er, E_impl_IsValidDatabase_1, getD_drop l n [] (by omega)]
    simp only [Option.bind_some, decide_eq_true_eq]
    generalize l.getD n [] = y
    by_cases h : ¬ (y.length : Int) = 24
    · rw [if_pos (by simpa using h)]
      exact ⟨_, rfl, fun _ => ⟨y, List.mem_cons_self, h⟩, fun _ => by omega⟩
    · rw [if_neg (by simpa using h), e1]
      obtain ⟨v, hv, h1⟩ := ih (n + 1) k (by omega) (by omega)
      refine ⟨v, hv, h1.trans ?_⟩
      constructor
      · rintro ⟨x, hx, hb⟩
        exact ⟨x, List.mem_cons_of_mem _ hx, hb⟩
      · rintro ⟨x, hx, hb⟩
        rcases List.mem_cons.1 hx with rfl | hx
        · exact absurd hb h
        · exact ⟨x, hx, hb⟩

theorem E_slices_IndexFunc_Lbyte_at_impl_IsValidDatabase_1 (k : Nat) (l : List (List Int)) (hk : 4194304 < k) (hl : l.length ≤ 1048577) : ∃ v, slices_IndexFunc_Lbyte_at_impl_IsValidDatabase_1.f k l = some v ∧ (v ≥ 0 ↔ ∃ y ∈ l, ¬ (y.length : Int) = 24) := by
  unfold slices_IndexFunc_Lbyte_at_impl_IsValidDatabase_1.f
  obtain ⟨v, hv, h1⟩ := E_slices_IndexFunc_Lbyte_at_impl_IsValidDatabase_1_l0 l hl l.length 0 k (by omega) (by omega)
  exact ⟨v, hv, by simpa using h1⟩

theorem E_slices_ContainsFunc_Lbyte_at_impl_IsValidDatabase_1 (k : Nat) (l : List (List Int)) (hk : 4194304 < k) (hl : l.length ≤ 1048577) : ∃ v, slices_ContainsFunc_Lbyte_at_impl_IsValidDatabase_1.f k l = some v ∧ (v = true ↔ ∃ y ∈ l, ¬ (y.length : Int) = 24) := by
  unfold slices_ContainsFunc_Lbyte_at_impl_IsValidDatabase_1.f
  obtain ⟨v, hv, h1⟩ := E_slices_IndexFunc_Lbyte_at_impl_IsValidDatabase_1 k l hk hl
  rw [hv]
  exact ⟨_, rfl, by rw [decide_eq_true_eq]; exact h1⟩

theorem E_impl_IsValidDatabase (k : Nat) (l : List (List Int)) (hk : 4194304 < k) (hl : l.length ≤ 1048577) : ∃ v, impl_IsValidDatabase.f k l = some v ∧ (v = true ↔ dbOk l) := by
  unfold impl_IsValidDatabase.f
  by_cases c : (l.length : Int) ≤ 64
  · rw [if_pos c]
    obtain ⟨v, hv, h⟩ := E_slices_ContainsFunc_Lbyte_at_impl_IsValidDatabase_1 k l hk hl
    rw [hv]
    refine ⟨!v, rfl, ?_⟩
    cases v with
    | true =>
      obtain ⟨y, hy, hb⟩ := h.1 rfl
      simp only [Bool.not_true, Bool.false_eq_true, false_iff]
      exact fun hh => hb (hh.1 y hy)
    | false =>
      simp only [Bool.not_false, true_iff]
      exact ⟨fun y hy => Classical.byContradiction fun hb => Bool.noConfusion (h.2 ⟨y, hy, hb⟩), c⟩
  · rw [if_neg c]
    exact ⟨false, rfl, by simp only [Bool.false_eq_true, false_iff]; exact fun h => c h.2⟩

-- impl_IsValidServer
theorem impl_srv_tail (k : Nat) (n a b c : Int) (l : List S125) (d : Int) (y : List (List Int)) (hk : 4194304 < k) (hy : y.length ≤ 1048577) :
    ((impl_IsValidDatabase.f (k + 1) y).bind fun t => if t = true then impl_IsValidServer.j2 (k + 1) l (l.length : Int) n ((y.length : Int) != b) a b c l d else impl_IsValidServer.j2 (k + 1) l (l.length : Int) n true a b c l d) = if dbOk y ∧ (y.length : Int) = b then impl_IsValidServer.l0 k l (l.length : Int) (wrap64 (n + 1)) a b c l d else some false := by
  obtain ⟨v, hv, h⟩ := E_impl_IsValidDatabase (k + 1) y (by omega) hy
  rw [hv]
  simp only [Option.bind_some, impl_IsValidServer.j2]
  by_cases c0 : dbOk y
  · rw [if_pos (h.2 c0)]
    by_cases c1 : (y.length : Int) = b
    · rw [if_neg (by simp [c1]), if_pos ⟨c0, c1⟩]
    · rw [if_pos (by simp [c1]), if_neg (fun h => c1 h.2)]
  · rw [if_neg (fun e => c0 (h.1 e)), if_pos trivial, if_neg (fun h => c0 h.1)]
theorem E_impl_IsValidServer_l0 (a b c : Int) (l : List S125) (q : Int) (hl : l.length ≤ 1048577) (hw : ∀ y ∈ l, (y.f1.f0.length : Int) + sumLen y.f1.f0 ≤ 1048576) : ∀ (d n k : Nat) , n + d = l.length → d + d + 4194310 < k → ∃ v, impl_IsValidServer.l0 k l (l.length : Int) (n : Int) a b c l q = some v ∧ (v = true ↔ sharesFrom b l n) := by
  intro d
  induction d with
  | zero =>
    intro n k  hn hk 
    obtain ⟨k, rfl⟩ : ∃ m, k = m + 1 := ⟨k - 1, by omega⟩
    simp only [impl_IsValidServer.l0]
    rw [if_neg (by omega)]
    exact ⟨true, rfl, by simp only [true_iff]; exact sharesFrom_end b l n (by omega)⟩
  | succ d ih =>
    intro n k  hn hk 
    obtain ⟨k, rfl⟩ : ∃ m, k = m + 1 := ⟨k - 1, by omega⟩
    have e1 : wrap64 ((n : Int) + 1) = ((n + 1 : Nat) : Int) := by rw [w64 (by omega) (by omega)]; omega
    simp only [impl_IsValidServer.l0]
    obtain ⟨k, rfl⟩ : ∃ m, k = m + 1 := ⟨k - 1, by omega⟩
    have er : rd_T125 l (n : Int) = l.getD n z125 := by simp [rd_T125]
    have er2 : rd_T125 l ((n - 1 : Nat) : Int) = l.getD (n - 1) z125 := by simp [rd_T125]
    have hy := hw _ (getD_mem l n z125 (by omega))
    have hy0 := sumLen_nonneg (l.getD n z125).f1.f0
    rw [if_pos (by omega), if_pos (by omega), if_pos (by omega), er, E_impl_InRange]
    simp only [Option.bind_some, decide_eq_true_eq]
    by_cases c0 : 0 ≤ (l.getD n z125).f0 ∧ (l.getD n z125).f0 ≤ 7
    · rw [if_pos c0]
      have key : ∀ T, T = (if dbOk (l.getD n z125).f1.f0 ∧ ((l.getD n z125).f1.f0.length : Int) = b then impl_IsValidServer.l0 k l (l.length : Int) ((n + 1 : Nat) : Int) a b c l q else some false) → (0 < n → (l.getD (n - 1) z125).f0 < (l.getD n z125).f0) → ∃ v, T = some v ∧ (v = true ↔ sharesFrom b l n) := by
        intro T hT hp
        rw [hT, sharesFrom_step b l n (by omega)]
        by_cases c3 : dbOk (l.getD n z125).f1.f0 ∧ ((l.getD n z125).f1.f0.length : Int) = b
        · rw [if_pos c3]
          obtain ⟨v, hv, h3⟩ := ih (n + 1) k (by omega) (by omega)
          have : shareAt b l n := ⟨c0, hp, c3.1, c3.2⟩
          exact ⟨v, hv, h3.trans (by simp [this])⟩
        · rw [if_neg c3]
          exact ⟨false, rfl, by simp only [Bool.false_eq_true, false_iff]; exact fun h => c3 (h.1.2.2)⟩
      by_cases c1 : (n : Int) > 0
      · have e2 : wrap64 ((n : Int) - 1) = ((n - 1 : Nat) : Int) := by rw [w64 (by omega) (by omega)]; omega
        rw [if_pos c1, e2, if_pos (by omega), if_pos (by omega), er2]
        by_cases c2 : (l.getD (n - 1) z125).f0 ≥ (l.getD n z125).f0
        · rw [if_pos c2]
          simp only [impl_IsValidServer.j2]
          rw [if_pos trivial]
          exact ⟨false, rfl, by simp only [Bool.false_eq_true, false_iff, sharesFrom_step b l n (by omega)]; exact fun h => by have := (h.1.2.1) (by omega); omega⟩
        · rw [if_neg c2]
          exact key _ (by rw [impl_srv_tail k _ a b c l q _ (by omega) (by omega), e1]) (fun _ => by omega)
      · rw [if_neg c1]
        exact key _ (by rw [impl_srv_tail k _ a b c l q _ (by omega) (by omega), e1]) (fun h => absurd h (by omega))
    · rw [if_neg c0]
      simp only [impl_IsValidServer.j2]
      rw [if_pos trivial]
      exact ⟨false, rfl, by simp only [Bool.false_eq_true, false_iff, sharesFrom_step b l n (by omega)]; exact fun h => c0 (h.1.1)⟩

theorem E_impl_IsValidServer (k : Nat) (a b c : Int) (l : List S125) (q : Int) (hk : 12582912 < k) (hl : l.length ≤ 1048577) (hw : ∀ y ∈ l, (y.f1.f0.length : Int) + sumLen y.f1.f0 ≤ 1048576) : ∃ v, impl_IsValidServer.f k a b c l q = some v ∧ (v = true ↔ serverOk a b c l q) := by
  have hj : ∀ z : Bool, ∃ v, impl_IsValidServer.j0 k z a b c l q = some v ∧ (v = true ↔ z = false ∧ sharesFrom b l 0) := by
    intro z
    obtain ⟨k, rfl⟩ : ∃ j, k = j + 1 := ⟨k - 1, by omega⟩
    simp only [impl_IsValidServer.j0]
    cases z with
    | true =>
      rw [if_pos rfl]
      exact ⟨false, rfl, by simp⟩
    | false =>
      rw [if_neg (by simp)]
      obtain ⟨v, hv, h⟩ := E_impl_IsValidServer_l0 a b c l q hl hw l.length 0 k (by omega) (by omega)
      exact ⟨v, hv, h.trans (by simp)⟩
  unfold impl_IsValidServer.f serverOk
  rw [E_impl_InRange, E_impl_InRange, E_impl_InRange, E_impl_InRange]
  simp only [Option.bind_some, decide_eq_true_eq]
  obtain ⟨w, hw, hw2⟩ := hj true
  have hf : w = false := by
    cases w with
    | true => exact absurd (hw2.1 rfl).1 (by simp)
    | false => rfl
  by_cases c0 : 0 ≤ a ∧ a ≤ 3
  · rw [if_pos c0]
    by_cases c1 : 1 ≤ b ∧ b ≤ 64
    · rw [if_pos c1]
      by_cases c2 : 0 ≤ q ∧ q ≤ 3
      · rw [if_pos c2]
        by_cases c3 : 0 ≤ c ∧ c ≤ 100000
        · rw [if_pos c3]
          obtain ⟨v, hv, h⟩ := hj (decide ((l.length : Int) > 8))
          refine ⟨v, hv, h.trans ?_⟩
          rw [decide_eq_false_iff_not]
          exact ⟨fun h => ⟨c0, c1, c2, c3, by omega, h.2⟩, fun h => ⟨by have := h.2.2.2.2.1; omega, h.2.2.2.2.2⟩⟩
        · rw [if_neg c3]
          exact ⟨w, hw, by rw [hf]; simp only [Bool.false_eq_true, false_iff]; exact fun h => c3 h.2.2.2.1⟩
      · rw [if_neg c2]
        exact ⟨w, hw, by rw [hf]; simp only [Bool.false_eq_true, false_iff]; exact fun h => c2 h.2.2.1⟩
    · rw [if_neg c1]
      exact ⟨w, hw, by rw [hf]; simp only [Bool.false_eq_true, false_iff]; exact fun h => c1 h.2.1⟩
  · rw [if_neg c0]
    exact ⟨w, hw, by rw [hf]; simp only [Bool.false_eq_true, false_iff]; exact fun h => c0 h.1⟩

-- FnExactIsValidServer
theorem FnExactIsValidServer : laws_FnExactIsValidServer.Pure := by
  intro a b c l d ha hb hc hl hd
  have hw : ∀ y ∈ l, y.f1.f0.length ≤ 9223372036854775807 ∧ ∀ x ∈ y.f1.f0, x.length ≤ 9223372036854775807 := fun y hy => ⟨by have := (hl.2 y hy).2.1; unfold maxLen at this; omega, fun x hx => by have := ((hl.2 y hy).2.2 x hx).1; unfold maxLen at this; omega⟩
  have hm := hl.1
  unfold maxLen at hm
  refine ⟨16777216, ?_⟩
  unfold laws_FnExactIsValidServer.f
  obtain ⟨v, hv, hv1, hv2⟩ := Z_laws_szServer 16777216 a b c l d 1048576 (by omega) (by omega) hw (by omega) (by omega)
  rw [hv]
  simp only [Option.bind_some]
  by_cases cc : v < 0
  · rw [if_pos cc]
  · obtain ⟨h2, h3⟩ := hv2 (by omega)
    have hs : ∀ y ∈ l.map cShare, (y.f1.f0.length : Int) + sumLen y.f1.f0 ≤ 1048576 := by
      intro y hy
      obtain ⟨x, hx, rfl⟩ := List.mem_map.1 hy
      exact h3 x hx
    rw [if_neg cc, E_laws_toServer _ a b c l d (by omega) h2 h3]
    simp only [Option.bind_some]
    obtain ⟨r, hr, hr1⟩ := E_spec_IsValidServer 16777216 a b c (l.map cShare) d (by omega) (by rw [List.length_map]; omega) hs
    obtain ⟨s, hs2, hs1⟩ := E_impl_IsValidServer 16777216 a b c (l.map cShare) d (by omega) (by rw [List.length_map]; omega) hs
    have e : s = r := Bool.eq_iff_iff.2 (hs1.trans hr1.symm)
    rw [hr, hs2]
    simp only [Option.bind_some]
    rw [if_neg (by simp [e]), E_laws_eqServer _ a b c _ d (by omega) (by rw [List.length_map]; omega) hs]
    simp
end Go.Proofs.Ytofkfagfdeohmaa.Pure
