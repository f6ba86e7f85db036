/- FnExactEqualServers: what the law's functions compute, over numbers and lists, answers true for every input that its bounds let in. -/
import Derived.Test.YtofkfagfdeohmaaM
import Derived.Test.YtofkfagfdeohmaaQxNBHMBM
namespace Go.Proofs.Ytofkfagfdeohmaa.Pure
open Go.RowKit Go.Proofs.Ytofkfagfdeohmaa.M Go.Proofs.Ytofkfagfdeohmaa.Q Go.Proofs.YtofkfagfdeohmaaW.PrintWords Go.Proofs.YtofkfagfdeohmaaW.PrintLast
set_option linter.unusedVariables false
set_option linter.unusedSimpArgs false
-- sumLen
def sumLen (ls : List (List Int)) : Int := (ls.map (fun l => (l.length : Int))).foldl (· + ·) 0
theorem foldl_add (l : List Int) : ∀ (a : Int), l.foldl (· + ·) a = a + l.foldl (· + ·) 0 := by
  induction l with
  | nil => intro a; simp
  | cons x l ih => intro a; simp only [List.foldl_cons]; rw [ih (a + x), ih (0 + x)]; omega
theorem sumLen_cons (l : List Int) (ls : List (List Int)) : sumLen (l :: ls) = l.length + sumLen ls := by
  unfold sumLen
  simp only [List.map_cons, List.foldl_cons]
  rw [foldl_add]
  omega
theorem sumLen_nonneg (ls : List (List Int)) : 0 ≤ sumLen ls := by
  induction ls with
  | nil => simp [sumLen]
  | cons l ls ih => rw [sumLen_cons]; omega
theorem sumLen_append (l m : List (List Int)) : sumLen (l ++ m) = sumLen l + sumLen m := by
  induction l with
  | nil => simp [sumLen]
  | cons x l ih => rw [List.cons_append, sumLen_cons, sumLen_cons, ih]; omega
theorem mem_sumLen (l : List (List Int)) : ∀ x ∈ l, (x.length : Int) ≤ sumLen l := by
  induction l with
  | nil => intro x hx; exact absurd hx (by simp)
  | cons y l ih =>
    intro x hx
    rw [sumLen_cons]
    rcases List.mem_cons.1 hx with rfl | hx
    · have := sumLen_nonneg l; omega
    · have := ih x hx; omega

-- szDatabase
theorem Z_laws_szByteS' (l : List Int) (n : Int) (hl : l.length ≤ 9223372036854775807) (h0 : 0 ≤ n) (h1 : n ≤ 1048576) : laws_szByteS.f l n = some (if n - (l.length : Int) < 0 then -1 else n - (l.length : Int)) := by
  unfold laws_szByteS.f
  rw [w64 (by omega) (by omega)]
  by_cases h : n - (l.length : Int) < 0
  · rw [if_pos h, if_pos h]
  · rw [if_neg h, if_neg h]
theorem Z_laws_szByteSS_l0 (l : List (List Int)) (hl : l.length ≤ 1048576) (hw : ∀ x ∈ l, x.length ≤ 9223372036854775807) : ∀ (d n k : Nat) (x : Int), n + d = l.length → d + 0 < k → (0 ≤ x) → (x ≤ 1048576) → ∃ v, laws_szByteSS.l0 k l x (n : Int) = some v ∧ -1 ≤ v ∧ (0 ≤ v → v + sumLen (l.drop n) = x) := by
  intro d
  induction d with
  | zero =>
    intro n k x hn hk h0 h1
    obtain ⟨k, rfl⟩ : ∃ m, k = m + 1 := ⟨k - 1, by omega⟩
    simp only [laws_szByteSS.l0]
    rw [if_neg (by omega), List.drop_eq_nil_of_le (by omega)]
    exact ⟨x, rfl, by omega, fun _ => by simp [sumLen]⟩
  | succ d ih =>
    intro n k x hn hk h0 h1
    obtain ⟨k, rfl⟩ : ∃ m, k = m + 1 := ⟨k - 1, by omega⟩
    have e1 : wrap64 ((n : Int) + 1) = ((n + 1 : Nat) : Int) := by rw [w64 (by omega) (by omega)]; omega
    simp only [laws_szByteSS.l0]
    have er : rd_L1 l (n : Int) = l.getD n [] := by simp [rd_L1]
    have hm := hw _ (getD_mem l n [] (by omega))
    rw [if_pos (by omega), if_pos (by omega), er, Z_laws_szByteS' _ x hm h0 h1]
    simp only [Option.bind_some]
    by_cases c : x - ((l.getD n []).length : Int) < 0
    · rw [if_pos c, if_pos (by omega)]
      exact ⟨-1, rfl, by omega, fun h => absurd h (by omega)⟩
    · rw [if_neg c, if_neg c, e1]
      obtain ⟨v, hv, hv1, hv2⟩ := ih (n + 1) k (x - ((l.getD n []).length : Int)) (by omega) (by omega) (by omega) (by omega)
      refine ⟨v, hv, hv1, fun h => ?_⟩
      have := hv2 h
      rw [getD_drop l n [] (by omega), sumLen_cons]
      omega

theorem Z_laws_szDatabase (k : Nat) (l : List (List Int)) (n : Int) (hk : 4194304 < k) (hl : l.length ≤ 9223372036854775807) (hw : ∀ x ∈ l, x.length ≤ 9223372036854775807) (h0 : 0 ≤ n) (h1 : n ≤ 1048576) :
    ∃ v, laws_szDatabase.f k l n = some v ∧ -1 ≤ v ∧ (0 ≤ v → v + l.length + sumLen l = n) := by
  have hS : ∃ v, laws_szByteSS.f k l n = some v ∧ -1 ≤ v ∧ (0 ≤ v → v + l.length + sumLen l = n) := by
    unfold laws_szByteSS.f
    rw [w64 (by omega) (by omega)]
    by_cases h : (l.length : Int) ≤ n
    · rw [if_neg (by omega)]
      obtain ⟨v, hv, hv1, hv2⟩ := Z_laws_szByteSS_l0 l (by omega) hw l.length 0 k (n - l.length) (by omega) (by omega) (by omega) (by omega)
      exact ⟨v, hv, hv1, fun h' => by have := hv2 h'; rw [List.drop_zero] at this; omega⟩
    · rw [if_pos (by omega)]
      exact ⟨-1, rfl, by omega, fun h => absurd h (by omega)⟩
  unfold laws_szDatabase.f
  obtain ⟨v, hv, hv1, hv2⟩ := hS
  rw [hv]
  simp only [Option.bind_some]
  by_cases c : v < 0
  · rw [if_pos c]
    exact ⟨-1, rfl, by omega, fun h => absurd h (by omega)⟩
  · rw [if_neg c]
    exact ⟨v, rfl, hv1, hv2⟩

-- szServer
theorem Z_laws_szReceivedShareS_l0 (l : List S161) (hl : l.length ≤ 1048576) (hw : ∀ y ∈ l, y.f1.f0.length ≤ 9223372036854775807 ∧ ∀ x ∈ y.f1.f0, x.length ≤ 9223372036854775807) : ∀ (d n k : Nat) (x : Int), n + d = l.length → d + 4194304 < k → (0 ≤ x) → (x ≤ 1048576) → ∃ v, laws_szReceivedShareS.l0 k l x (n : Int) = some v ∧ -1 ≤ v ∧ (0 ≤ v → v ≤ x ∧ ∀ y ∈ l.drop n, (y.f1.f0.length : Int) + sumLen y.f1.f0 ≤ 1048576) := by
  intro d
  induction d with
  | zero =>
    intro n k x hn hk h0 h1
    obtain ⟨k, rfl⟩ : ∃ m, k = m + 1 := ⟨k - 1, by omega⟩
    simp only [laws_szReceivedShareS.l0]
    rw [if_neg (by omega), List.drop_eq_nil_of_le (by omega)]
    exact ⟨x, rfl, by omega, fun _ => ⟨by omega, fun y hy => absurd hy (by simp)⟩⟩
  | succ d ih =>
    intro n k x hn hk h0 h1
    obtain ⟨k, rfl⟩ : ∃ m, k = m + 1 := ⟨k - 1, by omega⟩
    have e1 : wrap64 ((n : Int) + 1) = ((n + 1 : Nat) : Int) := by rw [w64 (by omega) (by omega)]; omega
    simp only [laws_szReceivedShareS.l0]
    have er : rd_T161 l (n : Int) = l.getD n z161 := by simp [rd_T161]
    have hm := hw _ (getD_mem l n z161 (by omega))
    rw [if_pos (by omega), if_pos (by omega), er]
    unfold laws_szReceivedShare.f
    obtain ⟨v, hv, hv1, hv2⟩ := Z_laws_szDatabase k _ x (by omega) hm.1 hm.2 h0 h1
    rw [hv]
    simp only [Option.bind_some]
    by_cases c : v < 0
    · rw [if_pos c]
      exact ⟨-1, rfl, by omega, fun h => absurd h (by omega)⟩
    · rw [if_neg c]
      simp only [Option.bind_some]
      rw [if_neg c, e1]
      have hv3 := hv2 (by omega)
      have hv4 := sumLen_nonneg (l.getD n z161).f1.f0
      obtain ⟨v', hv', hv1', hv2'⟩ := ih (n + 1) k v (by omega) (by omega) (by omega) (by omega)
      refine ⟨v', hv', hv1', fun h => ⟨by have := (hv2' h).1; omega, ?_⟩⟩
      rw [getD_drop l n z161 (by omega)]
      intro y hy
      rcases List.mem_cons.1 hy with rfl | hy
      · omega
      · exact (hv2' h).2 y hy

theorem Z_laws_szServer (k : Nat) (a b c : Int) (l : List S161) (d n : Int) (hk : 8388608 < k) (hl : l.length ≤ 9223372036854775807) (hw : ∀ y ∈ l, y.f1.f0.length ≤ 9223372036854775807 ∧ ∀ x ∈ y.f1.f0, x.length ≤ 9223372036854775807) (h0 : 0 ≤ n) (h1 : n ≤ 1048576) :
    ∃ v, laws_szServer.f k a b c l d n = some v ∧ -1 ≤ v ∧ (0 ≤ v → (l.length : Int) ≤ 1048576 ∧ ∀ y ∈ l, (y.f1.f0.length : Int) + sumLen y.f1.f0 ≤ 1048576) := by
  have hS : ∃ v, laws_szReceivedShareS.f k l n = some v ∧ -1 ≤ v ∧ (0 ≤ v → (l.length : Int) ≤ 1048576 ∧ ∀ y ∈ l, (y.f1.f0.length : Int) + sumLen y.f1.f0 ≤ 1048576) := by
    unfold laws_szReceivedShareS.f
    rw [w64 (by omega) (by omega)]
    by_cases h : (l.length : Int) ≤ n
    · rw [if_neg (by omega)]
      obtain ⟨v, hv, hv1, hv2⟩ := Z_laws_szReceivedShareS_l0 l (by omega) hw l.length 0 k (n - l.length) (by omega) (by omega) (by omega) (by omega)
      exact ⟨v, hv, hv1, fun h' => ⟨by omega, by have := (hv2 h').2; rw [List.drop_zero] at this; exact this⟩⟩
    · rw [if_pos (by omega)]
      exact ⟨-1, rfl, by omega, fun h => absurd h (by omega)⟩
  unfold laws_szServer.f
  obtain ⟨v, hv, hv1, hv2⟩ := hS
  rw [hv]
  simp only [Option.bind_some]
  by_cases c : v < 0
  · rw [if_pos c]
    exact ⟨-1, rfl, by omega, fun h => absurd h (by omega)⟩
  · rw [if_neg c]
    exact ⟨v, rfl, hv1, hv2⟩

-- szServer2
theorem Z_laws_szServer2 (k : Nat) (a b c : Int) (l : List S161) (d n : Int) (hk : 8388608 < k) (hl : l.length ≤ 9223372036854775807) (hw : ∀ y ∈ l, y.f1.f0.length ≤ 9223372036854775807 ∧ ∀ x ∈ y.f1.f0, x.length ≤ 9223372036854775807) (h0 : 0 ≤ n) (h1 : n ≤ 1048576) :
    ∃ v, laws_szServer.f k a b c l d n = some v ∧ -1 ≤ v ∧ (0 ≤ v → v ≤ n ∧ (l.length : Int) ≤ 1048576 ∧ ∀ y ∈ l, (y.f1.f0.length : Int) + sumLen y.f1.f0 ≤ 1048576) := by
  have hS : ∃ v, laws_szReceivedShareS.f k l n = some v ∧ -1 ≤ v ∧ (0 ≤ v → v ≤ n ∧ (l.length : Int) ≤ 1048576 ∧ ∀ y ∈ l, (y.f1.f0.length : Int) + sumLen y.f1.f0 ≤ 1048576) := by
    unfold laws_szReceivedShareS.f
    rw [w64 (by omega) (by omega)]
    by_cases h : (l.length : Int) ≤ n
    · rw [if_neg (by omega)]
      obtain ⟨v, hv, hv1, hv2⟩ := Z_laws_szReceivedShareS_l0 l (by omega) hw l.length 0 k (n - l.length) (by omega) (by omega) (by omega) (by omega)
      exact ⟨v, hv, hv1, fun h' => ⟨by have := (hv2 h').1; omega, by omega, by have := (hv2 h').2; rw [List.drop_zero] at this; exact this⟩⟩
    · rw [if_pos (by omega)]
      exact ⟨-1, rfl, by omega, fun h => absurd h (by omega)⟩
  unfold laws_szServer.f
  obtain ⟨v, hv, hv1, hv2⟩ := hS
  rw [hv]
  simp only [Option.bind_some]
  by_cases c : v < 0
  · rw [if_pos c]
    exact ⟨-1, rfl, by omega, fun h => absurd h (by omega)⟩
  · rw [if_neg c]
    exact ⟨v, rfl, hv1, hv2⟩

-- laws_toByteS
theorem E_laws_toByteS_l0 (l : List Int) (hl : l.length ≤ 2097152) : ∀ (d n k : Nat) (m : List Int), n + d = l.length → d + 0 < k → (m.length = l.length) → laws_toByteS.l0 k l m (n : Int) = some (m.take n ++ l.drop n) := by
  intro d
  induction d with
  | zero =>
    intro n k m hn hk hm
    obtain ⟨k, rfl⟩ : ∃ m, k = m + 1 := ⟨k - 1, by omega⟩
    simp only [laws_toByteS.l0]
    rw [if_neg (by omega), List.drop_eq_nil_of_le (by omega), List.append_nil, List.take_of_length_le (by omega)]
  | succ d ih =>
    intro n k m hn hk hm
    obtain ⟨k, rfl⟩ : ∃ m, k = m + 1 := ⟨k - 1, by omega⟩
    have e1 : wrap64 ((n : Int) + 1) = ((n + 1 : Nat) : Int) := by rw [w64 (by omega) (by omega)]; omega
    simp only [laws_toByteS.l0]
    rw [if_pos (by omega), if_pos (by omega), if_pos (by omega), e1, rd_nat]
    rw [ih (n + 1) k _ (by omega) (by omega) (by simp; omega), getD_drop l n 0 (by omega)]
    rw [show (n : Int).toNat = n by omega, take_set_snoc _ n _ (by omega), List.append_assoc]
    rfl

theorem E_laws_toByteS (k : Nat) (l : List Int) (hk : 4194304 < k) (hl : l.length ≤ 2097152) : laws_toByteS.f k l = some l := by
  unfold laws_toByteS.f
  rw [if_pos (by omega), if_pos (by omega)]
  have := E_laws_toByteS_l0 l hl l.length 0 k (List.replicate ((l.length : Int) : Int).toNat 0) (by omega) (by omega) (by simp)
  simpa using this

-- laws_toDatabase
theorem E_laws_toByteSS_l0 (l : List (List Int)) (hl : l.length ≤ 1048576) (hw : ∀ x ∈ l, (x.length : Int) ≤ 1048576) : ∀ (d n k : Nat) (m : List (List Int)), n + d = l.length → d + 4194304 < k → (m.length = l.length) → laws_toByteSS.l0 k l m (n : Int) = some (m.take n ++ l.drop n) := by
  intro d
  induction d with
  | zero =>
    intro n k m hn hk hm
    obtain ⟨k, rfl⟩ : ∃ m, k = m + 1 := ⟨k - 1, by omega⟩
    simp only [laws_toByteSS.l0]
    rw [if_neg (by omega), List.drop_eq_nil_of_le (by omega), List.take_of_length_le (by omega), List.append_nil]
  | succ d ih =>
    intro n k m hn hk hm
    obtain ⟨k, rfl⟩ : ∃ m, k = m + 1 := ⟨k - 1, by omega⟩
    have e1 : wrap64 ((n : Int) + 1) = ((n + 1 : Nat) : Int) := by rw [w64 (by omega) (by omega)]; omega
    simp only [laws_toByteSS.l0]
    have er : rd_L1 l (n : Int) = l.getD n [] := by simp [rd_L1]
    have hy := hw _ (getD_mem l n [] (by omega))
    rw [if_pos (by omega), if_pos (by omega), er, E_laws_toByteS k _ (by omega) (by omega)]
    simp only [Option.bind_some]
    rw [if_pos (by omega), e1, ih (n + 1) k _ (by omega) (by omega) (by rw [List.length_set]; omega)]
    rw [show (n : Int).toNat = n by omega, take_set_snoc _ n _ (by omega), List.append_assoc, getD_drop l n [] (by omega)]
    rfl

theorem E_laws_toDatabase (k : Nat) (l : List (List Int)) (hk : 8388608 < k) (hs : l.length + sumLen l ≤ 1048576) : laws_toDatabase.f k l = some l := by
  have h0 := sumLen_nonneg l
  have hw : ∀ x ∈ l, (x.length : Int) ≤ 1048576 := fun x hx => by have := mem_sumLen l x hx; omega
  unfold laws_toDatabase.f laws_toByteSS.f
  rw [if_pos (by omega), if_pos (by omega)]
  have := E_laws_toByteSS_l0 l (by omega) hw l.length 0 k (List.replicate ((l.length : Int) : Int).toNat []) (by omega) (by omega) (by simp)
  rw [show ((0 : Nat) : Int) = 0 from rfl] at this
  rw [this]
  simp

-- laws_toServer
def cShare (x : S161) : S125 := ⟨x.f0, ⟨x.f1.f0⟩⟩
theorem E_laws_toReceivedShareS_l0 (l : List S161) (hl : l.length ≤ 1048576) (hw : ∀ y ∈ l, (y.f1.f0.length : Int) + sumLen y.f1.f0 ≤ 1048576) : ∀ (d n k : Nat) (m : List S125), n + d = l.length → d + 8388608 < k → (m.length = l.length) → laws_toReceivedShareS.l0 k l m (n : Int) = some (m.take n ++ (l.drop n).map cShare) := by
  intro d
  induction d with
  | zero =>
    intro n k m hn hk hm
    obtain ⟨k, rfl⟩ : ∃ m, k = m + 1 := ⟨k - 1, by omega⟩
    simp only [laws_toReceivedShareS.l0]
    rw [if_neg (by omega), List.drop_eq_nil_of_le (by omega), List.take_of_length_le (by omega)]
    simp
  | succ d ih =>
    intro n k m hn hk hm
    obtain ⟨k, rfl⟩ : ∃ m, k = m + 1 := ⟨k - 1, by omega⟩
    have e1 : wrap64 ((n : Int) + 1) = ((n + 1 : Nat) : Int) := by rw [w64 (by omega) (by omega)]; omega
    simp only [laws_toReceivedShareS.l0]
    have er : rd_T161 l (n : Int) = l.getD n z161 := by simp [rd_T161]
    have hy := hw _ (getD_mem l n z161 (by omega))
    rw [if_pos (by omega), if_pos (by omega), er]
    unfold laws_toReceivedShare.f
    rw [E_laws_toDatabase k _ (by omega) hy]
    simp only [Option.bind_some]
    rw [if_pos (by omega), e1, ih (n + 1) k _ (by omega) (by omega) (by rw [List.length_set]; omega)]
    rw [show (n : Int).toNat = n by omega, take_set_snoc _ n _ (by omega), List.append_assoc, getD_drop l n z161 (by omega)]
    rfl

theorem E_laws_toServer (k : Nat) (a b c : Int) (l : List S161) (d : Int) (hk : 12582912 < k) (hl : (l.length : Int) ≤ 1048576) (hw : ∀ y ∈ l, (y.f1.f0.length : Int) + sumLen y.f1.f0 ≤ 1048576) : laws_toServer.f k a b c l d = some (a, b, c, l.map cShare, d) := by
  unfold laws_toServer.f laws_toReceivedShareS.f
  rw [if_pos (by omega), if_pos (by omega)]
  have := E_laws_toReceivedShareS_l0 l (by omega) hw l.length 0 k (List.replicate ((l.length : Int) : Int).toNat z125) (by omega) (by omega) (by simp)
  rw [show ((0 : Nat) : Int) = 0 from rfl] at this
  rw [this]
  simp

-- laws_eqByteS
theorem E_laws_eqByteS_l0 (l m : List Int) (hl : l.length ≤ 2097152) (hm : l.length = m.length) : ∀ (d n k : Nat) , n + d = l.length → d + 0 < k → laws_eqByteS.l0 k l m (n : Int) = some (decide (l.drop n = m.drop n)) := by
  intro d
  induction d with
  | zero =>
    intro n k  hn hk 
    obtain ⟨k, rfl⟩ : ∃ m, k = m + 1 := ⟨k - 1, by omega⟩
    simp only [laws_eqByteS.l0]
    rw [if_neg (by omega), List.drop_eq_nil_of_le (by omega), List.drop_eq_nil_of_le (by omega)]
    rfl
  | succ d ih =>
    intro n k  hn hk 
    obtain ⟨k, rfl⟩ : ∃ m, k = m + 1 := ⟨k - 1, by omega⟩
    have e1 : wrap64 ((n : Int) + 1) = ((n + 1 : Nat) : Int) := by rw [w64 (by omega) (by omega)]; omega
    simp only [laws_eqByteS.l0]
    rw [if_pos (by omega), if_pos (by omega), if_pos (by omega), e1, rd_nat, rd_nat, getD_drop l n 0 (by omega), getD_drop m n 0 (by omega)]
    by_cases h : l.getD n 0 = m.getD n 0
    · rw [if_pos h, ih (n + 1) k (by omega) (by omega), h]
      simp only [List.cons.injEq, true_and]
    · rw [if_neg h, decide_eq_false (fun e => h (List.cons.inj e).1)]

theorem E_laws_eqByteS (k : Nat) (l m : List Int) (hk : 4194304 < k) (hl : l.length ≤ 2097152) : laws_eqByteS.f k l m = some (decide (l = m)) := by
  unfold laws_eqByteS.f
  by_cases h : (l.length : Int) = (m.length : Int)
  · rw [if_pos h]
    have := E_laws_eqByteS_l0 l m hl (by omega) l.length 0 k (by omega) (by omega)
    simpa using this
  · rw [if_neg h]
    have : l ≠ m := fun e => h (by rw [e])
    simp [this]

-- laws_eqDatabase
theorem E_laws_eqByteSS_l0 (l : List (List Int)) (hl : l.length ≤ 1048576) (hw : ∀ x ∈ l, (x.length : Int) ≤ 1048576) : ∀ (d n k : Nat) , n + d = l.length → d + 4194304 < k → laws_eqByteSS.l0 k l l (n : Int) = some true := by
  intro d
  induction d with
  | zero =>
    intro n k  hn hk 
    obtain ⟨k, rfl⟩ : ∃ m, k = m + 1 := ⟨k - 1, by omega⟩
    simp only [laws_eqByteSS.l0]
    rw [if_neg (by omega)]
  | succ d ih =>
    intro n k  hn hk 
    obtain ⟨k, rfl⟩ : ∃ m, k = m + 1 := ⟨k - 1, by omega⟩
    have e1 : wrap64 ((n : Int) + 1) = ((n + 1 : Nat) : Int) := by rw [w64 (by omega) (by omega)]; omega
    simp only [laws_eqByteSS.l0]
    have er : rd_L1 l (n : Int) = l.getD n [] := by simp [rd_L1]
    have hy := hw _ (getD_mem l n [] (by omega))
    rw [if_pos (by omega), if_pos (by omega), if_pos (by omega), er, E_laws_eqByteS k _ _ (by omega) (by omega)]
    simp only [Option.bind_some]
    rw [if_pos (by simp), e1, ih (n + 1) k (by omega) (by omega)]

theorem E_laws_eqDatabase (k : Nat) (l : List (List Int)) (hk : 8388608 < k) (hs : l.length + sumLen l ≤ 1048576) : laws_eqDatabase.f k l l = some true := by
  have h0 := sumLen_nonneg l
  have hw : ∀ x ∈ l, (x.length : Int) ≤ 1048576 := fun x hx => by have := mem_sumLen l x hx; omega
  unfold laws_eqDatabase.f laws_eqByteSS.f
  rw [if_pos rfl]
  have := E_laws_eqByteSS_l0 l (by omega) hw l.length 0 k (by omega) (by omega)
  rw [show ((0 : Nat) : Int) = 0 from rfl] at this
  rw [this]
  simp

-- laws_eqServer
theorem E_laws_eqReceivedShareS_l0 (l : List S125) (hl : l.length ≤ 1048577) (hw : ∀ y ∈ l, (y.f1.f0.length : Int) + sumLen y.f1.f0 ≤ 1048576) : ∀ (d n k : Nat) , n + d = l.length → d + 8388608 < k → laws_eqReceivedShareS.l0 k l l (n : Int) = some true := by
  intro d
  induction d with
  | zero =>
    intro n k  hn hk 
    obtain ⟨k, rfl⟩ : ∃ m, k = m + 1 := ⟨k - 1, by omega⟩
    simp only [laws_eqReceivedShareS.l0]
    rw [if_neg (by omega)]
  | succ d ih =>
    intro n k  hn hk 
    obtain ⟨k, rfl⟩ : ∃ m, k = m + 1 := ⟨k - 1, by omega⟩
    have e1 : wrap64 ((n : Int) + 1) = ((n + 1 : Nat) : Int) := by rw [w64 (by omega) (by omega)]; omega
    simp only [laws_eqReceivedShareS.l0]
    have er : rd_T125 l (n : Int) = l.getD n z125 := by simp [rd_T125]
    have hy := hw _ (getD_mem l n z125 (by omega))
    rw [if_pos (by omega), if_pos (by omega), if_pos (by omega), er]
    unfold laws_eqReceivedShare.f
    rw [if_pos rfl, E_laws_eqDatabase k _ (by omega) hy]
    simp only [Option.bind_some, if_true]
    rw [e1, ih (n + 1) k (by omega) (by omega)]

theorem E_laws_eqServer (k : Nat) (a b c : Int) (l : List S125) (d : Int) (hk : 12582912 < k) (hl : l.length ≤ 1048577) (hw : ∀ y ∈ l, (y.f1.f0.length : Int) + sumLen y.f1.f0 ≤ 1048576) : laws_eqServer.f k a b c l d a b c l d = some true := by
  unfold laws_eqServer.f laws_eqReceivedShareS.f
  rw [if_pos rfl, if_pos rfl, if_pos rfl, if_pos rfl]
  have := E_laws_eqReceivedShareS_l0 l hl hw l.length 0 k (by omega) (by omega)
  rw [show ((0 : Nat) : Int) = 0 from rfl] at this
  rw [this]
  simp

-- dropE
theorem dropE {α : Type} (l : List α) (n : Nat) (h : l.length ≤ n) : l.drop n = [] := List.drop_eq_nil_of_le h

-- shareEq
theorem share_ext (y z : S125) (h0 : y.f0 = z.f0) (h1 : y.f1.f0 = z.f1.f0) : y = z := by
  obtain ⟨a, ⟨b⟩⟩ := y
  obtain ⟨c, ⟨d⟩⟩ := z
  simp only at h0 h1
  rw [h0, h1]
def shOk (l : List S125) : Prop := ∀ y ∈ l, y.f1.f0.length ≤ 1048576 ∧ ∀ x ∈ y.f1.f0, x.length ≤ 1048576 ∧ ∀ b ∈ x, 0 ≤ b ∧ b ≤ 255

-- spec_EqualBytes
theorem bytes_inj : ∀ (l m : List Int), (∀ x ∈ l, 0 ≤ x ∧ x ≤ 255) → (∀ x ∈ m, 0 ≤ x ∧ x ≤ 255) → (l.map fun n => UInt8.ofNat n.toNat) = (m.map fun n => UInt8.ofNat n.toNat) → l = m := by
  intro l
  induction l with
  | nil =>
    intro m _ _ h
    cases m with
    | nil => rfl
    | cons y m => simp at h
  | cons x l ih =>
    intro m hl hm h
    cases m with
    | nil => simp at h
    | cons y m =>
      simp only [List.map_cons, List.cons.injEq] at h
      have hx := hl x List.mem_cons_self
      have hy := hm y List.mem_cons_self
      have e : x = y := by
        have := congrArg UInt8.toNat h.1
        rw [UInt8.toNat_ofNat', UInt8.toNat_ofNat'] at this
        omega
      rw [e, ih m (fun z hz => hl z (List.mem_cons_of_mem _ hz)) (fun z hz => hm z (List.mem_cons_of_mem _ hz)) h.2]
theorem E_spec_EqualBytes (l m : List Int) (hl : ∀ x ∈ l, 0 ≤ x ∧ x ≤ 255) (hm : ∀ x ∈ m, 0 ≤ x ∧ x ≤ 255) : spec_EqualBytes.f l m = some (decide (l = m)) := by
  unfold spec_EqualBytes.f
  rw [ByteArray.toList_eq, ByteArray.toList_eq, strOfNums_data, strOfNums_data]
  congr 1
  by_cases h : l = m
  · rw [h]
    simp
  · rw [decide_eq_false h, beq_eq_false_iff_ne]
    exact fun e => h (bytes_inj l m hl hm e)

-- spec_EqualLists
theorem E_spec_EqualLists_l0 (l m : List (List Int)) (hl : l.length ≤ 1048577) (hm : l.length = m.length) (hA : ∀ x ∈ l, x.length ≤ 1048576 ∧ ∀ y ∈ x, 0 ≤ y ∧ y ≤ 255) (hB : ∀ x ∈ m, x.length ≤ 1048576 ∧ ∀ y ∈ x, 0 ≤ y ∧ y ≤ 255) : ∀ (d n k : Nat) , n + d = l.length → d + 0 < k → spec_EqualLists.l0 k l m (n : Int) = some (decide (l.drop n = m.drop n)) := by
  intro d
  induction d with
  | zero =>
    intro n k  hn hk 
    obtain ⟨k, rfl⟩ : ∃ m, k = m + 1 := ⟨k - 1, by omega⟩
    simp only [spec_EqualLists.l0]
    rw [if_neg (by omega), dropE l n (by omega), dropE m n (by omega), decide_eq_true rfl]
  | succ d ih =>
    intro n k  hn hk 
    obtain ⟨k, rfl⟩ : ∃ m, k = m + 1 := ⟨k - 1, by omega⟩
    have e1 : wrap64 ((n : Int) + 1) = ((n + 1 : Nat) : Int) := by rw [w64 (by omega) (by omega)]; omega
    simp only [spec_EqualLists.l0]
    have er : rd_L1 l (n : Int) = l.getD n [] := by simp [rd_L1]
    have er2 : rd_L1 m (n : Int) = m.getD n [] := by simp [rd_L1]
    rw [if_pos (by omega), if_pos (by omega), if_pos (by omega), er, er2, E_spec_EqualBytes _ _ (hA _ (getD_mem l n [] (by omega))).2 (hB _ (getD_mem m n [] (by omega))).2]
    simp only [Option.bind_some, decide_eq_true_eq]
    by_cases c : l.getD n [] = m.getD n []
    · rw [if_pos c, e1, ih (n + 1) k (by omega) (by omega), getD_drop l n [] (by omega), getD_drop m n [] (by omega), c]
      simp
    · rw [if_neg c, decide_eq_false]
      rw [getD_drop l n [] (by omega), getD_drop m n [] (by omega)]
      exact fun h => c (List.cons.inj h).1

theorem E_spec_EqualLists (k : Nat) (l m : List (List Int)) (hl : l.length ≤ 1048577) (hA : ∀ x ∈ l, x.length ≤ 1048576 ∧ ∀ y ∈ x, 0 ≤ y ∧ y ≤ 255) (hB : ∀ x ∈ m, x.length ≤ 1048576 ∧ ∀ y ∈ x, 0 ≤ y ∧ y ≤ 255) (hk : 4194304 < k) : spec_EqualLists.f k l m = some (decide (l = m)) := by
  unfold spec_EqualLists.f
  by_cases c : l.length = m.length
  · rw [if_pos (by omega)]
    exact E_spec_EqualLists_l0 l m hl c hA hB l.length 0 k (by omega) (by omega)
  · rw [if_neg (by omega), decide_eq_false (fun h => c (by rw [h]))]

-- spec_EqualServers
theorem E_spec_EqualServers_l0 (a b c : Int) (l : List S125) (q a' b' c' : Int) (m : List S125) (q' : Int) (hl : l.length ≤ 1048576) (hm : l.length = m.length) (hA : shOk l) (hB : shOk m) : ∀ (d n k : Nat) , n + d = l.length → d + 4194304 < k → ∃ v, spec_EqualServers.l0 k (n : Int) a b c l q a' b' c' m q' = some v ∧ (v = true ↔ l.drop n = m.drop n) := by
  intro d
  induction d with
  | zero =>
    intro n k  hn hk 
    obtain ⟨k, rfl⟩ : ∃ m, k = m + 1 := ⟨k - 1, by omega⟩
    simp only [spec_EqualServers.l0]
    rw [if_neg (by omega), dropE l n (by omega), dropE m n (by omega)]
    exact ⟨true, rfl, by simp⟩
  | succ d ih =>
    intro n k  hn hk 
    obtain ⟨k, rfl⟩ : ∃ m, k = m + 1 := ⟨k - 1, by omega⟩
    have e1 : wrap64 ((n : Int) + 1) = ((n + 1 : Nat) : Int) := by rw [w64 (by omega) (by omega)]; omega
    simp only [spec_EqualServers.l0]
    have er : rd_T125 l (n : Int) = l.getD n z125 := by simp [rd_T125]
    have er2 : rd_T125 m (n : Int) = m.getD n z125 := by simp [rd_T125]
    have h1 := hA _ (getD_mem l n z125 (by omega))
    have h2 := hB _ (getD_mem m n z125 (by omega))
    rw [if_pos (by omega), if_pos (by omega), if_pos (by omega), er, er2, getD_drop l n z125 (by omega), getD_drop m n z125 (by omega)]
    generalize l.getD n z125 = y at h1 ⊢
    generalize m.getD n z125 = z at h2 ⊢
    unfold spec_EqualDatabases.f
    by_cases c0 : y.f0 = z.f0
    · rw [if_pos c0, E_spec_EqualLists k _ _ (by omega) h1.2 h2.2 (by omega)]
      simp only [Option.bind_some, decide_eq_true_eq]
      by_cases c1 : y.f1.f0 = z.f1.f0
      · rw [if_pos c1, e1]
        obtain ⟨v, hv, h3⟩ := ih (n + 1) k (by omega) (by omega)
        refine ⟨v, hv, h3.trans ?_⟩
        rw [share_ext y z c0 c1]
        simp
      · rw [if_neg c1]
        exact ⟨false, rfl, by simp only [Bool.false_eq_true, false_iff]; exact fun h => c1 (by rw [(List.cons.inj h).1])⟩
    · rw [if_neg c0]
      exact ⟨false, rfl, by simp only [Bool.false_eq_true, false_iff]; exact fun h => c0 (by rw [(List.cons.inj h).1])⟩

theorem E_spec_EqualServers (k : Nat) (a b c : Int) (l : List S125) (d a' b' c' : Int) (m : List S125) (d' : Int) (hl : l.length ≤ 1048576) (hA : shOk l) (hB : shOk m) (hk : 12582912 < k) : ∃ v, spec_EqualServers.f k a b c l d a' b' c' m d' = some v ∧ (v = true ↔ a = a' ∧ b = b' ∧ c = c' ∧ d = d' ∧ l = m) := by
  obtain ⟨k, rfl⟩ : ∃ j, k = j + 1 := ⟨k - 1, by omega⟩
  have hno : ∀ (P : Prop), ¬ P → ∃ v, spec_EqualServers.j0 (k + 1) true a b c l d a' b' c' m d' = some v ∧ (v = true ↔ P) := by
    intro P hP
    refine ⟨false, ?_, by simp [hP]⟩
    simp only [spec_EqualServers.j0]
    rw [if_pos trivial]
  unfold spec_EqualServers.f
  by_cases c0 : a = a'
  · rw [if_pos c0]
    by_cases c1 : b = b'
    · rw [if_pos c1]
      by_cases c2 : c = c'
      · rw [if_pos c2]
        by_cases c3 : d = d'
        · rw [if_pos c3]
          by_cases c4 : l.length = m.length
          · obtain ⟨v, hv, h3⟩ := E_spec_EqualServers_l0 a b c l d a' b' c' m d' hl c4 hA hB l.length 0 k (by omega) (by omega)
            refine ⟨v, ?_, h3.trans ⟨fun h => ⟨c0, c1, c2, c3, h⟩, fun h => h.2.2.2.2⟩⟩
            simp only [spec_EqualServers.j0]
            rw [if_neg (by simp; omega)]
            exact hv
          · rw [show ((l.length : Int) != (m.length : Int)) = true by simp; omega]
            exact hno _ (fun h => c4 (by rw [h.2.2.2.2]))
        · rw [if_neg c3]
          exact hno _ (fun h => c3 h.2.2.2.1)
      · rw [if_neg c2]
        exact hno _ (fun h => c2 h.2.2.1)
    · rw [if_neg c1]
      exact hno _ (fun h => c1 h.2.1)
  · rw [if_neg c0]
    exact hno _ (fun h => c0 h.1)

-- slices_Equal_byte
theorem E_slices_Equal_byte_l0 (l m : List Int) (hl : l.length ≤ 2097152) (hm : l.length = m.length) : ∀ (d n k : Nat) , n + d = l.length → d + 0 < k → slices_Equal_byte.l0 k l m (l.length : Int) (n : Int) = some (decide (l.drop n = m.drop n)) := by
  intro d
  induction d with
  | zero =>
    intro n k  hn hk 
    obtain ⟨k, rfl⟩ : ∃ m, k = m + 1 := ⟨k - 1, by omega⟩
    simp only [slices_Equal_byte.l0]
    rw [if_neg (by omega), List.drop_eq_nil_of_le (by omega), List.drop_eq_nil_of_le (by omega)]
    rfl
  | succ d ih =>
    intro n k  hn hk 
    obtain ⟨k, rfl⟩ : ∃ m, k = m + 1 := ⟨k - 1, by omega⟩
    have e1 : wrap64 ((n : Int) + 1) = ((n + 1 : Nat) : Int) := by rw [w64 (by omega) (by omega)]; omega
    simp only [slices_Equal_byte.l0]
    rw [if_pos (by omega), if_pos (by omega), if_pos (by omega), if_pos (by omega), e1, rd_nat, rd_nat, getD_drop l n 0 (by omega), getD_drop m n 0 (by omega)]
    by_cases h : l.getD n 0 = m.getD n 0
    · rw [if_pos h, ih (n + 1) k (by omega) (by omega), h]
      simp only [List.cons.injEq, true_and]
    · rw [if_neg h, decide_eq_false (fun e => h (List.cons.inj e).1)]

theorem E_slices_Equal_byte (k : Nat) (l m : List Int) (hk : 4194304 < k) (hl : l.length ≤ 2097152) : slices_Equal_byte.f k l m = some (decide (l = m)) := by
  unfold slices_Equal_byte.f
  by_cases h : (l.length : Int) = (m.length : Int)
  · rw [if_pos h]
    have := E_slices_Equal_byte_l0 l m hl (by omega) l.length 0 k (by omega) (by omega)
    simpa using this
  · rw [if_neg h]
    have : l ≠ m := fun e => h (by rw [e])
    simp [this]

-- impl_EqualLists
theorem E_impl_EqualLists_l0 (l m : List (List Int)) (hl : l.length ≤ 1048577) (hm : l.length = m.length) (hA : ∀ x ∈ l, x.length ≤ 1048576 ∧ ∀ y ∈ x, 0 ≤ y ∧ y ≤ 255) (hB : ∀ x ∈ m, x.length ≤ 1048576 ∧ ∀ y ∈ x, 0 ≤ y ∧ y ≤ 255) : ∀ (d n k : Nat) , n + d = l.length → d + 4194304 < k → slices_EqualFunc_Lbyte_at_impl_EqualBytes.l0 k m l (l.length : Int) (n : Int) = some (decide (l.drop n = m.drop n)) := by
  intro d
  induction d with
  | zero =>
    intro n k  hn hk 
    obtain ⟨k, rfl⟩ : ∃ m, k = m + 1 := ⟨k - 1, by omega⟩
    simp only [slices_EqualFunc_Lbyte_at_impl_EqualBytes.l0]
    rw [if_neg (by omega), dropE l n (by omega), dropE m n (by omega), decide_eq_true rfl]
  | succ d ih =>
    intro n k  hn hk 
    obtain ⟨k, rfl⟩ : ∃ m, k = m + 1 := ⟨k - 1, by omega⟩
    have e1 : wrap64 ((n : Int) + 1) = ((n + 1 : Nat) : Int) := by rw [w64 (by omega) (by omega)]; omega
    simp only [slices_EqualFunc_Lbyte_at_impl_EqualBytes.l0]
    have er : rd_L1 l (n : Int) = l.getD n [] := by simp [rd_L1]
    have er2 : rd_L1 m (n : Int) = m.getD n [] := by simp [rd_L1]
    unfold impl_EqualBytes.f
    rw [if_pos (by omega), if_pos (by omega), if_pos (by omega), if_pos (by omega), er, er2, E_slices_Equal_byte k _ _ (by omega) (by have := (hA _ (getD_mem l n [] (by omega))).1; omega)]
    simp only [Option.bind_some, decide_eq_true_eq]
    by_cases c : l.getD n [] = m.getD n []
    · rw [if_pos c, e1, ih (n + 1) k (by omega) (by omega), getD_drop l n [] (by omega), getD_drop m n [] (by omega), c]
      simp
    · rw [if_neg c, decide_eq_false]
      rw [getD_drop l n [] (by omega), getD_drop m n [] (by omega)]
      exact fun h => c (List.cons.inj h).1

theorem E_impl_EqualLists (k : Nat) (l m : List (List Int)) (hl : l.length ≤ 1048577) (hA : ∀ x ∈ l, x.length ≤ 1048576 ∧ ∀ y ∈ x, 0 ≤ y ∧ y ≤ 255) (hB : ∀ x ∈ m, x.length ≤ 1048576 ∧ ∀ y ∈ x, 0 ≤ y ∧ y ≤ 255) (hk : 8388608 < k) : impl_EqualLists.f k l m = some (decide (l = m)) := by
  unfold impl_EqualLists.f slices_EqualFunc_Lbyte_at_impl_EqualBytes.f
  by_cases c : l.length = m.length
  · rw [if_pos (by omega)]
    have := E_impl_EqualLists_l0 l m hl c hA hB l.length 0 k (by omega) (by omega)
    rw [show ((0 : Nat) : Int) = 0 from rfl] at this
    rw [this]
    rfl
  · rw [if_neg (by omega), decide_eq_false (fun h => c (by rw [h]))]
    rfl

-- impl_EqualServers
theorem E_impl_EqualServers_l0 (l m : List S125) (hl : l.length ≤ 1048576) (hm : l.length = m.length) (hA : shOk l) (hB : shOk m) : ∀ (d n k : Nat) , n + d = l.length → d + 8388608 < k → ∃ v, slices_EqualFunc_ReceivedShare_at_impl_EqualServers_1.l0 k m l (l.length : Int) (n : Int) = some v ∧ (v = true ↔ l.drop n = m.drop n) := by
  intro d
  induction d with
  | zero =>
    intro n k  hn hk 
    obtain ⟨k, rfl⟩ : ∃ m, k = m + 1 := ⟨k - 1, by omega⟩
    simp only [slices_EqualFunc_ReceivedShare_at_impl_EqualServers_1.l0]
    rw [if_neg (by omega), dropE l n (by omega), dropE m n (by omega)]
    exact ⟨true, rfl, by simp⟩
  | succ d ih =>
    intro n k  hn hk 
    obtain ⟨k, rfl⟩ : ∃ m, k = m + 1 := ⟨k - 1, by omega⟩
    have e1 : wrap64 ((n : Int) + 1) = ((n + 1 : Nat) : Int) := by rw [w64 (by omega) (by omega)]; omega
    simp only [slices_EqualFunc_ReceivedShare_at_impl_EqualServers_1.l0]
    have er : rd_T125 l (n : Int) = l.getD n z125 := by simp [rd_T125]
    have er2 : rd_T125 m (n : Int) = m.getD n z125 := by simp [rd_T125]
    have h1 := hA _ (getD_mem l n z125 (by omega))
    have h2 := hB _ (getD_mem m n z125 (by omega))
    rw [if_pos (by omega), if_pos (by omega), if_pos (by omega), if_pos (by omega), er, er2, getD_drop l n z125 (by omega), getD_drop m n z125 (by omega)]
    generalize l.getD n z125 = y at h1 ⊢
    generalize m.getD n z125 = z at h2 ⊢
    unfold impl_EqualServers_1.f impl_EqualDatabases.f
    by_cases c0 : y.f0 = z.f0
    · rw [if_pos c0, E_impl_EqualLists k _ _ (by omega) h1.2 h2.2 (by omega)]
      simp only [Option.bind_some, decide_eq_true_eq]
      by_cases c1 : y.f1.f0 = z.f1.f0
      · rw [if_pos c1, e1]
        obtain ⟨v, hv, h3⟩ := ih (n + 1) k (by omega) (by omega)
        refine ⟨v, hv, h3.trans ?_⟩
        rw [share_ext y z c0 c1]
        simp
      · rw [if_neg c1]
        exact ⟨false, rfl, by simp only [Bool.false_eq_true, false_iff]; exact fun h => c1 (by rw [(List.cons.inj h).1])⟩
    · rw [if_neg c0]
      exact ⟨false, rfl, by simp only [Bool.false_eq_true, false_iff]; exact fun h => c0 (by rw [(List.cons.inj h).1])⟩

theorem E_impl_EqualServers (k : Nat) (a b c : Int) (l : List S125) (d a' b' c' : Int) (m : List S125) (d' : Int) (hl : l.length ≤ 1048576) (hA : shOk l) (hB : shOk m) (hk : 12582912 < k) : ∃ v, impl_EqualServers.f k a b c l d a' b' c' m d' = some v ∧ (v = true ↔ a = a' ∧ b = b' ∧ c = c' ∧ d = d' ∧ l = m) := by
  unfold impl_EqualServers.f
  by_cases c0 : a = a'
  · rw [if_pos c0]
    by_cases c1 : b = b'
    · rw [if_pos c1]
      by_cases c2 : c = c'
      · rw [if_pos c2]
        by_cases c3 : d = d'
        · rw [if_pos c3]
          unfold slices_EqualFunc_ReceivedShare_at_impl_EqualServers_1.f
          by_cases c4 : l.length = m.length
          · obtain ⟨v, hv, h3⟩ := E_impl_EqualServers_l0 l m hl c4 hA hB l.length 0 k (by omega) (by omega)
            rw [if_pos (by omega), show (0 : Int) = ((0 : Nat) : Int) from rfl, hv]
            exact ⟨v, rfl, h3.trans ⟨fun h => ⟨c0, c1, c2, c3, h⟩, fun h => h.2.2.2.2⟩⟩
          · rw [if_neg (by omega)]
            exact ⟨false, rfl, by simp only [Bool.false_eq_true, false_iff]; exact fun h => c4 (by rw [h.2.2.2.2])⟩
        · rw [if_neg c3]
          exact ⟨false, rfl, by simp only [Bool.false_eq_true, false_iff]; exact fun h => c3 h.2.2.2.1⟩
      · rw [if_neg c2]
        exact ⟨false, rfl, by simp only [Bool.false_eq_true, false_iff]; exact fun h => c2 h.2.2.1⟩
    · rw [if_neg c1]
      exact ⟨false, rfl, by simp only [Bool.false_eq_true, false_iff]; exact fun h => c1 h.2.1⟩
  · rw [if_neg c0]
    exact ⟨false, rfl, by simp only [Bool.false_eq_true, false_iff]; exact fun h => c0 h.1⟩

-- FnExactEqualServers
theorem FnExactEqualServers : laws_FnExactEqualServers.Pure := by
  intro a b c l d a' b' c' l' d' ha hb hc hl hd ha' hb' hc' hl' hd'
  have hw : ∀ y ∈ l, y.f1.f0.length ≤ 9223372036854775807 ∧ ∀ x ∈ y.f1.f0, x.length ≤ 9223372036854775807 := fun y hy => ⟨by have := (hl.2 y hy).2.1; unfold maxLen at this; omega, fun x hx => by have := ((hl.2 y hy).2.2 x hx).1; unfold maxLen at this; omega⟩
  have hw' : ∀ y ∈ l', y.f1.f0.length ≤ 9223372036854775807 ∧ ∀ x ∈ y.f1.f0, x.length ≤ 9223372036854775807 := fun y hy => ⟨by have := (hl'.2 y hy).2.1; unfold maxLen at this; omega, fun x hx => by have := ((hl'.2 y hy).2.2 x hx).1; unfold maxLen at this; omega⟩
  have hm := hl.1
  have hm' := hl'.1
  unfold maxLen at hm hm'
  refine ⟨16777216, ?_⟩
  unfold laws_FnExactEqualServers.f
  obtain ⟨v, hv, hv1, hv2⟩ := Z_laws_szServer2 16777216 a b c l d 1048576 (by omega) (by omega) hw (by omega) (by omega)
  rw [hv]
  simp only [Option.bind_some]
  by_cases cc : v < 0
  · rw [if_pos cc]
  · obtain ⟨hvn, h2, h3⟩ := hv2 (by omega)
    obtain ⟨u, hu, hu1, hu2⟩ := Z_laws_szServer2 16777216 a' b' c' l' d' v (by omega) (by omega) hw' (by omega) (by omega)
    rw [if_neg cc, hu]
    simp only [Option.bind_some]
    by_cases cu : u < 0
    · rw [if_pos cu]
    · obtain ⟨_, h2', h3'⟩ := hu2 (by omega)
      have hs : ∀ y ∈ l.map cShare, (y.f1.f0.length : Int) + sumLen y.f1.f0 ≤ 1048576 := by
        intro y hy
        obtain ⟨x, hx, rfl⟩ := List.mem_map.1 hy
        exact h3 x hx
      have hs' : ∀ y ∈ l'.map cShare, (y.f1.f0.length : Int) + sumLen y.f1.f0 ≤ 1048576 := by
        intro y hy
        obtain ⟨x, hx, rfl⟩ := List.mem_map.1 hy
        exact h3' x hx
      have hA : shOk (l.map cShare) := by
        intro y hy
        obtain ⟨x, hx, rfl⟩ := List.mem_map.1 hy
        have h4 := h3 x hx
        have h5 := sumLen_nonneg x.f1.f0
        exact ⟨(by omega : x.f1.f0.length ≤ 1048576), fun z hz => ⟨by have h6 : (z.length : Int) ≤ sumLen x.f1.f0 := mem_sumLen x.f1.f0 z hz; omega, fun w hw => wf8 (((hl.2 x hx).2.2 z hz).2 w hw)⟩⟩
      have hB : shOk (l'.map cShare) := by
        intro y hy
        obtain ⟨x, hx, rfl⟩ := List.mem_map.1 hy
        have h4 := h3' x hx
        have h5 := sumLen_nonneg x.f1.f0
        exact ⟨(by omega : x.f1.f0.length ≤ 1048576), fun z hz => ⟨by have h6 : (z.length : Int) ≤ sumLen x.f1.f0 := mem_sumLen x.f1.f0 z hz; omega, fun w hw => wf8 (((hl'.2 x hx).2.2 z hz).2 w hw)⟩⟩
      rw [if_neg cu, E_laws_toServer _ a b c l d (by omega) h2 h3, E_laws_toServer _ a' b' c' l' d' (by omega) h2' h3']
      simp only [Option.bind_some]
      obtain ⟨r, hr, hr1⟩ := E_spec_EqualServers 16777216 a b c (l.map cShare) d a' b' c' (l'.map cShare) d' (by rw [List.length_map]; omega) hA hB (by omega)
      obtain ⟨s, hs2, hs1⟩ := E_impl_EqualServers 16777216 a b c (l.map cShare) d a' b' c' (l'.map cShare) d' (by rw [List.length_map]; omega) hA hB (by omega)
      have e : s = r := Bool.eq_iff_iff.2 (hs1.trans hr1.symm)
      rw [hr, hs2]
      simp only [Option.bind_some]
      rw [if_neg (by simp [e]), E_laws_eqServer _ a b c _ d (by omega) (by rw [List.length_map]; omega) hs, E_laws_eqServer _ a' b' c' _ d' (by omega) (by rw [List.length_map]; omega) hs']
      simp
end Go.Proofs.Ytofkfagfdeohmaa.Pure
