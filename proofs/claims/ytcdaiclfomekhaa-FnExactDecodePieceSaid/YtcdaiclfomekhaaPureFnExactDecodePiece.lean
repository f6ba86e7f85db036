/- FnExactDecodePiece: what the law's functions compute, over numbers and lists, answers true for every input that its bounds let in. -/
import Derived.Test.YtcdaiclfomekhaaM
import Derived.Test.YtcdaiclfomekhaaQxEPMHCG
namespace Go.Proofs.Ytcdaiclfomekhaa.Pure
open Go.RowKit Go.Proofs.Ytcdaiclfomekhaa.M Go.Proofs.Ytcdaiclfomekhaa.Q Go.Proofs.YtcdaiclfomekhaaW.PrintWords Go.Proofs.YtcdaiclfomekhaaW.PrintLast
set_option linter.unusedVariables false
set_option linter.unusedSimpArgs false
-- laws_toByteS
theorem E_laws_toByteS_l0 (l : List Int) (hl : l.length ≤ 2097152) : ∀ (d n k : Nat) (m : List Int), n + d = l.length → d + 0 < k → (m.length = l.length) → laws_toByteS.l0 k l m (n : Int) = some (m.take n ++ l.drop n) := by
  intro d
  induction d with
  | zero =>
    intro n k m hn hk hm
    obtain ⟨k, rfl⟩ : ∃ m, k = m + 1 := ⟨k - 1, by omega⟩
    simp only [laws_toByteS.l0]
    rw [if_neg (by omega), List.drop_eq_nil_of_le (by omega), List.append_nil, List.take_of_length_le (by omega)]
  | succ d ih =>
    intro n k m hn hk hm
    obtain ⟨k, rfl⟩ : ∃ m, k = m + 1 := ⟨k - 1, by omega⟩
    have e1 : wrap64 ((n : Int) + 1) = ((n + 1 : Nat) : Int) := by rw [w64 (by omega) (by omega)]; omega
    simp only [laws_toByteS.l0]
    rw [if_pos (by omega), if_pos (by omega), if_pos (by omega), e1, rd_nat]
    rw [ih (n + 1) k _ (by omega) (by omega) (by simp; omega), getD_drop l n 0 (by omega)]
    rw [show (n : Int).toNat = n by omega, take_set_snoc _ n _ (by omega), List.append_assoc]
    rfl

theorem E_laws_toByteS (k : Nat) (l : List Int) (hk : 4194304 < k) (hl : l.length ≤ 2097152) : laws_toByteS.f k l = some l := by
  unfold laws_toByteS.f
  rw [if_pos (by omega), if_pos (by omega)]
  have := E_laws_toByteS_l0 l hl l.length 0 k (List.replicate ((l.length : Int) : Int).toNat 0) (by omega) (by omega) (by simp)
  simpa using this

-- laws_eqByteS
theorem E_laws_eqByteS_l0 (l m : List Int) (hl : l.length ≤ 2097152) (hm : l.length = m.length) : ∀ (d n k : Nat) , n + d = l.length → d + 0 < k → laws_eqByteS.l0 k l m (n : Int) = some (decide (l.drop n = m.drop n)) := by
  intro d
  induction d with
  | zero =>
    intro n k  hn hk 
    obtain ⟨k, rfl⟩ : ∃ m, k = m + 1 := ⟨k - 1, by omega⟩
    simp only [laws_eqByteS.l0]
    rw [if_neg (by omega), List.drop_eq_nil_of_le (by omega), List.drop_eq_nil_of_le (by omega)]
    rfl
  | succ d ih =>
    intro n k  hn hk 
    obtain ⟨k, rfl⟩ : ∃ m, k = m + 1 := ⟨k - 1, by omega⟩
    have e1 : wrap64 ((n : Int) + 1) = ((n + 1 : Nat) : Int) := by rw [w64 (by omega) (by omega)]; omega
    simp only [laws_eqByteS.l0]
    rw [if_pos (by omega), if_pos (by omega), if_pos (by omega), e1, rd_nat, rd_nat, getD_drop l n 0 (by omega), getD_drop m n 0 (by omega)]
    by_cases h : l.getD n 0 = m.getD n 0
    · rw [if_pos h, ih (n + 1) k (by omega) (by omega), h]
      simp only [List.cons.injEq, true_and]
    · rw [if_neg h, decide_eq_false (fun e => h (List.cons.inj e).1)]

theorem E_laws_eqByteS (k : Nat) (l m : List Int) (hk : 4194304 < k) (hl : l.length ≤ 2097152) : laws_eqByteS.f k l m = some (decide (l = m)) := by
  unfold laws_eqByteS.f
  by_cases h : (l.length : Int) = (m.length : Int)
  · rw [if_pos h]
    have := E_laws_eqByteS_l0 l m hl (by omega) l.length 0 k (by omega) (by omega)
    simpa using this
  · rw [if_neg h]
    have : l ≠ m := fun e => h (by rw [e])
    simp [this]

-- laws_eqPiece
theorem E_laws_eqPiece (k : Nat) (a b : Int) (l : List Int) (hk : 4194304 < k) (hl : l.length ≤ 2097152) : laws_eqPiece.f k a b l a b l = some true := by
  unfold laws_eqPiece.f
  rw [if_pos rfl, if_pos rfl, E_laws_eqByteS k l l hk hl]
  simp

-- markB
theorem E_laws_markByteS_l0 (l : List Int) (hl : l.length ≤ 2097152) : ∀ (d n k : Nat) (m : List Int) (x : Int), n + d = l.length → d + 0 < k → (m.length = l.length) → (0 ≤ x) → (x + (l.length - n : Nat) ≤ 4194304) → laws_markByteS.l0 k m x (n : Int) = some ((x + (l.length - n : Nat), m.take n ++ markB x (l.length - n))) := by
  intro d
  induction d with
  | zero =>
    intro n k m x hn hk hm h0 h1
    obtain ⟨k, rfl⟩ : ∃ m, k = m + 1 := ⟨k - 1, by omega⟩
    simp only [laws_markByteS.l0]
    have e : l.length - n = 0 := by omega
    rw [if_neg (by omega), e]
    simp only [markB, List.append_nil]
    rw [List.take_of_length_le (by omega)]
    simp
  | succ d ih =>
    intro n k m x hn hk hm h0 h1
    obtain ⟨k, rfl⟩ : ∃ m, k = m + 1 := ⟨k - 1, by omega⟩
    have e1 : wrap64 ((n : Int) + 1) = ((n + 1 : Nat) : Int) := by rw [w64 (by omega) (by omega)]; omega
    simp only [laws_markByteS.l0]
    have e : l.length - n = (l.length - (n + 1)) + 1 := by omega
    rw [if_pos (by omega), if_pos (by omega), e1, w64 (x := x + 1) (by omega) (by omega)]
    rw [ih (n + 1) k _ _ (by omega) (by omega) (by simp; omega) (by omega) (by omega), e]
    simp only [markB]
    rw [show (n : Int).toNat = n by omega, take_set_snoc _ n _ (by omega), List.append_assoc]
    rw [show x + 1 + ((l.length - (n + 1) : Nat) : Int) = x + ((l.length - (n + 1) + 1 : Nat) : Int) by omega]
    rfl

theorem E_laws_markByteS (k : Nat) (l : List Int) (x : Int) (hk : 4194304 < k) (hl : l.length ≤ 2097152) (h0 : 0 ≤ x) (h1 : x ≤ 2097152) : laws_markByteS.f k l x = some (x + l.length, markB x l.length) := by
  unfold laws_markByteS.f
  have := E_laws_markByteS_l0 l hl l.length 0 k l x (by omega) (by omega) rfl h0 (by omega)
  simpa using this
theorem E_laws_heldByteS_l0 (l : List Int) (x0 : Int) (n0 : Nat) (hn0 : n0 ≤ 2097152) (h0 : 0 ≤ x0) (h1 : x0 ≤ 2097152) (hl : l = markB x0 n0) : ∀ (d n k : Nat), n + d = n0 → d < k → laws_heldByteS.l0 k l (x0 + n) (n : Int) = some (x0 + n0) := by
  have hlen : l.length = n0 := by rw [hl, markB_length]
  intro d
  induction d with
  | zero =>
    intro n k hn hk
    obtain ⟨k, rfl⟩ : ∃ m, k = m + 1 := ⟨k - 1, by omega⟩
    simp only [laws_heldByteS.l0]
    rw [if_neg (by omega)]
    congr 1
    omega
  | succ d ih =>
    intro n k hn hk
    obtain ⟨k, rfl⟩ : ∃ m, k = m + 1 := ⟨k - 1, by omega⟩
    simp only [laws_heldByteS.l0]
    rw [if_pos (by omega), if_pos (by omega), rd_nat, hl, markB_get _ _ _ (by omega), if_pos rfl, w64 (by omega) (by omega), w64 (by omega) (by omega), ← hl]
    have := ih (n + 1) k (by omega) (by omega)
    rw [← this]
    congr 1
    · omega
theorem E_laws_heldByteS (k : Nat) (x : Int) (n : Nat) (hk : 4194304 < k) (hn : n ≤ 2097152) (h0 : 0 ≤ x) (h1 : x ≤ 2097152) : laws_heldByteS.f k (markB x n) x = some (x + n) := by
  unfold laws_heldByteS.f
  have := E_laws_heldByteS_l0 (markB x n) x n hn h0 h1 rfl n 0 k (by omega) (by omega)
  simpa using this

-- laws_markPiece
theorem E_laws_markPiece (k : Nat) (a b : Int) (g : List Int) (x : Int) (hk : 4194304 < k) (hl : g.length ≤ 2097152) (h0 : 0 ≤ x) (h1 : x ≤ 2097152) : laws_markPiece.f k a b g x = some (x + g.length, markB x g.length) := by
  unfold laws_markPiece.f
  rw [E_laws_markByteS k g x hk hl h0 h1]
  rfl
theorem E_laws_heldPiece (k : Nat) (a b : Int) (x : Int) (n : Nat) (hk : 4194304 < k) (hn : n ≤ 2097152) (h0 : 0 ≤ x) (h1 : x ≤ 2097152) : laws_heldPiece.f k a b (markB x n) x = some (x + n) := by
  unfold laws_heldPiece.f
  rw [E_laws_heldByteS k x n hk hn h0 h1]
  simp only [Option.bind_some]
  rw [if_neg (by omega)]

-- l1In
theorem E_spec_l1In (a b c : Int) : spec_l1In.f a b c = some (decide (b ≤ a ∧ a ≤ c)) := by
  unfold spec_l1In.f
  by_cases h : a ≥ b
  · rw [if_pos h]; simp [show b ≤ a from h]
  · rw [if_neg h]; simp [show ¬ b ≤ a from h]

-- spec_l22Ok
theorem E_spec_l22Ok (a b : Int) (l : List Int) : spec_l22Ok.f a b l = some (decide (pieceOk a b l)) := by
  unfold spec_l22Ok.f pieceOk
  rw [E_spec_l1In, E_spec_l1In]
  by_cases h1 : 1 ≤ b ∧ b ≤ 16
  · rw [w64 (by omega) (by omega)]
    by_cases h2 : 0 ≤ a ∧ a ≤ b - 1
    · simp [h1, h2]
      rfl
    · simp [h1, h2]
  · simp [h1]

-- InRange
theorem E_impl_InRange (a b c : Int) : impl_InRange.f a b c = some (decide (b ≤ a ∧ a ≤ c)) := by
  unfold impl_InRange.f
  by_cases h : b ≤ a
  · rw [if_pos h]; simp [h]
  · rw [if_neg h]; simp [h]

-- impl_isPiece
theorem E_impl_isPiece (a b : Int) (l : List Int) : impl_isPiece.f a b l = some (decide (pieceOk a b l)) := by
  unfold impl_isPiece.f pieceOk
  rw [E_impl_InRange, E_impl_InRange]
  by_cases h1 : 1 ≤ b ∧ b ≤ 16
  · rw [w64 (by omega) (by omega)]
    by_cases h2 : 0 ≤ a ∧ a ≤ b - 1
    · simp [h1, h2]
      rfl
    · simp [h1, h2]
  · simp [h1]

-- DecodePiece
theorem E_DecodePiece (l : List Int) (hl : l.length ≤ 2097152) : ∃ (a b : Int) (g : List Int) (z : Bool), spec_DecodePiece.f l = some (a, b, g, z) ∧ impl_DecodePiece.f l = some (a, b, g, z) ∧ g.length ≤ 12 := by
  by_cases h : (l.length : Int) = 14
  · have hd : (l.drop 2).length = 12 := by rw [List.length_drop]; omega
    have hz : ([] : List Int).length + (l.drop 2).length < 140737488355328 := by rw [hd]; decide
    have e1 : spec_DecodePiece.f l = if pieceOk (wrap64 (rd l 0)) (wrap64 (rd l 1)) (l.drop 2) then some (wrap64 (rd l 0), wrap64 (rd l 1), l.drop 2, true) else some (0, 0, [], false) := by
      unfold spec_DecodePiece.f
      rw [if_pos h, if_pos (by omega), if_pos (by omega)]
      simp only [Option.bind_some, List.nil_append]
      rw [if_pos (by omega), if_pos hz, E_spec_l22Ok]
      simp only [Option.bind_some, decide_eq_true_eq]
    have e2 : impl_DecodePiece.f l = if pieceOk (wrap64 (rd l 0)) (wrap64 (rd l 1)) (l.drop 2) then some (wrap64 (rd l 0), wrap64 (rd l 1), l.drop 2, true) else some (0, 0, [], false) := by
      unfold impl_DecodePiece.f slices_Clone_byte.f
      rw [if_pos h, if_pos (by omega), if_pos (by omega), if_pos (by omega)]
      simp only [Option.bind_some, List.nil_append]
      rw [if_pos hz]
      simp only [Option.bind_some]
      rw [E_impl_isPiece]
      simp only [Option.bind_some, decide_eq_true_eq]
    rw [e1, e2]
    by_cases hp : pieceOk (wrap64 (rd l 0)) (wrap64 (rd l 1)) (l.drop 2)
    · rw [if_pos hp]
      exact ⟨_, _, _, _, rfl, rfl, by omega⟩
    · rw [if_neg hp]
      exact ⟨_, _, _, _, rfl, rfl, by simp⟩
  · unfold spec_DecodePiece.f impl_DecodePiece.f
    rw [if_neg h, if_neg h]
    exact ⟨_, _, _, _, rfl, rfl, by simp⟩

-- FnExactDecodePiece
theorem FnExactDecodePiece : laws_FnExactDecodePiece.Pure := by
  intro l hl
  refine ⟨8388608 + 1, ?_⟩
  unfold laws_FnExactDecodePiece.f
  by_cases hg : (l.length : Int) > 1048576
  · rw [if_pos hg]
  · obtain ⟨a, b, g, z, h1, h2, h3⟩ := E_DecodePiece l (by omega)
    rw [if_neg hg, E_laws_toByteS _ l (by omega) (by omega)]
    simp only [Option.bind_some]
    rw [h1, h2]
    simp only [Option.bind_some]
    rw [E_laws_eqPiece _ a b g (by omega) (by omega)]
    simp only [Option.bind_some]
    rw [if_pos trivial, if_neg (by simp), E_laws_eqByteS _ l l (by omega) (by omega)]
    simp only [Option.bind_some]
    rw [if_pos (by simp), E_laws_markByteS _ l 1 (by omega) (by omega) (by omega) (by omega)]
    simp only [Option.bind_some]
    rw [if_neg (by omega), if_pos trivial, E_laws_markPiece _ a b g 1 (by omega) (by omega) (by omega) (by omega)]
    simp only [Option.bind_some]
    rw [E_laws_heldPiece _ a b 1 g.length (by omega) (by omega) (by omega) (by omega)]
    simp only [Option.bind_some]
    rw [if_neg (by omega), if_pos trivial, if_pos trivial, if_neg (by simp), if_neg (by omega), if_pos trivial]
end Go.Proofs.Ytcdaiclfomekhaa.Pure
