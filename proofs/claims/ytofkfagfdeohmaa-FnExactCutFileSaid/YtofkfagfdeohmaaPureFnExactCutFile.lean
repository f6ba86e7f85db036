/- FnExactCutFile: what the law's functions compute, over numbers and lists, answers true for every input that its bounds let in. -/
import Derived.Test.YtofkfagfdeohmaaM
import Derived.Test.YtofkfagfdeohmaaQxGEPDFJ
namespace Go.Proofs.Ytofkfagfdeohmaa.Pure
open Go.RowKit Go.Proofs.Ytofkfagfdeohmaa.M Go.Proofs.Ytofkfagfdeohmaa.Q Go.Proofs.YtofkfagfdeohmaaW.PrintWords Go.Proofs.YtofkfagfdeohmaaW.PrintLast
set_option linter.unusedVariables false
set_option linter.unusedSimpArgs false
-- dropE
theorem dropE {α : Type} (l : List α) (n : Nat) (h : l.length ≤ n) : l.drop n = [] := List.drop_eq_nil_of_le h

-- xorM
def xB (x y : Int) : Int := Go.bits .xor .u8 x y
theorem xB_comm (x y : Int) : xB x y = xB y x := by simp only [xB, Go.bits, BitVec.xor_comm]
theorem wrap8 (n : Nat) (h : n < 256) : IntKind.wrap .u8 (n : Int) = (n : Int) := by
  simp only [IntKind.wrap, IntKind.signed, IntKind.bits]
  simp
  omega
theorem xB_range (x y : Int) : 0 ≤ xB x y ∧ xB x y ≤ 255 := by
  have h : (BitVec.ofInt 8 x ^^^ BitVec.ofInt 8 y).toNat < 256 := (BitVec.ofInt 8 x ^^^ BitVec.ofInt 8 y).isLt
  have e : xB x y = ((BitVec.ofInt 8 x ^^^ BitVec.ofInt 8 y).toNat : Int) := wrap8 _ h
  omega
theorem xB_zero (x : Int) (h : 0 ≤ x ∧ x ≤ 255) : xB 0 x = x := by
  have e : xB 0 x = ((BitVec.ofInt 8 0 ^^^ BitVec.ofInt 8 x).toNat : Int) := wrap8 _ (BitVec.ofInt 8 0 ^^^ BitVec.ofInt 8 x).isLt
  rw [e]
  simp [BitVec.toNat_ofInt]
  omega
def xorM : List Int → List Int → List Int
  | [], b => b
  | x :: a, [] => x :: a
  | x :: a, y :: b => xB x y :: xorM a b
theorem xorM_nil (a : List Int) : xorM a [] = a := by cases a <;> rfl
theorem xorM_comm : ∀ (a b : List Int), xorM a b = xorM b a
  | [], b => by rw [xorM_nil]; rfl
  | x :: a, [] => rfl
  | x :: a, y :: b => by rw [xorM, xorM, xB_comm, xorM_comm a b]
theorem xorM_length : ∀ (a b : List Int), (xorM a b).length = max a.length b.length
  | [], b => by simp [xorM]
  | x :: a, [] => by simp [xorM]
  | x :: a, y :: b => by rw [xorM, List.length_cons, List.length_cons, List.length_cons, xorM_length a b]; omega
theorem xorM_byte : ∀ (a b : List Int), (∀ y ∈ a, 0 ≤ y ∧ y ≤ 255) → (∀ y ∈ b, 0 ≤ y ∧ y ≤ 255) → ∀ y ∈ xorM a b, 0 ≤ y ∧ y ≤ 255
  | [], b, _, hb => hb
  | x :: a, [], ha, _ => ha
  | x :: a, z :: b, ha, hb => by
    intro y hy
    rcases List.mem_cons.1 hy with rfl | hy
    · exact xB_range x z
    · exact xorM_byte a b (fun y h => ha y (List.mem_cons_of_mem _ h)) (fun y h => hb y (List.mem_cons_of_mem _ h)) y hy

-- padM
def padM (l : List Int) : List Int := l ++ List.replicate (12 - l.length) 0
theorem padM_length (l : List Int) (h : l.length ≤ 12) : (padM l).length = 12 := by simp [padM]; omega
theorem padM_byte (l : List Int) (h : ∀ y ∈ l, 0 ≤ y ∧ y ≤ 255) : ∀ y ∈ padM l, 0 ≤ y ∧ y ≤ 255 := by
  intro y hy
  rcases List.mem_append.1 hy with hy | hy
  · exact h y hy
  · have := (List.mem_replicate.1 hy).2; omega
def splitM : Nat → List Int → List (List Int)
  | 0, _ => []
  | c + 1, l => l.take 12 :: splitM c (l.drop 12)
theorem splitM_length : ∀ (c : Nat) (l : List Int), (splitM c l).length = c
  | 0, _ => rfl
  | c + 1, l => by rw [splitM, List.length_cons, splitM_length c]

-- cutM
def zero12 : List Int := List.replicate 12 0
/-- The pieces of d chunks more, of the place j on. -/
def cutM (T : Int) : Nat → Nat → List Int → List S89 → List Int → List S89
  | 0, _, _, out, _ => out
  | d + 1, j, left, out, par =>
    if j % 4 = 3 ∨ d = 0 then cutM T d (j + 1) (left.drop 12) (out ++ [⟨(out.length : Int), T, padM (left.take 12)⟩] ++ [⟨(out.length : Int) + 1, T, xorM par (padM (left.take 12))⟩]) zero12
    else cutM T d (j + 1) (left.drop 12) (out ++ [⟨(out.length : Int), T, padM (left.take 12)⟩]) (xorM par (padM (left.take 12)))
def pieceOk (l : List S89) : Prop := ∀ x ∈ l, x.f2.length = 12
theorem cutM_ok (T : Int) : ∀ (d j : Nat) (left : List Int) (out : List S89) (par : List Int), pieceOk out → par.length = 12 → pieceOk (cutM T d j left out par) ∧ (cutM T d j left out par).length ≤ out.length + 2 * d
  | 0, _, _, out, _, h, _ => ⟨h, by simp [cutM]⟩
  | d + 1, j, left, out, par, h, hp => by
    have hpad := padM_length (left.take 12) (by simp; omega)
    have hx : (xorM par (padM (left.take 12))).length = 12 := by rw [xorM_length]; omega
    have h1 : pieceOk (out ++ [⟨(out.length : Int), T, padM (left.take 12)⟩]) := by
      intro x hx
      rcases List.mem_append.1 hx with hx | hx
      · exact h x hx
      · rw [List.mem_singleton.1 hx]; exact hpad
    rw [cutM]
    split
    · have h2 : pieceOk (out ++ [⟨(out.length : Int), T, padM (left.take 12)⟩] ++ [⟨(out.length : Int) + 1, T, xorM par (padM (left.take 12))⟩]) := by
        intro x hx'
        rcases List.mem_append.1 hx' with hx' | hx'
        · exact h1 x hx'
        · rw [List.mem_singleton.1 hx']; exact hx
      obtain ⟨g1, g2⟩ := cutM_ok T d (j + 1) (left.drop 12) _ zero12 h2 (by simp [zero12])
      exact ⟨g1, by simp only [List.length_append, List.length_singleton] at g2; omega⟩
    · obtain ⟨g1, g2⟩ := cutM_ok T d (j + 1) (left.drop 12) _ (xorM par (padM (left.take 12))) h1 hx
      exact ⟨g1, by simp only [List.length_append, List.length_singleton] at g2; omega⟩
theorem take_byte (l : List Int) (n : Nat) (h : ∀ y ∈ l, 0 ≤ y ∧ y ≤ 255) : ∀ y ∈ l.take n, 0 ≤ y ∧ y ≤ 255 := fun y hy => h y (List.mem_of_mem_take hy)
theorem drop_byte (l : List Int) (n : Nat) (h : ∀ y ∈ l, 0 ≤ y ∧ y ≤ 255) : ∀ y ∈ l.drop n, 0 ≤ y ∧ y ≤ 255 := fun y hy => h y (List.mem_of_mem_drop hy)

-- l1In
theorem E_spec_l1In (a b c : Int) : spec_l1In.f a b c = some (decide (b ≤ a ∧ a ≤ c)) := by
  unfold spec_l1In.f
  by_cases h : a ≥ b
  · rw [if_pos h]; simp [show b ≤ a from h]
  · rw [if_neg h]; simp [show ¬ b ≤ a from h]

-- InRange
theorem E_impl_InRange (a b c : Int) : impl_InRange.f a b c = some (decide (b ≤ a ∧ a ≤ c)) := by
  unfold impl_InRange.f
  by_cases h : b ≤ a
  · rw [if_pos h]; simp [h]
  · rw [if_neg h]; simp [h]

-- countM
def countM (n : Int) : Int := if 0 ≤ n ∧ n ≤ 192 then (if (n + 12) / 12 + ((n + 12) / 12 + 3) / 4 > 16 then 0 else (n + 12) / 12 + ((n + 12) / 12 + 3) / 4) else 0
theorem E_impl_CountPieces (n : Int) (h0 : 0 ≤ n) (h1 : n ≤ 1048576) : impl_CountPieces.f n = some (countM n) := by
  unfold impl_CountPieces.f countM
  rw [E_impl_InRange]
  simp only [Option.bind_some, decide_eq_true_eq]
  by_cases c : 0 ≤ n ∧ n ≤ 192
  · have e1 : wrap64 (n + 12) = n + 12 := w64 (by omega) (by omega)
    have e2 : Int.tdiv (n + 12) 12 = (n + 12) / 12 := Int.tdiv_eq_ediv_of_nonneg (by omega)
    have e3 : wrap64 ((n + 12) / 12) = (n + 12) / 12 := w64 (by omega) (by omega)
    have e4 : wrap64 ((n + 12) / 12 + 4) = (n + 12) / 12 + 4 := w64 (by omega) (by omega)
    have e5 : wrap64 ((n + 12) / 12 + 4 - 1) = (n + 12) / 12 + 3 := by rw [w64 (by omega) (by omega)]; omega
    have e6 : Int.tdiv ((n + 12) / 12 + 3) 4 = ((n + 12) / 12 + 3) / 4 := Int.tdiv_eq_ediv_of_nonneg (by omega)
    have e7 : wrap64 (((n + 12) / 12 + 3) / 4) = ((n + 12) / 12 + 3) / 4 := w64 (by omega) (by omega)
    have e8 : wrap64 ((n + 12) / 12 + ((n + 12) / 12 + 3) / 4) = (n + 12) / 12 + ((n + 12) / 12 + 3) / 4 := w64 (by omega) (by omega)
    rw [if_pos c, if_pos c, e1, e2, e3, e4, e5, e6, e7, e8]
    split <;> rfl
  · rw [if_neg c, if_neg c]
theorem E_spec_CountPieces (n : Int) (h0 : 0 ≤ n) (h1 : n ≤ 1048576) : spec_CountPieces.f n = some (countM n) := by
  unfold spec_CountPieces.f countM spec_CeilDiv.f
  rw [E_spec_l1In]
  simp only [Option.bind_some, decide_eq_true_eq]
  by_cases c0 : 0 ≤ n ∧ n ≤ 400
  · have e1 : wrap64 (n + 1) = n + 1 := w64 (by omega) (by omega)
    have e2 : wrap64 (n + 1 + 12) = n + 13 := by rw [w64 (by omega) (by omega)]; omega
    have e3 : wrap64 (n + 13 - 1) = n + 12 := by rw [w64 (by omega) (by omega)]; omega
    have e4 : Int.tdiv (n + 12) 12 = (n + 12) / 12 := Int.tdiv_eq_ediv_of_nonneg (by omega)
    have e5 : wrap64 ((n + 12) / 12) = (n + 12) / 12 := w64 (by omega) (by omega)
    have e6 : wrap64 ((n + 12) / 12 + 4) = (n + 12) / 12 + 4 := w64 (by omega) (by omega)
    have e7 : wrap64 ((n + 12) / 12 + 4 - 1) = (n + 12) / 12 + 3 := by rw [w64 (by omega) (by omega)]; omega
    have e8 : Int.tdiv ((n + 12) / 12 + 3) 4 = ((n + 12) / 12 + 3) / 4 := Int.tdiv_eq_ediv_of_nonneg (by omega)
    have e9 : wrap64 (((n + 12) / 12 + 3) / 4) = ((n + 12) / 12 + 3) / 4 := w64 (by omega) (by omega)
    have e10 : wrap64 ((n + 12) / 12 + ((n + 12) / 12 + 3) / 4) = (n + 12) / 12 + ((n + 12) / 12 + 3) / 4 := w64 (by omega) (by omega)
    rw [if_pos c0, e1, E_spec_l1In, E_spec_l1In]
    simp only [Option.bind_some, decide_eq_true_eq]
    rw [if_pos (by omega), if_pos (by omega), if_neg (by omega), e2, e3, e4, e5]
    simp only [Option.bind_some]
    rw [E_spec_l1In, E_spec_l1In]
    simp only [Option.bind_some, decide_eq_true_eq]
    rw [if_pos (by omega), if_pos (by omega), if_neg (by omega), e6, e7, e8, e9]
    simp only [Option.bind_some]
    rw [e10]
    by_cases c : n ≤ 192
    · rw [if_pos (show 0 ≤ n ∧ n ≤ 192 from ⟨h0, c⟩)]
      split <;> rfl
    · have hd17 : 17 ≤ (n + 12) / 12 := by clear e1 e2 e3 e4 e5 e6 e7 e8 e9 e10; omega
      generalize (n + 12) / 12 = d at hd17 ⊢
      rw [if_neg (show ¬ (0 ≤ n ∧ n ≤ 192) from fun h => c h.2), if_pos (by clear e1 e2 e3 e4 e5 e6 e7 e8 e9 e10; omega)]
  · rw [if_neg c0, if_neg (by omega)]

-- spec_SplitBytes
theorem E_spec_Min12 (a b : Nat) : spec_Min.f (a : Int) (b : Int) = some ((min a b : Nat) : Int) := by
  unfold spec_Min.f
  by_cases c : (b : Int) < (a : Int)
  · rw [if_pos c, Nat.min_eq_right (by omega)]
  · rw [if_neg c, Nat.min_eq_left (by omega)]
theorem cut12 (l : List Int) (n : Nat) : (l.take (((min l.length (12 * (n + 1)) : Nat) : Int)).toNat).drop (((12 * n : Nat) : Int)).toNat = (l.drop (12 * n)).take 12 := by
  rw [Int.toNat_natCast, Int.toNat_natCast, List.drop_take]
  apply List.ext_getElem?
  intro i
  simp only [List.getElem?_take, List.getElem?_drop]
  by_cases h1 : i < min l.length (12 * (n + 1)) - 12 * n
  · rw [if_pos h1, if_pos (by omega)]
  · rw [if_neg h1]
    by_cases h2 : i < 12
    · rw [if_pos h2, List.getElem?_eq_none (by omega)]
    · rw [if_neg h2]
theorem E_spec_SplitBytes_l0 (l : List Int) (hl : l.length ≤ 256) : ∀ (d n k : Nat) (m : List (List Int)), l.length ≤ 12 * (n + d) → (0 < d → 12 * (n + d) < l.length + 12) → d < k → m.length ≤ n → spec_SplitBytes.l0 k l 12 m ((12 * n : Nat) : Int) = some (m ++ splitM d (l.drop (12 * n))) := by
  intro d
  induction d with
  | zero =>
    intro n k m hn hq hk hm
    obtain ⟨k, rfl⟩ : ∃ j, k = j + 1 := ⟨k - 1, by omega⟩
    simp only [spec_SplitBytes.l0]
    rw [if_neg (by omega), splitM, List.append_nil]
  | succ d ih =>
    intro n k m hn hq hk hm
    have hq := hq (by omega)
    obtain ⟨k, rfl⟩ : ∃ j, k = j + 1 := ⟨k - 1, by omega⟩
    have e1 : wrap64 (((12 * n : Nat) : Int) + 12) = ((12 * (n + 1) : Nat) : Int) := by rw [w64 (by omega) (by omega)]; omega
    simp only [spec_SplitBytes.l0]
    rw [if_pos (by omega), E_spec_l1In, decide_eq_true (show (1 : Int) ≤ 12 ∧ (12 : Int) ≤ 400 by omega), Option.bind_some, if_pos rfl, Option.bind_some, e1]
    have em := E_spec_Min12 l.length (12 * (n + 1))
    rw [em]
    simp only [Option.bind_some, List.nil_append]
    have ec := cut12 l n
    rw [ec, if_pos (by omega), if_pos (by omega), if_pos (by omega), if_pos (by simp; omega), if_pos (by omega), ih (n + 1) k _ (by omega) (fun _ => by omega) (by omega) (by rw [List.length_append, List.length_singleton]; omega), splitM, List.drop_drop, show 12 * n + 12 = 12 * (n + 1) by omega, List.append_assoc, List.singleton_append]
theorem E_spec_SplitBytes (k c : Nat) (l : List Int) (hl : l.length ≤ 256) (h1 : l.length ≤ 12 * c) (h2 : 0 < c → 12 * c < l.length + 12) (hk : 256 < k) : spec_SplitBytes.f k l 12 = some (splitM c l) := by
  unfold spec_SplitBytes.f
  exact E_spec_SplitBytes_l0 l hl c 0 k [] (by omega) (fun h => by have := h2 h; omega) (by have : 0 < c → 12 * c < l.length + 12 := h2; by_cases h : 0 < c <;> omega) (by simp)

-- spec_PadTo
theorem E_spec_PadTo_l0 : ∀ (d k : Nat) (l : List Int), l.length + d = 12 → d < k → spec_PadTo.l0 k 12 l = some (l ++ List.replicate d 0) := by
  intro d
  induction d with
  | zero =>
    intro k l hl hk
    obtain ⟨k, rfl⟩ : ∃ m, k = m + 1 := ⟨k - 1, by omega⟩
    simp only [spec_PadTo.l0]
    rw [if_neg (by omega)]
    simp
  | succ d ih =>
    intro k l hl hk
    obtain ⟨k, rfl⟩ : ∃ m, k = m + 1 := ⟨k - 1, by omega⟩
    simp only [spec_PadTo.l0]
    rw [if_pos (by omega), if_pos (by omega), if_pos (by omega), ih k (l ++ [0]) (by rw [List.length_append, List.length_singleton]; omega) (by omega), List.append_assoc]
    rfl
theorem E_spec_PadTo (k : Nat) (l : List Int) (hl : l.length ≤ 12) (hk : 20 < k) : spec_PadTo.f k l 12 = some (padM l) := by
  unfold spec_PadTo.f
  simp only [Option.bind_some, List.nil_append]
  rw [if_pos (by simp; omega)]
  exact E_spec_PadTo_l0 (12 - l.length) k l (by omega) (by omega)

-- spec_XorBytes
theorem E_spec_XorBytes_l0 (a b : List Int) (ha : a.length ≤ 1048576) (hb : b.length ≤ 1048576) (hB : ∀ y ∈ b, 0 ≤ y ∧ y ≤ 255) : ∀ (d n k : Nat) (m : List Int), n + d = max a.length b.length → 2 * d + 2 < k → m.length = n → spec_XorBytes.l0 k a b m (n : Int) = some (m ++ xorM (a.drop n) (b.drop n)) := by
  intro d
  induction d with
  | zero =>
    intro n k m hn hk hm
    obtain ⟨k, rfl⟩ : ∃ j, k = j + 2 := ⟨k - 2, by omega⟩
    simp only [spec_XorBytes.l0, spec_XorBytes.j1]
    rw [if_neg (by omega), if_neg (by rw [decide_eq_false (by omega)]; decide), List.drop_eq_nil_of_le (by omega), List.drop_eq_nil_of_le (by omega), xorM, List.append_nil]
  | succ d ih =>
    intro n k m hn hk hm
    obtain ⟨k, rfl⟩ : ∃ j, k = j + 2 := ⟨k - 2, by omega⟩
    have e1 : wrap64 ((n : Int) + 1) = ((n + 1 : Nat) : Int) := by rw [w64 (by omega) (by omega)]; omega
    have hj : spec_XorBytes.l0 (k + 2) a b m (n : Int) = spec_XorBytes.j1 (k + 1) a b m (n : Int) true := by
      rw [spec_XorBytes.l0]
      by_cases c : (n : Int) < (a.length : Int)
      · rw [if_pos c]
      · rw [if_neg c, decide_eq_true (show (n : Int) < (b.length : Int) by omega)]
    rw [hj]
    simp only [spec_XorBytes.j1]
    rw [if_pos trivial]
    by_cases c1 : n < a.length
    · rw [if_pos (by omega), if_pos (by omega)]
      by_cases c2 : n < b.length
      · rw [if_pos (by omega), if_pos (by omega), e1, ih (n + 1) k _ (by omega) (by omega) (by rw [List.length_append, List.length_singleton]; omega), rd_nat, rd_nat, getD_drop a n 0 c1, getD_drop b n 0 c2, xorM, List.append_assoc]
        rfl
      · rw [if_neg (by omega), if_pos (by omega), e1, ih (n + 1) k _ (by omega) (by omega) (by rw [List.length_append, List.length_singleton]; omega), rd_nat, getD_drop a n 0 c1, dropE b n (by omega), dropE b (n + 1) (by omega), xorM_nil, xorM_nil, List.append_assoc]
        rfl
    · have c2 : n < b.length := by omega
      rw [if_neg (by omega), if_pos (by omega), if_pos (by omega), if_pos (by omega), e1, ih (n + 1) k _ (by omega) (by omega) (by rw [List.length_append, List.length_singleton]; omega), rd_nat, getD_drop b n 0 c2, dropE a n (by omega), dropE a (n + 1) (by omega), xorM, xorM, List.append_assoc, show Go.bits .xor .u8 0 (b.getD n 0) = b.getD n 0 from xB_zero _ (hB _ (getD_mem b n 0 c2))]
      rfl
theorem E_spec_XorBytes (k : Nat) (a b : List Int) (ha : a.length ≤ 1048576) (hb : b.length ≤ 1048576) (hB : ∀ y ∈ b, 0 ≤ y ∧ y ≤ 255) (hk : 4194304 < k) : spec_XorBytes.f k a b = some (xorM a b) := by
  unfold spec_XorBytes.f
  exact E_spec_XorBytes_l0 a b ha hb hB (max a.length b.length) 0 k [] (by omega) (by omega) rfl

-- spec_CutFile
theorem E_spec_CutFile_l0 (T : Int) (S : List (List Int)) (hS : S.length ≤ 64) : ∀ (d n k : Nat) (left : List Int) (out : List S89) (par : List Int), n + d = S.length → d + 8388608 < k → S.drop n = splitM d left → (∀ y ∈ left, 0 ≤ y ∧ y ≤ 255) → out.length ≤ 2 * n → par.length = 12 → spec_CutFile.l0 k out T S par (n : Int) = some (cutM T d n left out par) := by
  intro d
  induction d with
  | zero =>
    intro n k left out par hn hk hd hb ho hp
    obtain ⟨k, rfl⟩ : ∃ j, k = j + 1 := ⟨k - 1, by omega⟩
    simp only [spec_CutFile.l0]
    rw [if_neg (by omega), cutM]
  | succ d ih =>
    intro n k left out par hn hk hd hb ho hp
    obtain ⟨k, rfl⟩ : ∃ j, k = j + 1 := ⟨k - 1, by omega⟩
    have e1 : wrap64 ((n : Int) + 1) = ((n + 1 : Nat) : Int) := by rw [w64 (by omega) (by omega)]; omega
    rw [getD_drop S n [] (by omega), splitM] at hd
    have hg := (List.cons.inj hd).1
    have ht := (List.cons.inj hd).2
    have er : rd_L1 S (n : Int) = left.take 12 := by rw [← hg]; simp [rd_L1]
    have hpad := padM_length (left.take 12) (by simp; omega)
    have hpb := padM_byte (left.take 12) (take_byte left 12 hb)
    have hxl : (xorM par (padM (left.take 12))).length = 12 := by rw [xorM_length]; omega
    simp only [spec_CutFile.l0]
    rw [if_pos (by omega), if_pos (by omega), er, E_spec_PadTo k _ (by simp; omega) (by omega)]
    simp only [Option.bind_some]
    rw [E_spec_XorBytes k par _ (by omega) (by omega) hpb (by omega)]
    simp only [Option.bind_some]
    rw [if_pos (by omega), e1, cutM]
    have em : Int.tmod (n : Int) 4 = ((n % 4 : Nat) : Int) := by rw [Int.tmod_eq_emod_of_nonneg (by omega)]; omega
    rw [em, w64 (x := (S.length : Int) - 1) (by omega) (by omega)]
    have hl1 : ((out ++ [(⟨(out.length : Int), T, padM (left.take 12)⟩ : S89)]).length : Int) = (out.length : Int) + 1 := by rw [List.length_append, List.length_singleton]; omega
    by_cases c : n % 4 = 3
    · rw [if_pos (by omega), if_pos (by omega), if_pos (by omega), if_pos (Or.inl c), hl1]
      exact ih (n + 1) k (left.drop 12) _ _ (by omega) (by omega) ht (drop_byte left 12 hb) (by simp only [List.length_append, List.length_singleton]; omega) (by simp)
    · rw [if_neg (by omega)]
      by_cases c2 : d = 0
      · rw [if_pos (by omega), if_pos (by omega), if_pos (by omega), if_pos (Or.inr c2), hl1]
        exact ih (n + 1) k (left.drop 12) _ _ (by omega) (by omega) ht (drop_byte left 12 hb) (by simp only [List.length_append, List.length_singleton]; omega) (by simp)
      · rw [if_neg (by omega), if_neg (fun h => h.elim c c2)]
        exact ih (n + 1) k (left.drop 12) _ _ (by omega) (by omega) ht (drop_byte left 12 hb) (by simp only [List.length_append, List.length_singleton]; omega) hxl

-- impl_PadTo
theorem E_impl_PadTo (l : List Int) (hl : l.length ≤ 12) : impl_PadTo.f l 12 = some (padM l) := by
  unfold impl_PadTo.f slices_Clone_byte.f
  simp only [Option.bind_some, List.nil_append]
  rw [if_pos (by simp; omega)]
  simp only [Option.bind_some]
  rw [E_impl_InRange]
  simp only [Option.bind_some, decide_eq_true_eq]
  rw [if_pos (by omega)]
  by_cases c : (l.length : Int) < 12
  · rw [if_pos c, w64 (by omega) (by omega), if_pos (by omega), if_pos (by omega), show (12 - (l.length : Int)).toNat = 12 - l.length by omega]
    rfl
  · rw [if_neg c, padM, show 12 - l.length = 0 by omega]
    simp

-- impl_XorBytes
theorem E_impl_XorBytes_l0 (a b : List Int) (hb : b.length ≤ 1048576) (hab : b.length ≤ a.length) : ∀ (d n k : Nat) (m : List Int), n + d = b.length → d + 0 < k → (m.length = a.length) → (m.drop n = a.drop n) → impl_XorBytes.l0 k m b (b.length : Int) (n : Int) = some (m.take n ++ xorM (a.drop n) (b.drop n)) := by
  intro d
  induction d with
  | zero =>
    intro n k m hn hk hm hd
    obtain ⟨k, rfl⟩ : ∃ m, k = m + 1 := ⟨k - 1, by omega⟩
    simp only [impl_XorBytes.l0]
    rw [if_neg (by omega), dropE b n (by omega), xorM_nil, ← hd, List.take_append_drop]
  | succ d ih =>
    intro n k m hn hk hm hd
    obtain ⟨k, rfl⟩ : ∃ m, k = m + 1 := ⟨k - 1, by omega⟩
    have e1 : wrap64 ((n : Int) + 1) = ((n + 1 : Nat) : Int) := by rw [w64 (by omega) (by omega)]; omega
    simp only [impl_XorBytes.l0]
    have hg : m.getD n 0 = a.getD n 0 := by rw [getD_drop m n 0 (by omega), getD_drop a n 0 (by omega)] at hd; exact (List.cons.inj hd).1
    have ht : m.drop (n + 1) = a.drop (n + 1) := by rw [getD_drop m n 0 (by omega), getD_drop a n 0 (by omega)] at hd; exact (List.cons.inj hd).2
    rw [if_pos (by omega), if_pos (by omega), if_pos (by omega), if_pos (by omega), e1, ih (n + 1) k _ (by omega) (by omega) (by rw [List.length_set]; exact hm) (by rw [show (n : Int).toNat = n by omega, List.drop_set_of_lt (by omega)]; exact ht)]
    rw [show (n : Int).toNat = n by omega, take_set_snoc _ n _ (by omega), rd_nat, rd_nat, hg, getD_drop a n 0 (by omega), getD_drop b n 0 (by omega), xorM, List.append_assoc]
    rfl

theorem E_impl_XorBytes_g (k : Nat) (a b : List Int) (ha : a.length ≤ 1048576) (hab : b.length ≤ a.length) (hk : 4194304 < k) : impl_XorBytes.g k a b = some (xorM a b) := by
  unfold impl_XorBytes.g slices_Clone_byte.f
  simp only [Option.bind_some, List.nil_append]
  rw [if_pos (by simp; omega)]
  simp only [Option.bind_some]
  have := E_impl_XorBytes_l0 a b (by omega) hab b.length 0 k a (by omega) (by omega) rfl rfl
  simpa using this
theorem E_impl_XorBytes (k : Nat) (a b : List Int) (ha : a.length ≤ 1048576) (hb : b.length ≤ 1048576) (hk : 4194304 < k) : impl_XorBytes.f k a b = some (xorM a b) := by
  unfold impl_XorBytes.f
  by_cases c : (a.length : Int) < (b.length : Int)
  · rw [if_pos c, E_impl_XorBytes_g k b a hb (by omega) hk, xorM_comm]
  · rw [if_neg c, E_impl_XorBytes_g k a b ha (by omega) hk]

-- impl_CutFile
theorem E_impl_IsParity (i T : Int) (h0 : 0 ≤ i) (h1 : i < T) (h2 : T ≤ 1000) : impl_IsParity.f i T = some (decide (i % 5 = 4 ∨ i = T - 1)) := by
  unfold impl_IsParity.f
  rw [E_impl_InRange, w64 (by omega) (by omega)]
  simp only [Option.bind_some, decide_eq_true_eq]
  rw [if_pos (by omega), Int.tmod_eq_emod_of_nonneg h0]
  by_cases c : i % 5 = 4
  · rw [if_pos c, decide_eq_true (Or.inl c)]
  · rw [if_neg c]
    congr 1
    rw [Bool.eq_iff_iff, beq_iff_eq, decide_eq_true_eq]
    exact ⟨Or.inr, fun h => h.elim (fun h => absurd h c) id⟩
theorem E_impl_CutFile_s1 (k : Nat) (T : Int) (left : List Int) (out : List S89) (par : List Int) (i : Int) (hk : 4194304 < k) (h0 : 0 ≤ i) (h1 : i < T) (h2 : T ≤ 1000) (hno : ¬ (i % 5 = 4 ∨ i = T - 1)) (hl : left.length ≤ 4096) (ho : out.length ≤ 4096) (hp : par.length = 12) :
    impl_CutFile.l0 (k + 1) T left out par T i = impl_CutFile.l0 k T (left.drop 12) (out ++ [⟨i, T, padM (left.take 12)⟩]) (xorM par (padM (left.take 12))) T (i + 1) := by
  have hpad := padM_length (left.take 12) (by simp; omega)
  have hmn : mn (left.length : Int) 12 = ((min left.length 12 : Nat) : Int) := by unfold mn; split <;> omega
  have htk : left.take ((min left.length 12 : Nat) : Int).toNat = left.take 12 := by
    rw [show ((min left.length 12 : Nat) : Int).toNat = min left.length 12 by omega]
    apply List.ext_getElem?
    intro i
    simp only [List.getElem?_take]
    by_cases h1 : i < min left.length 12
    · rw [if_pos h1, if_pos (by omega)]
    · rw [if_neg h1]
      by_cases h2 : i < 12
      · rw [if_pos h2, List.getElem?_eq_none (by omega)]
      · rw [if_neg h2]
  have hdr : left.drop ((min left.length 12 : Nat) : Int).toNat = left.drop 12 := by
    rw [show ((min left.length 12 : Nat) : Int).toNat = min left.length 12 by omega]
    by_cases h : left.length ≤ 12
    · rw [dropE _ _ (by omega), dropE _ _ h]
    · rw [show min left.length 12 = 12 by omega]
  simp only [impl_CutFile.l0]
  rw [if_pos h1, E_impl_IsParity i T h0 h1 h2, decide_eq_false hno]
  simp only [Option.bind_some]
  rw [if_neg (by decide), hmn, if_pos (by omega), if_pos (by omega), htk, hdr, E_impl_PadTo _ (by simp; omega)]
  simp only [Option.bind_some]
  rw [if_pos (by omega), E_impl_XorBytes _ par _ (by omega) (by omega) (by omega)]
  simp only [Option.bind_some]
  rw [w64 (x := i + 1) (by omega) (by omega)]
theorem E_impl_CutFile_s2 (k : Nat) (T : Int) (left : List Int) (out : List S89) (par : List Int) (i : Int) (h0 : 0 ≤ i) (h1 : i < T) (h2 : T ≤ 1000) (hno : i % 5 = 4 ∨ i = T - 1) (ho : out.length ≤ 4096) :
    impl_CutFile.l0 (k + 1) T left out par T i = impl_CutFile.l0 k T left (out ++ [⟨i, T, par⟩]) zero12 T (i + 1) := by
  simp only [impl_CutFile.l0]
  rw [if_pos h1, E_impl_IsParity i T h0 h1 h2, decide_eq_true hno]
  simp only [Option.bind_some]
  rw [if_pos trivial, if_pos (by omega), if_pos (by omega), w64 (x := i + 1) (by omega) (by omega)]
  rfl
theorem E_impl_CutFile_l0 (T : Int) (c p : Nat) (hc : c ≤ 64) (hT : T = (c : Int) + (p : Int)) (hp1 : c ≤ 4 * p) (hp2 : 4 * p ≤ c + 3) : ∀ (d n k : Nat) (left : List Int) (out : List S89) (par : List Int), n + d = c → 2 * d + 8388608 < k → left.length ≤ 4096 → (d = 0 → (out.length : Int) = T) → (0 < d → ∃ q r : Nat, n = 4 * q + r ∧ r < 4 ∧ out.length = 5 * q + r) → par.length = 12 → impl_CutFile.l0 k T left out par T (out.length : Int) = some (cutM T d n left out par) := by
  intro d
  induction d with
  | zero =>
    intro n k left out par hn hk hb h0 ho hp
    obtain ⟨k, rfl⟩ : ∃ j, k = j + 1 := ⟨k - 1, by omega⟩
    have h0 := h0 rfl
    simp only [impl_CutFile.l0]
    rw [if_neg (by omega), cutM]
  | succ d ih =>
    intro n k left out par hn hk hb h0 ho hp
    obtain ⟨k, rfl⟩ : ∃ j, k = j + 2 := ⟨k - 2, by omega⟩
    obtain ⟨q, r, hq, hr, ho⟩ := ho (by omega)
    have hpad := padM_length (left.take 12) (by simp; omega)
    have hxl : (xorM par (padM (left.take 12))).length = 12 := by rw [xorM_length]; omega
    have hi : (out.length : Int) = 5 * (q : Int) + r := by omega
    have step := E_impl_CutFile_s1 (k + 1) T left out par (out.length : Int) (by omega) (by omega) (by omega) (by omega) (by omega) hb (by omega) hp
    have hl1 : (out ++ [(⟨(out.length : Int), T, padM (left.take 12)⟩ : S89)]).length = out.length + 1 := by rw [List.length_append, List.length_singleton]
    rw [show k + 2 = k + 1 + 1 from rfl, step, cutM]
    by_cases c1 : n % 4 = 3 ∨ d = 0
    · rw [if_pos c1, E_impl_CutFile_s2 k T _ _ _ ((out.length : Int) + 1) (by omega) (by omega) (by omega) (by omega) (by rw [hl1]; omega)]
      have hl2 : (out ++ [(⟨(out.length : Int), T, padM (left.take 12)⟩ : S89)] ++ [(⟨(out.length : Int) + 1, T, xorM par (padM (left.take 12))⟩ : S89)]).length = out.length + 2 := by rw [List.length_append, hl1, List.length_singleton]
      have := ih (n + 1) k (left.drop 12) (out ++ [⟨(out.length : Int), T, padM (left.take 12)⟩] ++ [⟨(out.length : Int) + 1, T, xorM par (padM (left.take 12))⟩]) zero12 (by omega) (by omega) (by rw [List.length_drop]; omega) (fun h => by rw [hl2]; omega) (fun h => ⟨q + 1, 0, by omega, by omega, by rw [hl2]; omega⟩) (by simp [zero12])
      rw [hl2, show ((out.length + 2 : Nat) : Int) = (out.length : Int) + 1 + 1 by omega] at this
      exact this
    · rw [if_neg c1]
      have := ih (n + 1) (k + 1) (left.drop 12) (out ++ [⟨(out.length : Int), T, padM (left.take 12)⟩]) (xorM par (padM (left.take 12))) (by omega) (by omega) (by rw [List.length_drop]; omega) (fun h => absurd (Or.inr h) c1) (fun h => ⟨q, r + 1, by omega, by omega, by rw [hl1]; omega⟩) hxl
      rw [hl1, show ((out.length + 1 : Nat) : Int) = (out.length : Int) + 1 by omega] at this
      exact this

-- laws_eqByteS
theorem E_laws_eqByteS_l0 (l m : List Int) (hl : l.length ≤ 2097152) (hm : l.length = m.length) : ∀ (d n k : Nat) , n + d = l.length → d + 0 < k → laws_eqByteS.l0 k l m (n : Int) = some (decide (l.drop n = m.drop n)) := by
  intro d
  induction d with
  | zero =>
    intro n k  hn hk 
    obtain ⟨k, rfl⟩ : ∃ m, k = m + 1 := ⟨k - 1, by omega⟩
    simp only [laws_eqByteS.l0]
    rw [if_neg (by omega), List.drop_eq_nil_of_le (by omega), List.drop_eq_nil_of_le (by omega)]
    rfl
  | succ d ih =>
    intro n k  hn hk 
    obtain ⟨k, rfl⟩ : ∃ m, k = m + 1 := ⟨k - 1, by omega⟩
    have e1 : wrap64 ((n : Int) + 1) = ((n + 1 : Nat) : Int) := by rw [w64 (by omega) (by omega)]; omega
    simp only [laws_eqByteS.l0]
    rw [if_pos (by omega), if_pos (by omega), if_pos (by omega), e1, rd_nat, rd_nat, getD_drop l n 0 (by omega), getD_drop m n 0 (by omega)]
    by_cases h : l.getD n 0 = m.getD n 0
    · rw [if_pos h, ih (n + 1) k (by omega) (by omega), h]
      simp only [List.cons.injEq, true_and]
    · rw [if_neg h, decide_eq_false (fun e => h (List.cons.inj e).1)]

theorem E_laws_eqByteS (k : Nat) (l m : List Int) (hk : 4194304 < k) (hl : l.length ≤ 2097152) : laws_eqByteS.f k l m = some (decide (l = m)) := by
  unfold laws_eqByteS.f
  by_cases h : (l.length : Int) = (m.length : Int)
  · rw [if_pos h]
    have := E_laws_eqByteS_l0 l m hl (by omega) l.length 0 k (by omega) (by omega)
    simpa using this
  · rw [if_neg h]
    have : l ≠ m := fun e => h (by rw [e])
    simp [this]

-- markBo
theorem E_laws_markByteS_l0 (l : List Int) (hl : l.length ≤ 2097152) : ∀ (d n k : Nat) (m : List Int) (x : Int), n + d = l.length → d + 0 < k → (m.length = l.length) → (0 ≤ x) → (x + (l.length - n : Nat) ≤ 4194304) → laws_markByteS.l0 k m x (n : Int) = some ((x + (l.length - n : Nat), m.take n ++ markB x (l.length - n))) := by
  intro d
  induction d with
  | zero =>
    intro n k m x hn hk hm h0 h1
    obtain ⟨k, rfl⟩ : ∃ m, k = m + 1 := ⟨k - 1, by omega⟩
    simp only [laws_markByteS.l0]
    have e : l.length - n = 0 := by omega
    rw [if_neg (by omega), e]
    simp only [markB, List.append_nil]
    rw [List.take_of_length_le (by omega)]
    simp
  | succ d ih =>
    intro n k m x hn hk hm h0 h1
    obtain ⟨k, rfl⟩ : ∃ m, k = m + 1 := ⟨k - 1, by omega⟩
    have e1 : wrap64 ((n : Int) + 1) = ((n + 1 : Nat) : Int) := by rw [w64 (by omega) (by omega)]; omega
    simp only [laws_markByteS.l0]
    have e : l.length - n = (l.length - (n + 1)) + 1 := by omega
    rw [if_pos (by omega), if_pos (by omega), e1, w64 (x := x + 1) (by omega) (by omega)]
    rw [ih (n + 1) k _ _ (by omega) (by omega) (by simp; omega) (by omega) (by omega), e]
    simp only [markB]
    rw [show (n : Int).toNat = n by omega, take_set_snoc _ n _ (by omega), List.append_assoc]
    rw [show x + 1 + ((l.length - (n + 1) : Nat) : Int) = x + ((l.length - (n + 1) + 1 : Nat) : Int) by omega]
    rfl

theorem E_laws_markByteS (k : Nat) (l : List Int) (x : Int) (hk : 4194304 < k) (hl : l.length ≤ 2097152) (h0 : 0 ≤ x) (h1 : x ≤ 2097152) : laws_markByteS.f k l x = some (x + l.length, markB x l.length) := by
  unfold laws_markByteS.f
  have := E_laws_markByteS_l0 l hl l.length 0 k l x (by omega) (by omega) rfl h0 (by omega)
  simpa using this

-- heldB
theorem E_laws_heldByteS_l0 (l : List Int) (x0 : Int) (n0 : Nat) (hn0 : n0 ≤ 2097152) (h0 : 0 ≤ x0) (h1 : x0 ≤ 2097152) (hl : l = markB x0 n0) : ∀ (d n k : Nat), n + d = n0 → d < k → laws_heldByteS.l0 k l (x0 + n) (n : Int) = some (x0 + n0) := by
  have hlen : l.length = n0 := by rw [hl, markB_length]
  intro d
  induction d with
  | zero =>
    intro n k hn hk
    obtain ⟨k, rfl⟩ : ∃ m, k = m + 1 := ⟨k - 1, by omega⟩
    simp only [laws_heldByteS.l0]
    rw [if_neg (by omega)]
    congr 1
    omega
  | succ d ih =>
    intro n k hn hk
    obtain ⟨k, rfl⟩ : ∃ m, k = m + 1 := ⟨k - 1, by omega⟩
    simp only [laws_heldByteS.l0]
    rw [if_pos (by omega), if_pos (by omega), rd_nat, hl, markB_get _ _ _ (by omega), if_pos rfl, w64 (by omega) (by omega), w64 (by omega) (by omega), ← hl]
    have := ih (n + 1) k (by omega) (by omega)
    rw [← this]
    congr 1
    · omega
theorem E_laws_heldByteS (k : Nat) (x : Int) (n : Nat) (hk : 4194304 < k) (hn : n ≤ 2097152) (h0 : 0 ≤ x) (h1 : x ≤ 2097152) : laws_heldByteS.f k (markB x n) x = some (x + n) := by
  unfold laws_heldByteS.f
  have := E_laws_heldByteS_l0 (markB x n) x n hn h0 h1 rfl n 0 k (by omega) (by omega)
  simpa using this

-- pieceRows
def endPP : List S89 → Int → Int
  | [], x => x
  | p :: l, x => endPP l (x + 2 + p.f2.length)
def markPP : List S89 → Int → List S89
  | [], _ => []
  | p :: l, x => ⟨x, x + 1, markB (x + 2) p.f2.length⟩ :: markPP l (x + 2 + p.f2.length)
theorem endPP_le : ∀ (l : List S89) (x : Int), x ≤ endPP l x
  | [], x => by simp [endPP]
  | p :: l, x => by have := endPP_le l (x + 2 + p.f2.length); rw [endPP]; omega
theorem markPP_length : ∀ (l : List S89) (x : Int), (markPP l x).length = l.length
  | [], _ => rfl
  | p :: l, x => by simp [markPP, markPP_length l]
theorem E_laws_eqPieceS_l0 (l : List S89) (hl : l.length ≤ 1048576) (hw : ∀ x ∈ l, x.f2.length ≤ 1048576) : ∀ (d n k : Nat) , n + d = l.length → d + 4194304 < k → laws_eqPieceS.l0 k l l (n : Int) = some true := by
  intro d
  induction d with
  | zero =>
    intro n k  hn hk 
    obtain ⟨k, rfl⟩ : ∃ m, k = m + 1 := ⟨k - 1, by omega⟩
    simp only [laws_eqPieceS.l0]
    rw [if_neg (by omega)]
  | succ d ih =>
    intro n k  hn hk 
    obtain ⟨k, rfl⟩ : ∃ m, k = m + 1 := ⟨k - 1, by omega⟩
    have e1 : wrap64 ((n : Int) + 1) = ((n + 1 : Nat) : Int) := by rw [w64 (by omega) (by omega)]; omega
    simp only [laws_eqPieceS.l0]
    have er : rd_T89 l (n : Int) = l.getD n z89 := by simp [rd_T89]
    have hy := hw _ (getD_mem l n z89 (by omega))
    unfold laws_eqPiece.f
    rw [if_pos (by omega), if_pos (by omega), if_pos (by omega), er, if_pos rfl, if_pos rfl, E_laws_eqByteS k _ _ (by omega) (by omega)]
    simp only [Option.bind_some, if_true, decide_true]
    rw [e1, ih (n + 1) k (by omega) (by omega)]

theorem E_laws_eqPieceS (k : Nat) (l : List S89) (hk : 8388608 < k) (hl : l.length ≤ 1048576) (hw : ∀ x ∈ l, x.f2.length ≤ 1048576) : laws_eqPieceS.f k l l = some true := by
  unfold laws_eqPieceS.f
  rw [if_pos rfl]
  exact E_laws_eqPieceS_l0 l hl hw l.length 0 k (by omega) (by omega)
theorem E_laws_markPieceS_l0 (l : List S89) (hl : l.length ≤ 1048576) (hw : ∀ x ∈ l, x.f2.length ≤ 1048576) : ∀ (d n k : Nat) (m : List S89) (x : Int), n + d = l.length → d + 4194304 < k → (m.length = l.length) → (m.drop n = l.drop n) → (0 ≤ x) → (endPP (l.drop n) x ≤ 2097152) → laws_markPieceS.l0 k m x (n : Int) = some (endPP (l.drop n) x, m.take n ++ markPP (l.drop n) x) := by
  intro d
  induction d with
  | zero =>
    intro n k m x hn hk hm hd h0 h1
    obtain ⟨k, rfl⟩ : ∃ m, k = m + 1 := ⟨k - 1, by omega⟩
    simp only [laws_markPieceS.l0]
    rw [if_neg (by omega), List.drop_eq_nil_of_le (by omega), List.take_of_length_le (by omega), endPP, markPP, List.append_nil]
  | succ d ih =>
    intro n k m x hn hk hm hd h0 h1
    obtain ⟨k, rfl⟩ : ∃ m, k = m + 1 := ⟨k - 1, by omega⟩
    have e1 : wrap64 ((n : Int) + 1) = ((n + 1 : Nat) : Int) := by rw [w64 (by omega) (by omega)]; omega
    simp only [laws_markPieceS.l0]
    have hg : m.getD n z89 = l.getD n z89 := by rw [getD_drop m n z89 (by omega), getD_drop l n z89 (by omega)] at hd; exact (List.cons.inj hd).1
    have ht : m.drop (n + 1) = l.drop (n + 1) := by rw [getD_drop m n z89 (by omega), getD_drop l n z89 (by omega)] at hd; exact (List.cons.inj hd).2
    have er : rd_T89 m (n : Int) = l.getD n z89 := by rw [← hg]; simp [rd_T89]
    have hy := hw _ (getD_mem l n z89 (by omega))
    rw [getD_drop l n z89 (by omega), endPP] at h1
    have hle := endPP_le (l.drop (n + 1)) (x + 2 + (l.getD n z89).f2.length)
    have hx2 : wrap64 (wrap64 (x + 1) + 1) = x + 2 := by rw [w64 (x := x + 1) (by omega) (by omega), w64 (by omega) (by omega)]; omega
    rw [if_pos (by omega), if_pos (by omega), er, hx2, w64 (x := x + 1) (by omega) (by omega), E_laws_markByteS k _ _ (by omega) (by omega) (by omega) (by omega)]
    simp only [Option.bind_some]
    rw [e1, ih (n + 1) k _ _ (by omega) (by omega) (by rw [List.length_set]; omega) (by rw [show (n : Int).toNat = n by omega, List.drop_set_of_lt (by omega)]; exact ht) (by omega) h1]
    rw [show (n : Int).toNat = n by omega, take_set_snoc _ n _ (by omega), getD_drop l n z89 (by omega), endPP, markPP, List.append_assoc]
    rfl

theorem E_laws_markPieceS (k : Nat) (l : List S89) (x : Int) (hk : 8388608 < k) (hl : l.length ≤ 1048576) (hw : ∀ x ∈ l, x.f2.length ≤ 1048576) (h0 : 0 ≤ x) (h1 : endPP l x ≤ 2097152) : laws_markPieceS.f k l x = some (endPP l x, markPP l x) := by
  unfold laws_markPieceS.f
  have := E_laws_markPieceS_l0 l hl hw l.length 0 k l x (by omega) (by omega) rfl rfl h0 h1
  simpa using this
theorem E_laws_heldPieceS_l0 (M : List S89) (hM : M.length ≤ 1048576) : ∀ (d n k : Nat) (ls : List S89) (x : Int), n + d = M.length → d + 4194304 < k → M.drop n = markPP ls x → (∀ y ∈ ls, y.f2.length ≤ 1048576) → 0 ≤ x → endPP ls x ≤ 2097152 → laws_heldPieceS.l0 k M x (n : Int) = some (endPP ls x) := by
  intro d
  induction d with
  | zero =>
    intro n k ls x hn hk hd hw h0 h1
    obtain ⟨k, rfl⟩ : ∃ m, k = m + 1 := ⟨k - 1, by omega⟩
    have hz : ls.length = 0 := by rw [← markPP_length ls x, ← hd, List.length_drop]; omega
    obtain rfl := List.eq_nil_of_length_eq_zero hz
    simp only [laws_heldPieceS.l0]
    rw [if_neg (by omega), endPP]
  | succ d ih =>
    intro n k ls x hn hk hd hw h0 h1
    obtain ⟨k, rfl⟩ : ∃ m, k = m + 1 := ⟨k - 1, by omega⟩
    have e1 : wrap64 ((n : Int) + 1) = ((n + 1 : Nat) : Int) := by rw [w64 (by omega) (by omega)]; omega
    cases ls with
    | nil => rw [getD_drop M n z89 (by omega)] at hd; exact absurd hd (by simp [markPP])
    | cons p ls =>
      rw [getD_drop M n z89 (by omega), markPP] at hd
      have hg := (List.cons.inj hd).1
      have ht := (List.cons.inj hd).2
      rw [endPP] at h1
      have hle := endPP_le ls (x + 2 + p.f2.length)
      have hp := hw p (List.mem_cons_self ..)
      have hx2 : wrap64 (wrap64 (x + 1) + 1) = x + 2 := by rw [w64 (x := x + 1) (by omega) (by omega), w64 (by omega) (by omega)]; omega
      have er : rd_T89 M (n : Int) = (⟨x, x + 1, markB (x + 2) p.f2.length⟩ : S89) := by rw [← hg]; simp [rd_T89]
      simp only [laws_heldPieceS.l0]
      rw [if_pos (by omega), if_pos (by omega), er, hx2, w64 (x := x + 1) (by omega) (by omega), if_pos rfl, if_pos rfl, E_laws_heldByteS k _ p.f2.length (by omega) (by omega) (by omega) (by omega)]
      simp only [Option.bind_some]
      rw [if_neg (by omega), e1, ih (n + 1) k ls _ (by omega) (by omega) ht (fun y hy => hw y (List.mem_cons_of_mem _ hy)) (by omega) h1, endPP]
theorem E_laws_heldPieceS (k : Nat) (l : List S89) (x : Int) (hk : 8388608 < k) (hl : l.length ≤ 1048576) (hw : ∀ x ∈ l, x.f2.length ≤ 1048576) (h0 : 0 ≤ x) (h1 : endPP l x ≤ 2097152) : laws_heldPieceS.f k (markPP l x) x = some (endPP l x) := by
  unfold laws_heldPieceS.f
  exact E_laws_heldPieceS_l0 _ (by rw [markPP_length]; exact hl) (markPP l x).length 0 k l x (by omega) (by rw [markPP_length]; omega) rfl hw h0 h1

-- cutFileM
def cutFileM (l : List Int) : List S89 := if countM l.length = 0 ∨ (l.length : Int) > 255 then [] else cutM (countM l.length) ((l.length + 12) / 12) 0 ((l.length : Int) :: l) [] zero12
theorem cutFileM_ok (l : List Int) (hl : l.length ≤ 1048576) : pieceOk (cutFileM l) ∧ (cutFileM l).length ≤ 64 := by
  unfold cutFileM
  split
  · exact ⟨fun x hx => absurd hx (by simp), by simp⟩
  · next h =>
    have h1 : l.length ≤ 255 := by omega
    obtain ⟨g1, g2⟩ := cutM_ok (countM l.length) ((l.length + 12) / 12) 0 ((l.length : Int) :: l) [] zero12 (fun x hx => absurd hx (by simp)) (by simp [zero12])
    exact ⟨g1, by simp only [List.length_nil] at g2; omega⟩
theorem E_spec_CutFile (k : Nat) (l : List Int) (hl : l.length ≤ 1048576) (hb : ∀ y ∈ l, 0 ≤ y ∧ y ≤ 255) (hk : 12582912 < k) : spec_CutFile.f k l = some (cutFileM l) := by
  obtain ⟨k, rfl⟩ : ∃ j, k = j + 1 := ⟨k - 1, by omega⟩
  unfold spec_CutFile.f cutFileM
  rw [E_spec_CountPieces _ (by omega) (by omega)]
  simp only [Option.bind_some, spec_CutFile.j0]
  by_cases c : countM l.length = 0
  · rw [if_pos c, if_pos trivial, if_pos (Or.inl c)]
  · rw [if_neg c]
    by_cases c2 : (l.length : Int) > 255
    · rw [if_pos (by rw [decide_eq_true c2]), if_pos (Or.inr c2)]
    · have hm : (l.length : Int) % 256 = (l.length : Int) := by omega
      have hno : ¬ (countM l.length = 0 ∨ (l.length : Int) > 255) := fun h => h.elim c c2
      rw [if_neg (by rw [decide_eq_false c2]; decide), if_neg hno, hm, if_pos (by simp; omega), E_spec_SplitBytes k ((l.length + 12) / 12) _ (by simp; omega) (by simp; omega) (fun _ => by simp; omega) (by omega)]
      simp only [Option.bind_some]
      rw [if_pos (by omega)]
      exact E_spec_CutFile_l0 (countM l.length) _ (by rw [splitM_length]; omega) ((l.length + 12) / 12) 0 k ((l.length : Int) :: l) [] _ (by rw [splitM_length]; omega) (by omega) rfl (fun y hy => by
        rcases List.mem_cons.1 hy with rfl | hy
        · omega
        · exact hb y hy) (by simp) (by simp)
theorem E_impl_CutFile (k : Nat) (l : List Int) (hl : l.length ≤ 1048576) (hk : 12582912 < k) : impl_CutFile.f k l = some (cutFileM l) := by
  obtain ⟨k, rfl⟩ : ∃ j, k = j + 1 := ⟨k - 1, by omega⟩
  unfold impl_CutFile.f cutFileM
  rw [E_impl_CountPieces _ (by omega) (by omega)]
  simp only [Option.bind_some, impl_CutFile.j0]
  by_cases c : countM l.length = 0
  · rw [if_pos c, if_pos trivial, if_pos (Or.inl c)]
  · rw [if_neg c]
    by_cases c2 : (l.length : Int) > 255
    · rw [if_pos (by rw [decide_eq_true c2]), if_pos (Or.inr c2)]
    · have hm : (l.length : Int) % 256 = (l.length : Int) := by omega
      have hno : ¬ (countM l.length = 0 ∨ (l.length : Int) > 255) := fun h => h.elim c c2
      have hT : countM l.length = (((l.length + 12) / 12 : Nat) : Int) + ((((l.length + 12) / 12 + 3) / 4 : Nat) : Int) := by
        unfold countM at c ⊢
        split at c
        · next h =>
          rw [if_pos h]
          split at c
          · exact absurd rfl c
          · next h2 => rw [if_neg h2]; omega
        · exact absurd rfl c
      rw [if_neg (by rw [decide_eq_false c2]; decide), if_neg hno, hm, if_pos (by simp; omega), if_pos (by omega)]
      exact E_impl_CutFile_l0 (countM l.length) ((l.length + 12) / 12) (((l.length + 12) / 12 + 3) / 4) (by omega) hT (by omega) (by omega) ((l.length + 12) / 12) 0 k ((l.length : Int) :: l) [] _ (by omega) (by omega) (by simp; omega) (fun h => absurd h (by omega)) (fun _ => ⟨0, 0, rfl, by omega, rfl⟩) (by simp)
theorem endPP_bound : ∀ (l : List S89) (x : Int), pieceOk l → endPP l x = x + 14 * l.length
  | [], x, _ => by simp [endPP]
  | p :: l, x, h => by
    have h1 := h p (List.mem_cons_self ..)
    rw [endPP, endPP_bound l _ (fun y hy => h y (List.mem_cons_of_mem _ hy)), List.length_cons, h1]
    omega

-- laws_toByteS
theorem E_laws_toByteS_l0 (l : List Int) (hl : l.length ≤ 2097152) : ∀ (d n k : Nat) (m : List Int), n + d = l.length → d + 0 < k → (m.length = l.length) → laws_toByteS.l0 k l m (n : Int) = some (m.take n ++ l.drop n) := by
  intro d
  induction d with
  | zero =>
    intro n k m hn hk hm
    obtain ⟨k, rfl⟩ : ∃ m, k = m + 1 := ⟨k - 1, by omega⟩
    simp only [laws_toByteS.l0]
    rw [if_neg (by omega), List.drop_eq_nil_of_le (by omega), List.append_nil, List.take_of_length_le (by omega)]
  | succ d ih =>
    intro n k m hn hk hm
    obtain ⟨k, rfl⟩ : ∃ m, k = m + 1 := ⟨k - 1, by omega⟩
    have e1 : wrap64 ((n : Int) + 1) = ((n + 1 : Nat) : Int) := by rw [w64 (by omega) (by omega)]; omega
    simp only [laws_toByteS.l0]
    rw [if_pos (by omega), if_pos (by omega), if_pos (by omega), e1, rd_nat]
    rw [ih (n + 1) k _ (by omega) (by omega) (by simp; omega), getD_drop l n 0 (by omega)]
    rw [show (n : Int).toNat = n by omega, take_set_snoc _ n _ (by omega), List.append_assoc]
    rfl

theorem E_laws_toByteS (k : Nat) (l : List Int) (hk : 4194304 < k) (hl : l.length ≤ 2097152) : laws_toByteS.f k l = some l := by
  unfold laws_toByteS.f
  rw [if_pos (by omega), if_pos (by omega)]
  have := E_laws_toByteS_l0 l hl l.length 0 k (List.replicate ((l.length : Int) : Int).toNat 0) (by omega) (by omega) (by simp)
  simpa using this

-- FnExactCutFile
theorem FnExactCutFile : laws_FnExactCutFile.Pure := by
  intro l hl
  have hb : ∀ y ∈ l, 0 ≤ y ∧ y ≤ 255 := fun y hy => wf8 (hl.2 y hy)
  refine ⟨16777216, ?_⟩
  unfold laws_FnExactCutFile.f
  by_cases cc : (l.length : Int) > 1048576
  · rw [if_pos cc]
  · have hm : l.length ≤ 1048576 := by omega
    obtain ⟨g1, g2⟩ := cutFileM_ok l hm
    have e1 := E_spec_CutFile 16777216 l hm hb (by omega)
    have e2 := E_impl_CutFile 16777216 l hm (by omega)
    have hE := endPP_bound (cutFileM l) 1 g1
    generalize cutFileM l = g at g1 g2 e1 e2 hE
    have hw : ∀ x ∈ g, x.f2.length ≤ 1048576 := fun x hx => by rw [g1 x hx]; omega
    rw [if_neg cc, E_laws_toByteS _ l (by omega) (by omega)]
    simp only [Option.bind_some]
    rw [e1, e2]
    simp only [Option.bind_some]
    rw [E_laws_eqPieceS _ g (by omega) (by omega) hw, E_laws_eqByteS _ l l (by omega) (by omega), E_laws_markByteS _ l 1 (by omega) (by omega) (by omega) (by omega), E_laws_markPieceS _ g 1 (by omega) (by omega) hw (by omega) (by omega)]
    simp only [Option.bind_some]
    rw [E_laws_heldPieceS _ g 1 (by omega) (by omega) hw (by omega) (by omega), hE]
    simp
    omega
end Go.Proofs.Ytofkfagfdeohmaa.Pure
