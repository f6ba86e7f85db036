-- The plain side: numbers and lists. No Go and no memory.
import Derived.Test.YtcjgeekeohbnmaaWQ
namespace Go.Proofs.Ytcjgeekeohbnmaa.M
open Go.RowKit Go.Proofs.YtcjgeekeohbnmaaW.PrintWords
theorem w64 {x : Int} (h1 : -9223372036854775808 ≤ x) (h2 : x ≤ 9223372036854775807) : wrap64 x = x := by unfold wrap64; omega
theorem w64_lo (x : Int) : -9223372036854775808 ≤ wrap64 x := by unfold wrap64; omega
theorem w64_hi (x : Int) : wrap64 x ≤ 9223372036854775807 := by unfold wrap64; omega
theorem wf64 {x : Int} (h : (Lit.int .i64 x).wf = true) : -9223372036854775808 ≤ x ∧ x ≤ 9223372036854775807 := by
  simp [Lit.wf, IntKind.min, IntKind.max, IntKind.signed, IntKind.bits] at h
  omega
theorem wf8 {x : Int} (h : (Lit.int .u8 x).wf = true) : 0 ≤ x ∧ x ≤ 255 := by
  simp [Lit.wf, IntKind.min, IntKind.max, IntKind.signed, IntKind.bits] at h
  omega
theorem getD_drop {α : Type} (l : List α) (n : Nat) (d : α) (h : n < l.length) : l.drop n = l.getD n d :: l.drop (n + 1) := by
  rw [List.drop_eq_getElem_cons h]
  simp [List.getD_eq_getElem?_getD, List.getElem?_eq_getElem h]
theorem take_getD {α : Type} (l : List α) (n : Nat) (d : α) (h : n < l.length) : l.take (n + 1) = l.take n ++ [l.getD n d] := by
  rw [List.take_succ_eq_append_getElem h]
  simp [List.getD_eq_getElem?_getD, List.getElem?_eq_getElem h]
theorem take_set_snoc {α : Type} (m : List α) (n : Nat) (x : α) (h : n < m.length) : (m.set n x).take (n + 1) = m.take n ++ [x] := by
  apply List.ext_getElem?
  intro i
  rw [List.getElem?_take, List.getElem?_append, List.getElem?_take, List.getElem?_set]
  simp only [List.length_take, List.getElem?_singleton]
  rw [show min n m.length = n by omega]
  rcases Nat.lt_trichotomy i n with h1 | h1 | h1
  · simp [h1, show n ≠ i by omega, show i < n + 1 by omega]
  · subst h1
    simp [h]
  · simp [show ¬ i < n by omega, show ¬ i < n + 1 by omega, show i - n ≠ 0 by omega]
theorem rd_nat (l : List Int) (n : Nat) : rd l (n : Int) = l.getD n 0 := by simp [rd]
/-- A loop over a list, by index: what comes from the place n on. -/
def modM (a b : Int) : Int := if 1 ≤ b ∧ b ≤ 1000000000000 then Int.tmod (wrap64 (Int.tmod a b + b)) b else 0
def stepM (h v : Int) : Int := Int.tmod (wrap64 (wrap64 (wrap64 (h * 1000003) + modM v 2147483647) + 13)) 2147483647
def hashM (l : List Int) : Int := l.foldl stepM 11
def khashM (k : Int) (l : List Int) : Int := hashM (k :: l ++ [k])
theorem modM_range (v : Int) : 0 ≤ modM v 2147483647 ∧ modM v 2147483647 < 2147483647 := by
  unfold modM
  rw [if_pos (by omega)]
  have h := Int.tmod_lt_of_pos v (show (0 : Int) < 2147483647 by omega)
  have h' : -2147483647 < Int.tmod v 2147483647 := by
    have := Int.tmod_lt_of_pos (-v) (show (0 : Int) < 2147483647 by omega)
    rw [Int.neg_tmod] at this
    omega
  rw [w64 (by omega) (by omega)]
  refine ⟨Int.tmod_nonneg _ (by omega), Int.tmod_lt_of_pos _ (by omega)⟩
theorem stepM_range (h v : Int) (h0 : 0 ≤ h) (h1 : h < 2147483647) : 0 ≤ stepM h v ∧ stepM h v < 2147483647 := by
  have := modM_range v
  unfold stepM
  rw [w64 (x := h * 1000003) (by omega) (by omega), w64 (x := h * 1000003 + _) (by omega) (by omega), w64 (by omega) (by omega)]
  exact ⟨Int.tmod_nonneg _ (by omega), Int.tmod_lt_of_pos _ (by omega)⟩
theorem foldM_range (l : List Int) : ∀ h, 0 ≤ h → h < 2147483647 → 0 ≤ l.foldl stepM h ∧ l.foldl stepM h < 2147483647 := by
  induction l with
  | nil => intro h h0 h1; exact ⟨h0, h1⟩
  | cons x l ih => intro h h0 h1; have := stepM_range h x h0 h1; exact ih _ this.1 this.2
theorem hashM_range (l : List Int) : 0 ≤ hashM l ∧ hashM l < 2147483647 := foldM_range l 11 (by omega) (by omega)
theorem khashM_range (k : Int) (l : List Int) : 0 ≤ khashM k l ∧ khashM k l < 2147483647 := hashM_range _
/-- Two lists with the same elements at all places. -/
theorem ext_getD {α : Type} (d : α) : ∀ (l m : List α), l.length = m.length → (∀ n, n < l.length → l.getD n d = m.getD n d) → l = m := by
  intro l m h hh
  apply List.ext_getElem h
  intro n h1 h2
  have := hh n h1
  simpa [List.getD_eq_getElem?_getD, List.getElem?_eq_getElem h1, List.getElem?_eq_getElem h2] using this
theorem getD_mem {α : Type} (l : List α) (n : Nat) (d : α) (h : n < l.length) : l.getD n d ∈ l := by
  rw [List.getD_eq_getElem?_getD, List.getElem?_eq_getElem h]
  exact List.getElem_mem h
def plainOk (a : Int) (l : List Int) : Prop := (0 ≤ a ∧ a ≤ 3) ∧ l.length ≤ 14
instance (a : Int) (l : List Int) : Decidable (plainOk a l) := by unfold plainOk; infer_instance
def oneM (h : Int) : Int := if h = 0 then 1 else h
def childM (a b : Int) : Int := Int.tmod (wrap64 (wrap64 (khashM a [47, b] * khashM a [47, b]) + 5)) 2147483647
def coverM (a b c : Int) : Int := if 1 ≤ c ∧ c ≤ 64 then Int.tmod (childM (khashM a [157, b]) 0) c else -1
def pieceOk (a b : Int) (l : List Int) : Prop := (1 ≤ b ∧ b ≤ 16) ∧ (0 ≤ a ∧ a ≤ b - 1) ∧ (l.length : Int) = 12
instance (a b : Int) (l : List Int) : Decidable (pieceOk a b l) := by unfold pieceOk; infer_instance
/-- What a row of bytes holds behind a marking from x on; a row of numbers. -/
def markB : Int → Nat → List Int
  | _, 0 => []
  | x, n + 1 => x % 256 :: markB (x + 1) n
def markI : Int → Nat → List Int
  | _, 0 => []
  | x, n + 1 => x :: markI (x + 1) n
theorem markB_length : ∀ (n : Nat) (x : Int), (markB x n).length = n
  | 0, _ => rfl
  | n + 1, x => by simp [markB, markB_length n]
theorem markI_length : ∀ (n : Nat) (x : Int), (markI x n).length = n
  | 0, _ => rfl
  | n + 1, x => by simp [markI, markI_length n]
theorem markB_get : ∀ (n i : Nat) (x : Int), i < n → (markB x n).getD i 0 = (x + i) % 256
  | 0, i, _, h => absurd h (by omega)
  | n + 1, 0, x, _ => by simp [markB]
  | n + 1, i + 1, x, h => by
    have := markB_get n i (x + 1) (by omega)
    simp only [markB, List.getD_cons_succ]
    rw [this]
    congr 1
    omega
theorem markI_get : ∀ (n i : Nat) (x : Int), i < n → (markI x n).getD i 0 = x + i
  | 0, i, _, h => absurd h (by omega)
  | n + 1, 0, x, _ => by simp [markI]
  | n + 1, i + 1, x, h => by
    have := markI_get n i (x + 1) (by omega)
    simp only [markI, List.getD_cons_succ]
    rw [this]
    omega
end Go.Proofs.Ytcjgeekeohbnmaa.M
