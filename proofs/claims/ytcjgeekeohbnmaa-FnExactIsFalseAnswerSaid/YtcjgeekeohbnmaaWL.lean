-- Words of this session's own: events of functions told in one line; rows told by where they were made.
import Derived.Test.YtcjgeekeohbnmaaWQ
namespace Go.Proofs.YtcjgeekeohbnmaaW.PrintWords.QPW
open Go.RowKit Go.Proofs.YtcjgeekeohbnmaaW.PrintWords Go.Proofs.YtcjgeekeohbnmaaW.PrintLast
/-- The blocks from a up to b. -/
def iv (a b : Nat) : Nat → Prop := fun k => a ≤ k ∧ k < b
section
variable {P : Program} {ops : Array Oper} {rest : List Oper} {o : Oper} {a : Act} {Q : Exit → Act → World → Prop}
/-- A whole variable in memory is stored into. -/
theorem st_event {W w0 : World} {base : Nat} {u : Value} (hN : o.dst = none) (hgd : o.guard = none) {t : TypeId} {p : Tmp} {x : Operand} (ho : o.op = .store t (.tmp p) x) {g ty : Nat} {cur : Array Value} (seg : List Value)
    (hp : a.eval (.tmp p) = .pointer (some ⟨g, 0, none⟩)) (hx : a.eval x = u) (hu : u.cells.toList = seg) (ht : (P.info? t).map (·.size) = some seg.length) (h1 : ∀ q ∈ seg, q.oneCell' = true)
    (hb : W.heap[g]? = some (.cells cur ty (0, 0))) (hl : cur.size = seg.length) (HB : Below base w0 W) (hg : base ≤ g)
    (h : ∀ w1, w1.heap[g]? = some (.cells seg.toArray ty (0, 0)) → Below base w0 w1 → Kept W w1 (fun k => k = g) → wpList P ops Q rest a w1) : wpList P ops Q (o :: rest) a W := by
  obtain ⟨cur', h3, h4, h5⟩ := setCells_row seg 0 W cur hb (by omega)
  obtain ⟨s1, s2, s3, s4⟩ := setCells_same g seg 0 W
  have hc : cur' = seg.toArray := by
    apply Array.ext'
    rw [h5, List.take_zero, List.nil_append, Nat.zero_add, List.drop_eq_nil_of_le (by simp only [Array.length_toList]; omega), List.append_nil]
  subst hc
  have hrun := run_store_run (P := P) (o := 0) t u seg hb hu ht (by omega) h1
  refine wpList_plain hgd fun K hK => ?_
  unfold Oper.wp execOp
  simp only [ho, hp, hx, Sem.run_bind, Sem.run_pure, Result.andThen_ok, hrun]
  show K (a.put o.dst undef) _
  rw [hN]
  exact hK a _ (h _ h3 (HB.trans ⟨s1, s2, s3, by rw [s4]; exact Nat.le_refl _, fun k hk => setCells_far seg 0 k (by omega)⟩) ⟨by rw [s4]; exact Nat.le_refl _, fun k _ hk => setCells_far seg 0 k hk⟩)
end
theorem box_iv {W w1 : World} {g : Nat} {o : Obj} (hg : g = W.heap.size) (hb : w1.heap[g]? = some o) : W.heap.size ≤ g ∧ g < w1.heap.size := ⟨by omega, blk_lt hb⟩
theorem drawn_below {w w' : World} (h : Drawn0 w w') : Below w.heap.size w w' := by
  obtain ⟨⟨n, rfl⟩⟩ := h
  exact pw_below_drewN (Below.refl _ _) n
theorem getD_set_self {α : Type} (l : List α) (n : Nat) (x z : α) (h : n < l.length) : (l.set n x).getD n z = x := by
  rw [List.getD_eq_getElem?_getD, List.getElem?_set_self (by simpa using h)]
  rfl
namespace Kd
open Go.Proofs.YtcjgeekeohbnmaaW.PrintWords.Kd
section
variable {α : Type} {d : Kd α} {e base a b : Nat} {S ok : Nat → Prop} {W W2 : World} {v : Value} {xs : List α}
theorem R_iv (h : d.R e W2 W.heap.size ok v xs) (hle : base ≤ W.heap.size) : d.R e W2 base (iv W.heap.size W2.heap.size) v xs := R_mono (R_lower (R_bound h) hle) (fun _ h => ⟨h.2.1, h.2.2.1⟩)
theorem S_iv (h : Kd.S d e W2 W.heap.size ok v xs) (hle : base ≤ W.heap.size) : Kd.S d e W2 base (iv W.heap.size W2.heap.size) v xs := S_mono (S_lower (S_bound h) hle) (fun _ h => ⟨h.2.1, h.2.2.1⟩)
theorem N_iv (h : Kd.N d e W2 W.heap.size (fun k => W.heap.size ≤ k) v xs) (hle : base ≤ W.heap.size) : Kd.N d e W2 base (iv W.heap.size W2.heap.size) v xs := N_mono (N_lower (N_bound h) hle) (fun _ h => ⟨h.1, h.2⟩)
theorem R_kv (h : d.R e W base (iv a b) v xs) (hk : Kept W W2 S) (hd : ∀ k, a ≤ k → k < b → ¬ S k) : d.R e W2 base (iv a b) v xs := R_kept h hk (fun k h => hd k h.1 h.2)
theorem S_kv (h : Kd.S d e W base (iv a b) v xs) (hk : Kept W W2 S) (hd : ∀ k, a ≤ k → k < b → ¬ S k) : Kd.S d e W2 base (iv a b) v xs := S_kept h hk (fun k h => hd k h.1 h.2)
theorem N_kv (h : Kd.N d e W base (iv a b) v xs) (hk : Kept W W2 S) (hd : ∀ k, a ≤ k → k < b → ¬ S k) : Kd.N d e W2 base (iv a b) v xs := N_kept h hk (fun k h => hd k h.1 h.2)
end
end Kd
end Go.Proofs.YtcjgeekeohbnmaaW.PrintWords.QPW
