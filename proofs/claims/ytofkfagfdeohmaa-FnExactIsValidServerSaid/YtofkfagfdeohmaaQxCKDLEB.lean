-- written by a program of this session (qprint.py) over the kit's print.py
import Derived.Test.YtofkfagfdeohmaaQx0
namespace Go.Proofs.Ytofkfagfdeohmaa.Q
open Go.RowKit Go.Proofs.YtofkfagfdeohmaaW.PrintWords Go.Proofs.YtofkfagfdeohmaaW.PrintLast Go.Proofs.YtofkfagfdeohmaaW.PrintMore Go.Proofs.YtofkfagfdeohmaaW.PrintWords Go.Proofs.YtofkfagfdeohmaaW.PrintWords.QPW
attribute [local go_sem] max2_int min2_int max_two min_two max_three min_three max_four min_four   -- for this text's walks alone
set_option linter.unusedVariables false
set_option linter.unusedSimpArgs false

/-! ### spec_IsValidDatabase: function 100 -/
def spec_IsValidDatabase.l0 : Nat → Int → List (List Int) → Option (Bool)
  | 0, _, _ => none
  | k + 1, x3, x102000 => if x3 < (x102000.length : Int) then (if 0 ≤ x3 then (if ((rd_L1 x102000 x3).length : Int) = 24 then (spec_IsValidDatabase.l0 k (wrap64 (x3 + 1)) x102000) else (some false)) else (none)) else (some (decide ((x102000.length : Int) ≤ 64)))
def spec_IsValidDatabase.f (k : Nat) (l0_0 : List (List Int)) : Option (Bool) := spec_IsValidDatabase.l0 k 0 l0_0
theorem spec_IsValidDatabase.mono_l : ∀ k, (∀ y0 y1, LeO (spec_IsValidDatabase.l0 k y0 y1) (spec_IsValidDatabase.l0 (k + 1) y0 y1))
  | 0 => fun _ _ r h => by simp [spec_IsValidDatabase.l0] at h
  | k + 1 => by
    have ih0 := spec_IsValidDatabase.mono_l k
    · intro y0 y1
      unfold spec_IsValidDatabase.l0
      repeat' first
      | (with_reducible exact ih0 _ _)
      | (with_reducible exact LeO.refl _)
      | (with_reducible exact LeO.none _)
      | (with_reducible refine LeO.ite ?_ ?_)
      | (with_reducible refine LeO.bind ?_ (fun _ => ?_))
      | exact ih0 _ _
      | exact LeO.none _
      | refine LeO.ite ?_ ?_
      | refine LeO.bind ?_ (fun _ => ?_)
theorem spec_IsValidDatabase.mono : ∀ a0 k, LeO (spec_IsValidDatabase.f k a0) (spec_IsValidDatabase.f (k + 1) a0) := by
  intro a0 k
  have ih0 := spec_IsValidDatabase.mono_l k
  unfold spec_IsValidDatabase.f
  repeat' first
      | (with_reducible exact ih0 _ _)
      | (with_reducible exact LeO.refl _)
      | (with_reducible exact LeO.none _)
      | (with_reducible refine LeO.ite ?_ ?_)
      | (with_reducible refine LeO.bind ?_ (fun _ => ?_))
      | exact ih0 _ _
      | exact LeO.none _
      | refine LeO.ite ?_ ?_
      | refine LeO.bind ?_ (fun _ => ?_)
set_option maxHeartbeats 8000000 in
set_option maxRecDepth 100000 in
theorem spec_IsValidDatabase.calls (k : Nat) (A0_0 : Option Addr) (c0_0 : Nat) (l0_0 : List (List Int)) (r : Bool) (w : World) (hr0_0 : Kd.C (Kd.slice 5 (Kd.int .u8)) w A0_0 l0_0.length l0_0) (hc0_0 : l0_0.length ≤ c0_0) (h : spec_IsValidDatabase.f k l0_0 = some r) :
    Calls Try.prog 100 #[.agg #[.slice A0_0 l0_0.length c0_0]] w fun e w' => e = .returned (.bool r) ∧ Below w.heap.size w w' := by
  have hu31 := Try.underlying31
  have HR0_0 := Xam hr0_0
  have HC0_0 := Xam hc0_0
  clear hr0_0 hc0_0
  have HB := Xam (Below.refl w.heap.size w)
  have H : (spec_IsValidDatabase.l0 k 0 l0_0) = some r := h
  clear h
  have H' := Xam H
  clear H
  go_enter Try.func100, Try.ntmps100
  go_wp2_with (first | ((with_reducible refine gate_dst (N := 1) rfl ?_); refine box_event ?hg (N := 1) ?hd (cs := #[.slice A0_0 l0_0.length c0_0]) (t := 31) ?hr ?_; (case hd => rfl); (case hg => rfl); (case hr => first | (go_simp; done) | (go_simp; rfl)); intro gb101 hg w2 hbox hb; have n0_ := Xam (Xbt (by repeat (first | (with_reducible first | exact HB.out | apply Xba | apply Xbn | apply Xbd) | exact HB.out)) hb); have n1_ := Xam (hbox); have n2_ := Xam ((by rw [hg]; exact (Xbs (by repeat (first | (with_reducible first | exact HB.out | apply Xba | apply Xbn | apply Xbd) | exact HB.out))) : w.heap.size ≤ gb101)); have n3_ := Xam ((by rw [hg]; exact (Xbs (by repeat (first | (with_reducible first | exact HB.out | apply Xba | apply Xbn | apply Xbd) | exact HB.out))) : w.heap.size ≤ gb101)); clear HB; have HB := n0_; have BK101 := n1_; have GW101 := n2_; have GE101 := n3_; clear n0_ n1_ n2_ n3_; clear hb hbox hg))
  go_loopg [3] k (fun kq v3 w' => ∃ (x3_1 : Int), v3 = .int .i64 x3_1 ∧ Aside0 (spec_IsValidDatabase.l0 kq x3_1 l0_0 = some r) ∧ Aside0 (kq ≤ k) ∧ Aside0 (w'.heap[gb101]? = some (.cells #[(.slice A0_0 l0_0.length c0_0)] 31 (0, 0))) ∧ Aside0 (Below w.heap.size w w'))
  case atStart => exact ⟨(0), (by first | rfl | (simp; done) | (simp [*]; done)), H', ⟨Nat.le_refl _⟩, ⟨by (with_reducible repeat (first | refine Xkn ?_ _ | refine Xkd ?_ | refine Xka ?_ _)); exact BK101.out⟩, ⟨by repeat (first | (with_reducible first | exact HB.out | apply Xba | apply Xbn | apply Xbd | refine Xbe ?_ GE101.out) | exact HB.out)⟩⟩
  case round =>
    clear H'
    try clear c1
    try clear p2
    obtain ⟨x3_1, rfl, HA, HK1, BK101, HB⟩ := hrel
    cases gk with
    | zero => exact absurd HA.out (by simp [spec_IsValidDatabase.l0])
    | succ k1 =>
      have H := HA.out
      clear HA
      simp only [spec_IsValidDatabase.l0] at H
      by_cases c3 : x3_1 < (l0_0.length : Int)
      · rw [if_pos c3] at H
        have c3b0 : decide (x3_1 < (l0_0.length : Int)) = true := decide_eq_true c3
        clear c3
        by_cases c4 : 0 ≤ x3_1
        · rw [if_pos c4] at H
          have c4b0 : decide (0 ≤ x3_1) = true := decide_eq_true c4
          clear c4
          by_cases c5 : ((rd_L1 l0_0 x3_1).length : Int) = 24
          · rw [if_pos c5] at H
            have c5b0 : (((rd_L1 l0_0 x3_1).length : Int) == 24) = true := beq_iff_eq.mpr c5
            have c5b1 : (((rd_L1 l0_0 x3_1).length : Int) != 24) = false := bne_eq_false_iff_eq.mpr c5
            clear c5
            have H' := Xam H
            clear H
            have hcz6_0 : wr.cell? ⟨gb101, 0, none⟩ = some (.slice A0_0 l0_0.length c0_0) := (Xbc BK101.out 0).trans rfl
            have hfz6_0 := Xbf BK101.out 0
            have p102 : 0 ≤ (x3_1 : Int) := of_decide_eq_true (by first | (with_reducible assumption) | assumption)
            have q102 : x3_1 < (l0_0.length : Int) := of_decide_eq_true (by first | (with_reducible assumption) | assumption)
            obtain ⟨ad102, A102_0, c102_0, e102, hx102_0, hl102_0, hi102_0⟩ := at_L1 HR0_0.out x3_1 p102 q102
            cases e102
            replace hx102_0 := (HB.out.cell (World.block_lt_of_cell? w _ hx102_0)).trans hx102_0
            have HR102_0 := Xam hi102_0
            have HC102_0 := Xam hl102_0
            clear hi102_0 hl102_0
            replace p102 := eq_true p102
            replace q102 := eq_true q102
            go_wp2
            go_roundg k1
            case measure => have := HK1.out; omega
            case rel => exact ⟨(wrap64 (x3_1 + 1)), (by first | rfl | (simp; done) | (simp [*]; done)), H', ⟨by have := HK1.out; omega⟩, ⟨by (with_reducible repeat (first | refine Xkn ?_ _ | refine Xkd ?_ | refine Xka ?_ _)); exact BK101.out⟩, ⟨by repeat (first | (with_reducible first | exact HB.out | apply Xba | apply Xbn | apply Xbd | refine Xbe ?_ GE101.out) | exact HB.out)⟩⟩
          · rw [if_neg c5] at H
            have c5b0 : (((rd_L1 l0_0 x3_1).length : Int) == 24) = false := beq_eq_false_iff_ne.mpr c5
            have c5b1 : (((rd_L1 l0_0 x3_1).length : Int) != 24) = true := bne_iff_ne.mpr c5
            obtain rfl := Option.some.inj H
            have hcz7_0 : wr.cell? ⟨gb101, 0, none⟩ = some (.slice A0_0 l0_0.length c0_0) := (Xbc BK101.out 0).trans rfl
            have hfz7_0 := Xbf BK101.out 0
            have p102 : 0 ≤ (x3_1 : Int) := of_decide_eq_true (by first | (with_reducible assumption) | assumption)
            have q102 : x3_1 < (l0_0.length : Int) := of_decide_eq_true (by first | (with_reducible assumption) | assumption)
            obtain ⟨ad102, A102_0, c102_0, e102, hx102_0, hl102_0, hi102_0⟩ := at_L1 HR0_0.out x3_1 p102 q102
            cases e102
            replace hx102_0 := (HB.out.cell (World.block_lt_of_cell? w _ hx102_0)).trans hx102_0
            have HR102_0 := Xam hi102_0
            have HC102_0 := Xam hl102_0
            clear hi102_0 hl102_0
            replace p102 := eq_true p102
            replace q102 := eq_true q102
            go_wp2
            go_ret
            exact ⟨by first | rfl | (simp [errW_none, errW_some] <;> rfl) | (simp [*, errW_none, errW_some] <;> rfl), by repeat (first | (with_reducible first | exact HB.out | apply Xba | apply Xbn | apply Xbd | refine Xbe ?_ GE101.out) | exact HB.out)⟩
        · rw [if_neg c4] at H
          exact absurd H (by simp)
      · rw [if_neg c3] at H
        have c3b0 : decide (x3_1 < (l0_0.length : Int)) = false := decide_eq_false c3
        clear c3
        obtain rfl := Option.some.inj H
        have hcz8_0 : wr.cell? ⟨gb101, 0, none⟩ = some (.slice A0_0 l0_0.length c0_0) := (Xbc BK101.out 0).trans rfl
        have hfz8_0 := Xbf BK101.out 0
        go_wp2
        go_ret
        exact ⟨by first | rfl | (simp [errW_none, errW_some] <;> rfl) | (simp [*, errW_none, errW_some] <;> rfl), by repeat (first | (with_reducible first | exact HB.out | apply Xba | apply Xbn | apply Xbd | refine Xbe ?_ GE101.out) | exact HB.out)⟩

end Go.Proofs.Ytofkfagfdeohmaa.Q
