-- written by a program of this session (qprint.py) over the kit's print.py
import Derived.Test.YtgdfnoipcompkaaQx0
import Derived.Test.YtgdfnoipcompkaaQxBHGPPO
import Derived.Test.YtgdfnoipcompkaaQxELDMCG
import Derived.Test.YtgdfnoipcompkaaQxGPOPPP
import Derived.Test.YtgdfnoipcompkaaQxJFFOEC
namespace Go.Proofs.Ytgdfnoipcompkaa.Q
open Go.RowKit Go.Proofs.YtgdfnoipcompkaaW.PrintWords Go.Proofs.YtgdfnoipcompkaaW.PrintLast Go.Proofs.YtgdfnoipcompkaaW.PrintMore Go.Proofs.YtgdfnoipcompkaaW.PrintWords Go.Proofs.YtgdfnoipcompkaaW.PrintWords.QPW
attribute [local go_sem] max2_int min2_int max_two min_two max_three min_three max_four min_four   -- for this text's walks alone
set_option linter.unusedVariables false
set_option linter.unusedSimpArgs false

/-! ### impl_AnswersToCell: function 36 -/
def impl_AnswersToCell.l0 : Nat → List (List Int) → List (S155) → Int → Int → Option (List Int × Bool)
  | 0, _, _, _, _ => none
  | k + 1, x4, x8, x9, x10 => if x10 < x9 then (if 0 ≤ x10 then (if x10 < (x8.length : Int) then (if x4.length < 5864062014805 then (impl_AnswersToCell.l0 k (x4 ++ [(rd_T155 x8 x10).f3]) x8 x9 (wrap64 (x10 + 1))) else (none)) else (none)) else (none)) else ((impl_CombineAnswers.f k x4).bind fun bt109 => (some (bt109.1, bt109.2)))
def impl_AnswersToCell.f (k : Nat) (l0 : List (S155)) : Option (List Int × Bool) := impl_AnswersToCell.l0 k (([] : List (List Int))) l0 (l0.length : Int) 0
theorem impl_AnswersToCell.mono_l : ∀ k, (∀ y0 y1 y2 y3, LeO (impl_AnswersToCell.l0 k y0 y1 y2 y3) (impl_AnswersToCell.l0 (k + 1) y0 y1 y2 y3))
  | 0 => fun _ _ _ _ r h => by simp [impl_AnswersToCell.l0] at h
  | k + 1 => by
    have ih0 := impl_AnswersToCell.mono_l k
    · intro y0 y1 y2 y3
      unfold impl_AnswersToCell.l0
      repeat' first
      | (with_reducible exact ih0 _ _ _ _)
      | (with_reducible exact impl_CombineAnswers.mono _ _)
      | (with_reducible exact LeO.refl _)
      | (with_reducible exact LeO.none _)
      | (with_reducible refine LeO.ite ?_ ?_)
      | (with_reducible refine LeO.bind ?_ (fun _ => ?_))
      | exact ih0 _ _ _ _
      | exact impl_CombineAnswers.mono _ _
      | exact LeO.none _
      | refine LeO.ite ?_ ?_
      | refine LeO.bind ?_ (fun _ => ?_)
theorem impl_AnswersToCell.mono : ∀ a0 k, LeO (impl_AnswersToCell.f k a0) (impl_AnswersToCell.f (k + 1) a0) := by
  intro a0 k
  have ih0 := impl_AnswersToCell.mono_l k
  unfold impl_AnswersToCell.f
  repeat' first
      | (with_reducible exact ih0 _ _ _ _)
      | (with_reducible exact impl_CombineAnswers.mono _ _)
      | (with_reducible exact LeO.refl _)
      | (with_reducible exact LeO.none _)
      | (with_reducible refine LeO.ite ?_ ?_)
      | (with_reducible refine LeO.bind ?_ (fun _ => ?_))
      | exact ih0 _ _ _ _
      | exact impl_CombineAnswers.mono _ _
      | exact LeO.none _
      | refine LeO.ite ?_ ?_
      | refine LeO.bind ?_ (fun _ => ?_)
set_option maxHeartbeats 8000000 in
set_option maxRecDepth 100000 in
theorem impl_AnswersToCell.calls (k : Nat) (P0_ : Nat → Prop) (A0 : Option Addr) (c0 : Nat) (l0 : List (S155)) (r1 : List Int) (r2 : Bool) (w : World) (hs0 : Kd.V k155 155 w w.heap.size (fun k_ => P0_ k_) (.slice A0 l0.length c0) l0) (h : impl_AnswersToCell.f k l0 = some (r1, r2)) :
    Calls Try.prog 36 #[.slice A0 l0.length c0] w fun e w' => ∃ v0_ : Value, e = .returned (.tuple #[v0_, .bool r2]) ∧ Kd.R (Kd.int .u8) 5 w' w.heap.size (fun k_ => (w.heap.size ≤ k_)) v0_ r1 ∧ Below w.heap.size w w' := by
  have hu155 := Try.underlying155
  have HO0 := Xam (show Kd.V k155 155 w w.heap.size (fun k_ => (P0_ k_ ∨ w.heap.size ≤ k_)) (.slice A0 l0.length c0) l0 from Kd.V_mono hs0 (fun k_ hk => .inl hk))
  have HB := Xam (Below.refl w.heap.size w)
  have H : (impl_AnswersToCell.l0 k (([] : List (List Int))) l0 (l0.length : Int) 0) = some (r1, r2) := h
  clear h
  obtain ⟨y101, hy101⟩ : ∃ y_ : List (List Int), y_ = (([] : List (List Int))) := ⟨_, rfl⟩
  replace H : (impl_AnswersToCell.l0 k y101 l0 (l0.length : Int) 0) = some (r1, r2) := by first | (rw [hy101]; with_reducible exact H) | (have H2_ := (Option.bind_some _ _).symm.trans H; rw [hy101]; with_reducible exact H2_) | (have H2_ := (Option.bind_some _ _).symm.trans H; with_reducible exact H2_) | with_reducible exact H | (rw [hy101]; exact H) | exact H
  have Ny101 := Xam hy101
  clear hy101
  have H' := Xam H
  clear H
  go_enter Try.func36, Try.ntmps36
  go_wp2_with (first | ((with_reducible refine gate_dst (N := 7) rfl ?_); refine Kd.N_lit (Kd.slice 5 (Kd.int .u8)) _ 25 ?hg (N' := 7) ?hd (xs := ([] : List (List Int))) (inner := []) (ok := (fun k_ => (P0_ k_ ∨ w.heap.size ≤ k_))) (okp := (fun k_ => (P0_ k_ ∨ w.heap.size ≤ k_))) ?hr ?hp (fun _ hk => hk) ((show ∀ k_, w.heap.size ≤ k_ → (fun k_ => (P0_ k_ ∨ w.heap.size ≤ k_)) k_ from fun k_ hk => (.inr (Nat.le_trans (Xbs (by repeat (first | (with_reducible first | exact HB.out | apply Xba | apply Xbn | apply Xbd) | exact HB.out))) hk))) _ (Nat.le_refl _)) (Below.refl _ _) (Nat.le_refl _) (by simp) ?_; (case hd => rfl); (case hg => rfl); (case hr => first | (go_simp; done) | (go_simp; rfl)); (case hp => exact (Reps.none _ _)); intro v102 w2 ho3 hb hg_ hnew_; clear hg_ hnew_; (first | rw [← Ny101.out] at ho3 | (simp only [Int.reduceToNat] at ho3; rw [← Ny101.out] at ho3)); have n0_ := Xam (Kd.V_elder' (by (with_reducible repeat (first | apply Kd.V_alloc | apply Kd.V_drewN | apply Kd.V_drew)); exact HO0.out) (Kd.N_base ho3) hb); have n1_ := Xam (Kd.N_lower ho3 (Xbs (by repeat (first | (with_reducible first | exact HB.out | apply Xba | apply Xbn | apply Xbd) | exact HB.out)))); have n2_ := Xam (Xbt (by repeat (first | (with_reducible first | exact HB.out | apply Xba | apply Xbn | apply Xbd) | exact HB.out)) hb); clear HO0; clear HB; have HO0 := n0_; have HO103 := n1_; have HB := n2_; clear n0_ n1_ n2_; clear hb ho3))
  go_loopg [4, 10] k (fun kq v4 v10 w' => ∃ (x4_1 : List (List Int)) (x10_1 : Int), v10 = .int .i64 x10_1 ∧ Aside0 (impl_AnswersToCell.l0 kq x4_1 l0 (l0.length : Int) x10_1 = some (r1, r2)) ∧ Aside0 (kq ≤ k) ∧ Aside0 (Kd.N (Kd.slice 5 (Kd.int .u8)) 25 w' w.heap.size (fun k_ => (P0_ k_ ∨ w.heap.size ≤ k_)) v4 x4_1) ∧ Aside0 (Kd.V k155 155 w' w.heap.size (fun k_ => (P0_ k_ ∨ w.heap.size ≤ k_) ∧ some k_ ≠ (v4 : Value).ownBlock) (.slice A0 l0.length c0) l0) ∧ Aside0 (Below w.heap.size w w'))
  case atStart => exact ⟨(y101), (0), (by first | rfl | (simp; done) | (simp [*]; done)), H', ⟨Nat.le_refl _⟩, ⟨by (with_reducible repeat (first | apply Kd.N_alloc | apply Kd.N_drewN | apply Kd.N_drew)); exact HO103.out⟩, ⟨by (with_reducible repeat (first | apply Kd.V_alloc | apply Kd.V_drewN | apply Kd.V_drew)); exact HO0.out⟩, ⟨by repeat (first | (with_reducible first | exact HB.out | apply Xba | apply Xbn | apply Xbd) | exact HB.out)⟩⟩
  case round =>
    clear H'
    try clear p2
    try clear c3
    obtain ⟨x4_1, x10_1, rfl, HA, HK1, HO_4, HO_8, HB⟩ := hrel
    cases gk with
    | zero => exact absurd HA.out (by simp [impl_AnswersToCell.l0])
    | succ k1 =>
      have H := HA.out
      clear HA
      simp only [impl_AnswersToCell.l0] at H
      by_cases c4 : x10_1 < (l0.length : Int)
      · rw [if_pos c4] at H
        have c4b0 : decide (x10_1 < (l0.length : Int)) = true := decide_eq_true c4
        clear c4
        by_cases c5 : 0 ≤ x10_1
        · rw [if_pos c5] at H
          have c5b0 : decide (0 ≤ x10_1) = true := decide_eq_true c5
          clear c5
          by_cases c6 : x10_1 < (l0.length : Int)
          · rw [if_pos c6] at H
            have c6b0 : decide (x10_1 < (l0.length : Int)) = true := decide_eq_true c6
            clear c6
            by_cases c7 : x4_1.length < 5864062014805
            · rw [if_pos c7] at H
              have LMc7 := Xam c7
              clear c7
              obtain ⟨y106, hy106⟩ : ∃ y_ : List (List Int), y_ = (x4_1 ++ [(rd_T155 l0 x10_1).f3]) := ⟨_, rfl⟩
              replace H : (impl_AnswersToCell.l0 k1 y106 l0 (l0.length : Int) (wrap64 (x10_1 + 1))) = some (r1, r2) := by first | (rw [hy106]; with_reducible exact H) | (have H2_ := (Option.bind_some _ _).symm.trans H; rw [hy106]; with_reducible exact H2_) | (have H2_ := (Option.bind_some _ _).symm.trans H; with_reducible exact H2_) | with_reducible exact H | (rw [hy106]; exact H) | exact H
              have Ny106 := Xam hy106
              clear hy106
              have H' := Xam H
              clear H
              have p104 : 0 ≤ (x10_1 : Int) := of_decide_eq_true (by first | (with_reducible assumption) | assumption)
              have q104 : x10_1 < (l0.length : Int) := of_decide_eq_true (by first | (with_reducible assumption) | assumption)
              obtain ⟨ad104, A104_2, c104_2, A104_3, c104_3, e104, hx104_0, hx104_1, hx104_2, hx104_3, hx104_4, hl104_2, hi104_2, hl104_3, hi104_3⟩ := at_T155 (Kd.V_reads' HO_8.out).2.2 x10_1 p104 q104
              cases e104
              obtain ⟨ce104, hce104, hMe104, hcc104⟩ := Kd.V_get HO_8.out z155 x10_1 p104 (by first | exact q104 | exact of_decide_eq_true (by first | (with_reducible assumption) | assumption) | (have e_ := (Kd.V_reads' HO_8.out).1; omega))
              obtain ⟨ua104_2, uc104_2, ua104_3, uc104_3, rfl, ul104_2, ge104_2, ul104_3, ge104_3⟩ := k155_openF hMe104
              have hv104_2 := hcc104 2 _ rfl
              rw [add_field _ _ 2 (by omega)] at hv104_2
              replace hv104_2 := Option.some.inj (hv104_2.symm.trans hx104_2)
              injection hv104_2 with hva_ hvn_ hvc_
              rw [hva_] at ge104_2
              rw [hvc_] at ul104_2
              have HL104_2 := Xam (show Kd.V (Kd.int .i64) 3 _ w.heap.size _ _ ((rd_T155 l0 x10_1).f2) from Kd.V_mk ul104_2 ge104_2)
              clear hva_ hvn_ hvc_ ge104_2 ul104_2
              have hv104_3 := hcc104 3 _ rfl
              rw [add_field _ _ 3 (by omega)] at hv104_3
              replace hv104_3 := Option.some.inj (hv104_3.symm.trans hx104_3)
              injection hv104_3 with hva_ hvn_ hvc_
              rw [hva_] at ge104_3
              rw [hvc_] at ul104_3
              have HL104_3 := Xam (show Kd.V (Kd.int .u8) 5 _ w.heap.size _ _ ((rd_T155 l0 x10_1).f3) from Kd.V_mk ul104_3 ge104_3)
              clear hva_ hvn_ hvc_ ge104_3 ul104_3
              clear hcc104 hce104
              have HR104_2 := Xam hi104_2
              have HC104_2 := Xam hl104_2
              clear hi104_2 hl104_2
              have HR104_3 := Xam hi104_3
              have HC104_3 := Xam hl104_3
              clear hi104_3 hl104_3
              replace p104 := eq_true p104
              replace q104 := eq_true q104
              go_wp2_with (first | ((with_reducible refine gate_dst (N := 6) rfl ?_); refine box_event ?hg (N := 6) ?hd (cs := #[.int .i64 0, .int .i64 0, .slice none 0 0, .slice none 0 0, .int .i64 0]) (t := 155) ?hr ?_; (case hd => rfl); (case hg => rfl); (case hr => first | (go_simp; done) | (go_simp; rfl)); intro gb105 hg w8 hbox hb; have n0_ := Xam (Kd.N_below (Kd.N_elderB (by (with_reducible repeat (first | apply Kd.N_alloc | apply Kd.N_drewN | apply Kd.N_drew)); exact HO_4.out) gb105 (Nat.le_of_eq hg.symm)) hb); have n1_ := Xam (Kd.V_below (Kd.V_elderB (by (with_reducible repeat (first | apply Kd.V_alloc | apply Kd.V_drewN | apply Kd.V_drew)); exact HO_8.out) gb105 (Nat.le_of_eq hg.symm)) hb); have n2_ := Xam (Kd.V_below (Kd.V_elderB (by (with_reducible repeat (first | apply Kd.V_alloc | apply Kd.V_drewN | apply Kd.V_drew)); exact HL104_2.out) gb105 (Nat.le_of_eq hg.symm)) hb); have n3_ := Xam (Kd.V_below (Kd.V_elderB (by (with_reducible repeat (first | apply Kd.V_alloc | apply Kd.V_drewN | apply Kd.V_drew)); exact HL104_3.out) gb105 (Nat.le_of_eq hg.symm)) hb); have n4_ := Xam (Kd.C_below (by repeat (first | (with_reducible exact HR104_2.out) | (with_reducible refine Xca ?_ _) | (with_reducible refine Xcn ?_ _) | (with_reducible refine Xcd ?_) | exact HR104_2.out)) hb); have n5_ := Xam (Kd.C_below (by repeat (first | (with_reducible exact HR104_3.out) | (with_reducible refine Xca ?_ _) | (with_reducible refine Xcn ?_ _) | (with_reducible refine Xcd ?_) | exact HR104_3.out)) hb); have n6_ := Xam (Xbt (by repeat (first | (with_reducible first | exact HB.out | apply Xba | apply Xbn | apply Xbd) | exact HB.out)) hb); have n7_ := Xam (hbox); have n8_ := Xam ((by rw [hg]; exact (Xbs (by repeat (first | (with_reducible first | exact HB.out | apply Xba | apply Xbn | apply Xbd) | exact HB.out))) : w.heap.size ≤ gb105)); have n9_ := Xam ((by rw [hg]; exact (Xbs (by repeat (first | (with_reducible first | exact HB.out | apply Xba | apply Xbn | apply Xbd) | exact HB.out))) : w.heap.size ≤ gb105)); clear HO_4; clear HO_8; clear HL104_2; clear HL104_3; clear HR104_2; clear HR104_3; clear HB; have HO_4 := n0_; have HO_8 := n1_; have HL104_2 := n2_; have HL104_3 := n3_; have HR104_2 := n4_; have HR104_3 := n5_; have HB := n6_; have BK105 := n7_; have GW105 := n8_; have GE105 := n9_; clear n0_ n1_ n2_ n3_ n4_ n5_ n6_ n7_ n8_ n9_; clear hb hbox hg; have hcz9_0 : w8.cell? ⟨gb105, 0, none⟩ = some (.int .i64 0) := (Xbc BK105.out 0).trans rfl; have hcz9_1 : w8.cell? ⟨gb105, 1, none⟩ = some (.int .i64 0) := (Xbc BK105.out 1).trans rfl; have hcz9_2 : w8.cell? ⟨gb105, 2, none⟩ = some (.slice none 0 0) := (Xbc BK105.out 2).trans rfl; have hcz9_3 : w8.cell? ⟨gb105, 3, none⟩ = some (.slice none 0 0) := (Xbc BK105.out 3).trans rfl; have hcz9_4 : w8.cell? ⟨gb105, 4, none⟩ = some (.int .i64 0) := (Xbc BK105.out 4).trans rfl; have hfz9_0 := Xbf BK105.out 0; have hfz9_1 := Xbf BK105.out 1; have hfz9_2 := Xbf BK105.out 2; have hfz9_3 := Xbf BK105.out 3; have hfz9_4 := Xbf BK105.out 4) | ((with_reducible refine gate_store (t := 155) (p := 6) rfl ?_); refine store_event (t := 155) (p := 6) (v := ?vo_w10) (w1 := (((((w8.setCell ⟨gb105, 0, none⟩ (.int .i64 ((rd_T155 l0 x10_1).f0))).setCell ⟨gb105, 1, none⟩ (.int .i64 ((rd_T155 l0 x10_1).f1))).setCell ⟨gb105, 2, none⟩ (.slice A104_2 ((rd_T155 l0 x10_1).f2).length c104_2)).setCell ⟨gb105, 3, none⟩ (.slice A104_3 ((rd_T155 l0 x10_1).f3).length c104_3)).setCell ⟨gb105, 4, none⟩ (.int .i64 ((rd_T155 l0 x10_1).f4)))) ?hg ?ho ?hn ?hr ?_; (case ho => rfl); (case hg => rfl); (case hn => rfl); (case hr => first | (go_simp; done) | (go_simp; rfl)); intro w10 hw; have n0_ : Aside0 (Kd.N (Kd.slice 5 (Kd.int .u8)) 25 w10 w.heap.size (fun k_ => (P0_ k_ ∨ w.heap.size ≤ k_) ∧ k_ ≠ gb105) u4 x4_1) := ⟨(by rw [hw]; exact (by (with_reducible repeat (first | apply Kd.N_alloc | apply Kd.N_drewN | apply Kd.N_drew)); exact Kd.N_mono (Kd.N_far (p := ⟨gb105, 4, none⟩) (Kd.N_far (p := ⟨gb105, 3, none⟩) (Kd.N_far (p := ⟨gb105, 2, none⟩) (Kd.N_far (p := ⟨gb105, 1, none⟩) (Kd.N_far (p := ⟨gb105, 0, none⟩) (Kd.N_mono HO_4.out (fun k_ hk => (⟨hk, hk.2⟩ : _ ∧ k_ ≠ gb105))) (fun _ hk => hk.2) (.int .i64 ((rd_T155 l0 x10_1).f0))) (fun _ hk => hk.2) (.int .i64 ((rd_T155 l0 x10_1).f1))) (fun _ hk => hk.2) (.slice A104_2 ((rd_T155 l0 x10_1).f2).length c104_2)) (fun _ hk => hk.2) (.slice A104_3 ((rd_T155 l0 x10_1).f3).length c104_3)) (fun _ hk => hk.2) (.int .i64 ((rd_T155 l0 x10_1).f4))) (fun _ hk => ⟨hk.1.1, hk.1.2⟩)))⟩; have n1_ : Aside0 (Kd.V k155 155 w10 w.heap.size (fun k_ => (P0_ k_ ∨ w.heap.size ≤ k_) ∧ some k_ ≠ (u4 : Value).ownBlock ∧ k_ ≠ gb105) (.slice (some ad104) l0.length c0) l0) := ⟨(by rw [hw]; exact (by (with_reducible repeat (first | apply Kd.V_alloc | apply Kd.V_drewN | apply Kd.V_drew)); exact Kd.V_mono (Kd.V_far (p := ⟨gb105, 4, none⟩) (Kd.V_far (p := ⟨gb105, 3, none⟩) (Kd.V_far (p := ⟨gb105, 2, none⟩) (Kd.V_far (p := ⟨gb105, 1, none⟩) (Kd.V_far (p := ⟨gb105, 0, none⟩) (Kd.V_mono HO_8.out (fun k_ hk => (⟨hk, hk.2⟩ : _ ∧ k_ ≠ gb105))) (fun _ hk => hk.2) (.int .i64 ((rd_T155 l0 x10_1).f0))) (fun _ hk => hk.2) (.int .i64 ((rd_T155 l0 x10_1).f1))) (fun _ hk => hk.2) (.slice A104_2 ((rd_T155 l0 x10_1).f2).length c104_2)) (fun _ hk => hk.2) (.slice A104_3 ((rd_T155 l0 x10_1).f3).length c104_3)) (fun _ hk => hk.2) (.int .i64 ((rd_T155 l0 x10_1).f4))) (fun _ hk => ⟨hk.1.1.1, ⟨hk.1.1.2, hk.1.2⟩⟩)))⟩; have n2_ : Aside0 (Kd.V (Kd.int .i64) 3 w10 w.heap.size (fun k_ => (P0_ k_ ∨ w.heap.size ≤ k_) ∧ some k_ ≠ (u4 : Value).ownBlock ∧ k_ ≠ gb105) (.slice A104_2 ((rd_T155 l0 x10_1).f2).length c104_2) ((rd_T155 l0 x10_1).f2)) := ⟨(by rw [hw]; exact (by (with_reducible repeat (first | apply Kd.V_alloc | apply Kd.V_drewN | apply Kd.V_drew)); exact Kd.V_mono (Kd.V_far (p := ⟨gb105, 4, none⟩) (Kd.V_far (p := ⟨gb105, 3, none⟩) (Kd.V_far (p := ⟨gb105, 2, none⟩) (Kd.V_far (p := ⟨gb105, 1, none⟩) (Kd.V_far (p := ⟨gb105, 0, none⟩) (Kd.V_mono HL104_2.out (fun k_ hk => (⟨hk, hk.2⟩ : _ ∧ k_ ≠ gb105))) (fun _ hk => hk.2) (.int .i64 ((rd_T155 l0 x10_1).f0))) (fun _ hk => hk.2) (.int .i64 ((rd_T155 l0 x10_1).f1))) (fun _ hk => hk.2) (.slice A104_2 ((rd_T155 l0 x10_1).f2).length c104_2)) (fun _ hk => hk.2) (.slice A104_3 ((rd_T155 l0 x10_1).f3).length c104_3)) (fun _ hk => hk.2) (.int .i64 ((rd_T155 l0 x10_1).f4))) (fun _ hk => ⟨hk.1.1.1, ⟨hk.1.1.2, hk.1.2⟩⟩)))⟩; have n3_ : Aside0 (Kd.V (Kd.int .u8) 5 w10 w.heap.size (fun k_ => (P0_ k_ ∨ w.heap.size ≤ k_) ∧ some k_ ≠ (u4 : Value).ownBlock ∧ k_ ≠ gb105) (.slice A104_3 ((rd_T155 l0 x10_1).f3).length c104_3) ((rd_T155 l0 x10_1).f3)) := ⟨(by rw [hw]; exact (by (with_reducible repeat (first | apply Kd.V_alloc | apply Kd.V_drewN | apply Kd.V_drew)); exact Kd.V_mono (Kd.V_far (p := ⟨gb105, 4, none⟩) (Kd.V_far (p := ⟨gb105, 3, none⟩) (Kd.V_far (p := ⟨gb105, 2, none⟩) (Kd.V_far (p := ⟨gb105, 1, none⟩) (Kd.V_far (p := ⟨gb105, 0, none⟩) (Kd.V_mono HL104_3.out (fun k_ hk => (⟨hk, hk.2⟩ : _ ∧ k_ ≠ gb105))) (fun _ hk => hk.2) (.int .i64 ((rd_T155 l0 x10_1).f0))) (fun _ hk => hk.2) (.int .i64 ((rd_T155 l0 x10_1).f1))) (fun _ hk => hk.2) (.slice A104_2 ((rd_T155 l0 x10_1).f2).length c104_2)) (fun _ hk => hk.2) (.slice A104_3 ((rd_T155 l0 x10_1).f3).length c104_3)) (fun _ hk => hk.2) (.int .i64 ((rd_T155 l0 x10_1).f4))) (fun _ hk => ⟨hk.1.1.1, ⟨hk.1.1.2, hk.1.2⟩⟩)))⟩; have n4_ : Aside0 (w10.heap[gb105]? = some (.cells #[.int .i64 ((rd_T155 l0 x10_1).f0), .int .i64 ((rd_T155 l0 x10_1).f1), .slice A104_2 ((rd_T155 l0 x10_1).f2).length c104_2, .slice A104_3 ((rd_T155 l0 x10_1).f3).length c104_3, .int .i64 ((rd_T155 l0 x10_1).f4)] 155 (0, 0))) := ⟨(by rw [hw]; exact (by (with_reducible repeat (first | refine Xkn ?_ _ | refine Xkd ?_ | refine Xka ?_ _)); refine blk_put (cs := #[.int .i64 ((rd_T155 l0 x10_1).f0), .int .i64 ((rd_T155 l0 x10_1).f1), .slice A104_2 ((rd_T155 l0 x10_1).f2).length c104_2, .slice A104_3 ((rd_T155 l0 x10_1).f3).length c104_3, .int .i64 0]) ?_ 4 _ rfl; (with_reducible repeat (first | refine Xkn ?_ _ | refine Xkd ?_ | refine Xka ?_ _)); refine blk_put (cs := #[.int .i64 ((rd_T155 l0 x10_1).f0), .int .i64 ((rd_T155 l0 x10_1).f1), .slice A104_2 ((rd_T155 l0 x10_1).f2).length c104_2, .slice none 0 0, .int .i64 0]) ?_ 3 _ rfl; (with_reducible repeat (first | refine Xkn ?_ _ | refine Xkd ?_ | refine Xka ?_ _)); refine blk_put (cs := #[.int .i64 ((rd_T155 l0 x10_1).f0), .int .i64 ((rd_T155 l0 x10_1).f1), .slice none 0 0, .slice none 0 0, .int .i64 0]) ?_ 2 _ rfl; (with_reducible repeat (first | refine Xkn ?_ _ | refine Xkd ?_ | refine Xka ?_ _)); refine blk_put (cs := #[.int .i64 ((rd_T155 l0 x10_1).f0), .int .i64 0, .slice none 0 0, .slice none 0 0, .int .i64 0]) ?_ 1 _ rfl; (with_reducible repeat (first | refine Xkn ?_ _ | refine Xkd ?_ | refine Xka ?_ _)); refine blk_put (cs := #[.int .i64 0, .int .i64 0, .slice none 0 0, .slice none 0 0, .int .i64 0]) ?_ 0 _ rfl; (with_reducible repeat (first | refine Xkn ?_ _ | refine Xkd ?_ | refine Xka ?_ _)); exact BK105.out))⟩; have n5_ : Aside0 (Below w.heap.size w w10) := ⟨(by rw [hw]; exact (by repeat (first | (with_reducible first | exact HB.out | apply Xba | apply Xbn | apply Xbd | refine Xbe ?_ GE105.out) | exact HB.out)))⟩; clear hw; clear HO_4; clear HO_8; clear HL104_2; clear HL104_3; clear BK105; clear HB; have HO_4 := n0_; have HO_8 := n1_; have HL104_2 := n2_; have HL104_3 := n3_; have BK105 := n4_; have HB := n5_; clear n0_ n1_ n2_ n3_ n4_ n5_; have hcz11_0 : w10.cell? ⟨gb105, 0, none⟩ = some (.int .i64 ((rd_T155 l0 x10_1).f0)) := (Xbc BK105.out 0).trans rfl; have hcz11_1 : w10.cell? ⟨gb105, 1, none⟩ = some (.int .i64 ((rd_T155 l0 x10_1).f1)) := (Xbc BK105.out 1).trans rfl; have hcz11_2 : w10.cell? ⟨gb105, 2, none⟩ = some (.slice A104_2 ((rd_T155 l0 x10_1).f2).length c104_2) := (Xbc BK105.out 2).trans rfl; have hcz11_3 : w10.cell? ⟨gb105, 3, none⟩ = some (.slice A104_3 ((rd_T155 l0 x10_1).f3).length c104_3) := (Xbc BK105.out 3).trans rfl; have hcz11_4 : w10.cell? ⟨gb105, 4, none⟩ = some (.int .i64 ((rd_T155 l0 x10_1).f4)) := (Xbc BK105.out 4).trans rfl; have hfz11_0 := Xbf BK105.out 0; have hfz11_1 := Xbf BK105.out 1; have hfz11_2 := Xbf BK105.out 2; have hfz11_3 := Xbf BK105.out 3; have hfz11_4 := Xbf BK105.out 4) | ((with_reducible refine gate_builtin (b := .append) (xs := #[.tmp 14, .tmp 17]) rfl ?_); at_builtin; refine Kd.N_append (Kd.slice 5 (Kd.int .u8)) (w0 := w) w.heap.size rfl (.tmp 14) (.tmp 17) 66 25 (.slice none 0 0) 24 rfl Try.underlying66 info25 rfl (by decide) (by omega) u4 x4_1 ((rd_T155 l0 x10_1).f3) [.slice A104_3 ((rd_T155 l0 x10_1).f3).length c104_3] (fun k_ => (P0_ k_ ∨ w.heap.size ≤ k_) ∧ k_ ≠ gb105) (fun k_ => ((fun k_ => (P0_ k_ ∨ w.heap.size ≤ k_) ∧ k_ ≠ gb105)) k_ ∧ some k_ ≠ (u4 : Value).ownBlock) rfl rfl ?aP (fun _ hk => hk) ?aF ?aO ?aB ?aS ?aL ?_; (case aP => exact (Kd.FK_slice_mk (Kd.V_reads' (Kd.V_mono (ok' := (fun k_ => ((fun k_ => (P0_ k_ ∨ w.heap.size ≤ k_) ∧ k_ ≠ gb105)) k_ ∧ some k_ ≠ (u4 : Value).ownBlock)) (HL104_3.out) (fun k_ hk => ⟨⟨hk.1, hk.2.2⟩, hk.2.1⟩))).2.1 (Kd.V_F (Kd.V_mono (ok' := (fun k_ => ((fun k_ => (P0_ k_ ∨ w.heap.size ≤ k_) ∧ k_ ≠ gb105)) k_ ∧ some k_ ≠ (u4 : Value).ownBlock)) (HL104_3.out) (fun k_ hk => ⟨⟨hk.1, hk.2.2⟩, hk.2.1⟩))))); (case aB => exact (by repeat (first | (with_reducible first | exact HB.out | apply Xba | apply Xbn | apply Xbd | refine Xbe ?_ GE105.out) | exact HB.out))); (case aF => exact (fun k_ hk => ⟨(.inr (Nat.le_trans (Xbs (by repeat (first | (with_reducible first | exact HB.out | apply Xba | apply Xbn | apply Xbd | refine Xbe ?_ GE105.out) | exact HB.out))) hk)), Kd.freshB (g := gb105) (o := .cells #[.int .i64 ((rd_T155 l0 x10_1).f0), .int .i64 ((rd_T155 l0 x10_1).f1), .slice A104_2 ((rd_T155 l0 x10_1).f2).length c104_2, .slice A104_3 ((rd_T155 l0 x10_1).f3).length c104_3, .int .i64 ((rd_T155 l0 x10_1).f4)] 155 (0, 0)) (by (with_reducible repeat (first | refine Xkn ?_ _ | refine Xkd ?_ | refine Xka ?_ _)); exact BK105.out) k_ hk⟩)); (case aO => exact (by (with_reducible repeat (first | apply Kd.N_alloc | apply Kd.N_drewN | apply Kd.N_drew)); exact HO_4.out)); (case aS => exact (Xbs (by repeat (first | (with_reducible first | exact HB.out | apply Xba | apply Xbn | apply Xbd | refine Xbe ?_ GE105.out) | exact HB.out)))); (case aL => have := LMc7.out; omega); intro v107 w12 ho hb hg hat; rw [← Ny106.out] at ho; have n0_ := Xam (Kd.V_afterv (ok := (fun k_ => (P0_ k_ ∨ w.heap.size ≤ k_) ∧ k_ ≠ gb105)) (by (with_reducible repeat (first | apply Kd.V_alloc | apply Kd.V_drewN | apply Kd.V_drew)); exact Kd.V_mono HO_8.out (fun _ hk => ⟨⟨hk.1, hk.2.2⟩, hk.2.1⟩)) hg hat); have n1_ := Xam (Kd.V_afterv (ok := (fun k_ => (P0_ k_ ∨ w.heap.size ≤ k_) ∧ k_ ≠ gb105)) (by (with_reducible repeat (first | apply Kd.V_alloc | apply Kd.V_drewN | apply Kd.V_drew)); exact Kd.V_mono HL104_2.out (fun _ hk => ⟨⟨hk.1, hk.2.2⟩, hk.2.1⟩)) hg hat); have n2_ := Xam (Kd.V_afterv (ok := (fun k_ => (P0_ k_ ∨ w.heap.size ≤ k_) ∧ k_ ≠ gb105)) (by (with_reducible repeat (first | apply Kd.V_alloc | apply Kd.V_drewN | apply Kd.V_drew)); exact Kd.V_mono HL104_3.out (fun _ hk => ⟨⟨hk.1, hk.2.2⟩, hk.2.1⟩)) hg hat); have n3_ := Xam (blk_grown (g := gb105) (o := .cells #[.int .i64 ((rd_T155 l0 x10_1).f0), .int .i64 ((rd_T155 l0 x10_1).f1), .slice A104_2 ((rd_T155 l0 x10_1).f2).length c104_2, .slice A104_3 ((rd_T155 l0 x10_1).f3).length c104_3, .int .i64 ((rd_T155 l0 x10_1).f4)] 155 (0, 0)) (by (with_reducible repeat (first | refine Xkn ?_ _ | refine Xkd ?_ | refine Xka ?_ _)); exact BK105.out) hg (Kd.N_ne HO_4.out BK105.out (by decide))); have n4_ := Xam (hb); have n5_ := Xam (ho); clear HO_8; clear HL104_2; clear HL104_3; clear BK105; clear HB; clear HO_4; have HO_8 := n0_; have HL104_2 := n1_; have HL104_3 := n2_; have BK105 := n3_; have HB := n4_; have HO108 := n5_; clear n0_ n1_ n2_ n3_ n4_ n5_; clear ho hb hg hat))
              go_roundg k1
              case measure => have := HK1.out; omega
              case rel => exact ⟨(y106), (wrap64 (x10_1 + 1)), (by first | rfl | (simp; done) | (simp [*]; done)), H', ⟨by have := HK1.out; omega⟩, ⟨by (with_reducible repeat (first | apply Kd.N_alloc | apply Kd.N_drewN | apply Kd.N_drew)); exact Kd.N_mono HO108.out (fun _ hk => hk.1)⟩, ⟨by (with_reducible repeat (first | apply Kd.V_alloc | apply Kd.V_drewN | apply Kd.V_drew)); exact Kd.V_mono HO_8.out (fun _ hk => ⟨hk.1.1, hk.2⟩)⟩, ⟨by repeat (first | (with_reducible first | exact HB.out | apply Xba | apply Xbn | apply Xbd | refine Xbe ?_ GE105.out) | exact HB.out)⟩⟩
            · rw [if_neg c7] at H
              exact absurd H (by simp)
          · rw [if_neg c6] at H
            exact absurd H (by simp)
        · rw [if_neg c5] at H
          exact absurd H (by simp)
      · rw [if_neg c4] at H
        have c4b0 : decide (x10_1 < (l0.length : Int)) = false := decide_eq_false c4
        clear c4
        replace H := Option.bind_eq_some_iff.mp H
        obtain ⟨⟨t109, t110⟩, A130, H⟩ := H
        replace H : (some (t109, t110)) = some (r1, r2) := H
        have A13 := Xam A130
        clear A130
        simp only [Option.some.injEq, Prod.mk.injEq] at H
        obtain ⟨rfl, rfl⟩ := H
        obtain ⟨Ao14, co14, eo14⟩ := Kd.N_slice HO_4.out
        subst eo14
        go_wp2_with (first | ((with_reducible refine gate_callee (f := 133) rfl ?_); refine goesL_ (some 21) rfl rfl Try.func133 (by kernel_rfl) rfl #[.slice Ao14 x4_1.length co14] rfl (by (try simp only [List.map_toArray, List.map_cons, List.map_nil]); first | done | rfl | (simp only [List.length_drop, List.length_take]; rfl)) ?_; (with_reducible refine (impl_CombineAnswers.calls k1 _ _ x4_1 t109 t110 _ ?side1 ?side2 A13.out).mono ?_); (case side1 => repeat (first | exact (Kd.N_reads' HO_4.out).2.2 | (with_reducible refine Xca ?_ _) | (with_reducible refine Xcn ?_ _) | (with_reducible refine Xcd ?_))); (case side2 => exact (Kd.N_reads' HO_4.out).2.1); rintro e w15 ⟨v111, rfl, ho0, hb⟩; refine ⟨_, rfl, ?_⟩; have n0_ := Xam (Kd.N_elder' (by (with_reducible repeat (first | apply Kd.N_alloc | apply Kd.N_drewN | apply Kd.N_drew)); exact HO_4.out) (Kd.R_base ho0) hb); have n1_ := Xam (Kd.V_elder' (by (with_reducible repeat (first | apply Kd.V_alloc | apply Kd.V_drewN | apply Kd.V_drew)); exact HO_8.out) (Kd.R_base ho0) hb); have n2_ := Xam (Kd.R_lower (Kd.R_newM (M := fun k_ => (w.heap.size ≤ k_)) ho0 (Xbs (by repeat (first | (with_reducible first | exact HB.out | apply Xba | apply Xbn | apply Xbd) | exact HB.out))) (fun k_ h_ => h_)) (Xbs (by repeat (first | (with_reducible first | exact HB.out | apply Xba | apply Xbn | apply Xbd) | exact HB.out)))); have n3_ := Xam (Xbt (by repeat (first | (with_reducible first | exact HB.out | apply Xba | apply Xbn | apply Xbd) | exact HB.out)) hb); clear HO_4; clear HO_8; clear HB; have HO_4 := n0_; have HO_8 := n1_; have HO112 := n2_; have HB := n3_; clear n0_ n1_ n2_ n3_; (try clear hb); (try clear hb2); (try clear hk); (try clear hi); (try clear ho0)))
        go_ret2
        exact ⟨_, by first | rfl | (simp [errW_none, errW_some] <;> rfl) | (simp [*, errW_none, errW_some] <;> rfl), by (with_reducible repeat (first | apply Xra | apply Xrn | apply Xrd)); exact Kd.R_mono HO112.out (fun _ hk => hk.1), by repeat (first | (with_reducible first | exact HB.out | apply Xba | apply Xbn | apply Xbd) | exact HB.out)⟩

/-! ### laws_eqSignedAnswer: function 134 -/
def laws_eqSignedAnswer.f (k : Nat) (a0_0 : Int) (a0_1 : Int) (l0_2 : List Int) (l0_3 : List Int) (a0_4 : Int) (a1_0 : Int) (a1_1 : Int) (l1_2 : List Int) (l1_3 : List Int) (a1_4 : Int) : Option (Bool) := if a0_0 = a1_0 then (if a0_1 = a1_1 then ((laws_eqIntS.f k l0_2 l1_2).bind fun t103 => (if t103 = true then ((laws_eqByteS.f k l0_3 l1_3).bind fun t104 => (if t104 = true then (if a0_4 = a1_4 then (some true) else (some false)) else (some false))) else (some false))) else (some false)) else (some false)
theorem laws_eqSignedAnswer.mono : ∀ a0 a1 a2 a3 a4 a5 a6 a7 a8 a9 k, LeO (laws_eqSignedAnswer.f k a0 a1 a2 a3 a4 a5 a6 a7 a8 a9) (laws_eqSignedAnswer.f (k + 1) a0 a1 a2 a3 a4 a5 a6 a7 a8 a9) := by
  intro a0 a1 a2 a3 a4 a5 a6 a7 a8 a9 k
  unfold laws_eqSignedAnswer.f
  repeat' first
      | (with_reducible exact laws_eqByteS.mono _ _ _)
      | (with_reducible exact laws_eqIntS.mono _ _ _)
      | (with_reducible exact LeO.refl _)
      | (with_reducible exact LeO.none _)
      | (with_reducible refine LeO.ite ?_ ?_)
      | (with_reducible refine LeO.bind ?_ (fun _ => ?_))
      | exact laws_eqByteS.mono _ _ _
      | exact laws_eqIntS.mono _ _ _
      | exact LeO.none _
      | refine LeO.ite ?_ ?_
      | refine LeO.bind ?_ (fun _ => ?_)
set_option maxHeartbeats 8000000 in
set_option maxRecDepth 100000 in
theorem laws_eqSignedAnswer.calls (k : Nat) (a0_0 : Int) (a0_1 : Int) (A0_2 : Option Addr) (c0_2 : Nat) (l0_2 : List Int) (A0_3 : Option Addr) (c0_3 : Nat) (l0_3 : List Int) (a0_4 : Int) (a1_0 : Int) (a1_1 : Int) (A1_2 : Option Addr) (c1_2 : Nat) (l1_2 : List Int) (A1_3 : Option Addr) (c1_3 : Nat) (l1_3 : List Int) (a1_4 : Int) (r : Bool) (w : World) (hr0_2 : Kd.C (Kd.int .i64) w A0_2 l0_2.length l0_2) (hc0_2 : l0_2.length ≤ c0_2) (hr0_3 : Kd.C (Kd.int .u8) w A0_3 l0_3.length l0_3) (hc0_3 : l0_3.length ≤ c0_3) (hr1_2 : Kd.C (Kd.int .i64) w A1_2 l1_2.length l1_2) (hc1_2 : l1_2.length ≤ c1_2) (hr1_3 : Kd.C (Kd.int .u8) w A1_3 l1_3.length l1_3) (hc1_3 : l1_3.length ≤ c1_3) (h : laws_eqSignedAnswer.f k a0_0 a0_1 l0_2 l0_3 a0_4 a1_0 a1_1 l1_2 l1_3 a1_4 = some r) :
    Calls Try.prog 134 #[.agg #[.int .i64 a0_0, .int .i64 a0_1, .slice A0_2 l0_2.length c0_2, .slice A0_3 l0_3.length c0_3, .int .i64 a0_4], .agg #[.int .i64 a1_0, .int .i64 a1_1, .slice A1_2 l1_2.length c1_2, .slice A1_3 l1_3.length c1_3, .int .i64 a1_4]] w fun e w' => e = .returned (.bool r) ∧ Below w.heap.size w w' := by
  have hu155 := Try.underlying155
  have HR0_2 := Xam hr0_2
  have HC0_2 := Xam hc0_2
  clear hr0_2 hc0_2
  have HR0_3 := Xam hr0_3
  have HC0_3 := Xam hc0_3
  clear hr0_3 hc0_3
  have HR1_2 := Xam hr1_2
  have HC1_2 := Xam hc1_2
  clear hr1_2 hc1_2
  have HR1_3 := Xam hr1_3
  have HC1_3 := Xam hc1_3
  clear hr1_3 hc1_3
  have HB := Xam (Below.refl w.heap.size w)
  have H : (if a0_0 = a1_0 then (if a0_1 = a1_1 then ((laws_eqIntS.f k l0_2 l1_2).bind fun t103 => (if t103 = true then ((laws_eqByteS.f k l0_3 l1_3).bind fun t104 => (if t104 = true then (if a0_4 = a1_4 then (some true) else (some false)) else (some false))) else (some false))) else (some false)) else (some false)) = some r := h
  clear h
  by_cases c3 : a0_0 = a1_0
  · rw [if_pos c3] at H
    have c3b0 : (a0_0 == a1_0) = true := beq_iff_eq.mpr c3
    have c3b1 : (a0_0 != a1_0) = false := bne_eq_false_iff_eq.mpr c3
    clear c3
    by_cases c4 : a0_1 = a1_1
    · rw [if_pos c4] at H
      have c4b0 : (a0_1 == a1_1) = true := beq_iff_eq.mpr c4
      have c4b1 : (a0_1 != a1_1) = false := bne_eq_false_iff_eq.mpr c4
      clear c4
      replace H := Option.bind_eq_some_iff.mp H
      obtain ⟨t103, A50, H⟩ := H
      replace H : (if t103 = true then ((laws_eqByteS.f k l0_3 l1_3).bind fun t104 => (if t104 = true then (if a0_4 = a1_4 then (some true) else (some false)) else (some false))) else (some false)) = some r := H
      have A5 := Xam A50
      clear A50
      by_cases c6 : t103 = true
      · subst c6
        have H1 : ((laws_eqByteS.f k l0_3 l1_3).bind fun t104 => (if t104 = true then (if a0_4 = a1_4 then (some true) else (some false)) else (some false))) = some r := by rw [if_pos rfl] at H; exact H
        clear H
        have H := H1
        clear H1
        replace H := Option.bind_eq_some_iff.mp H
        obtain ⟨t104, A70, H⟩ := H
        replace H : (if t104 = true then (if a0_4 = a1_4 then (some true) else (some false)) else (some false)) = some r := H
        have A7 := Xam A70
        clear A70
        by_cases c8 : t104 = true
        · subst c8
          have H1 : (if a0_4 = a1_4 then (some true) else (some false)) = some r := by rw [if_pos rfl] at H; exact H
          clear H
          have H := H1
          clear H1
          by_cases c9 : a0_4 = a1_4
          · rw [if_pos c9] at H
            have c9b0 : (a0_4 == a1_4) = true := beq_iff_eq.mpr c9
            have c9b1 : (a0_4 != a1_4) = false := bne_eq_false_iff_eq.mpr c9
            clear c9
            obtain rfl := Option.some.inj H
            go_enter Try.func134, Try.ntmps134
            go_wp2_with (first | ((with_reducible refine gate_dst (N := 2) rfl ?_); refine box_event ?hg (N := 2) ?hd (cs := #[.int .i64 a0_0, .int .i64 a0_1, .slice A0_2 l0_2.length c0_2, .slice A0_3 l0_3.length c0_3, .int .i64 a0_4]) (t := 155) ?hr ?_; (case hd => rfl); (case hg => rfl); (case hr => first | (go_simp; done) | (go_simp; rfl)); intro gb101 hg w10 hbox hb; have n0_ := Xam (Xbt (by repeat (first | (with_reducible first | exact HB.out | apply Xba | apply Xbn | apply Xbd) | exact HB.out)) hb); have n1_ := Xam (hbox); have n2_ := Xam ((by rw [hg]; exact (Xbs (by repeat (first | (with_reducible first | exact HB.out | apply Xba | apply Xbn | apply Xbd) | exact HB.out))) : w.heap.size ≤ gb101)); have n3_ := Xam ((by rw [hg]; exact (Xbs (by repeat (first | (with_reducible first | exact HB.out | apply Xba | apply Xbn | apply Xbd) | exact HB.out))) : w.heap.size ≤ gb101)); clear HB; have HB := n0_; have BK101 := n1_; have GW101 := n2_; have GE101 := n3_; clear n0_ n1_ n2_ n3_; clear hb hbox hg) | ((with_reducible refine gate_dst (N := 3) rfl ?_); refine box_event ?hg (N := 3) ?hd (cs := #[.int .i64 a1_0, .int .i64 a1_1, .slice A1_2 l1_2.length c1_2, .slice A1_3 l1_3.length c1_3, .int .i64 a1_4]) (t := 155) ?hr ?_; (case hd => rfl); (case hg => rfl); (case hr => first | (go_simp; done) | (go_simp; rfl)); intro gb102 hg w11 hbox hb; have n0_ := Xam (Xbb (g := gb101) (o := .cells #[.int .i64 a0_0, .int .i64 a0_1, .slice A0_2 l0_2.length c0_2, .slice A0_3 l0_3.length c0_3, .int .i64 a0_4] 155 (0, 0)) (by (with_reducible repeat (first | refine Xkn ?_ _ | refine Xkd ?_ | refine Xka ?_ _)); exact BK101.out) hb); have n1_ := Xam (Xbt (by repeat (first | (with_reducible first | exact HB.out | apply Xba | apply Xbn | apply Xbd | refine Xbe ?_ GE101.out) | exact HB.out)) hb); have n2_ := Xam (hbox); have n3_ := Xam ((by rw [hg]; exact (Xbs (by repeat (first | (with_reducible first | exact HB.out | apply Xba | apply Xbn | apply Xbd | refine Xbe ?_ GE101.out) | exact HB.out))) : w.heap.size ≤ gb102)); have n4_ := Xam ((by rw [hg]; exact (Xbs (by repeat (first | (with_reducible first | exact HB.out | apply Xba | apply Xbn | apply Xbd | refine Xbe ?_ GE101.out) | exact HB.out))) : w.heap.size ≤ gb102)); have n5_ := Xam ((by rw [hg]; exact Nat.ne_of_lt (Xbl (g := gb101) (o := .cells #[.int .i64 a0_0, .int .i64 a0_1, .slice A0_2 l0_2.length c0_2, .slice A0_3 l0_3.length c0_3, .int .i64 a0_4] 155 (0, 0)) (by (with_reducible repeat (first | refine Xkn ?_ _ | refine Xkd ?_ | refine Xka ?_ _)); exact BK101.out)) : gb101 ≠ gb102)); have n6_ := Xam ((by rw [hg]; exact Nat.ne_of_gt (Xbl (g := gb101) (o := .cells #[.int .i64 a0_0, .int .i64 a0_1, .slice A0_2 l0_2.length c0_2, .slice A0_3 l0_3.length c0_3, .int .i64 a0_4] 155 (0, 0)) (by (with_reducible repeat (first | refine Xkn ?_ _ | refine Xkd ?_ | refine Xka ?_ _)); exact BK101.out)) : gb102 ≠ gb101)); clear BK101; clear HB; have BK101 := n0_; have HB := n1_; have BK102 := n2_; have GW102 := n3_; have GE102 := n4_; have NB101_102 := n5_; have NB102_101 := n6_; clear n0_ n1_ n2_ n3_ n4_ n5_ n6_; clear hb hbox hg; have hnb12 := NB101_102.out; have hnc12 := NB102_101.out; have hcz13_0 : w11.cell? ⟨gb101, 0, none⟩ = some (.int .i64 a0_0) := (Xbc BK101.out 0).trans rfl; have hcz13_1 : w11.cell? ⟨gb101, 1, none⟩ = some (.int .i64 a0_1) := (Xbc BK101.out 1).trans rfl; have hcz13_2 : w11.cell? ⟨gb101, 2, none⟩ = some (.slice A0_2 l0_2.length c0_2) := (Xbc BK101.out 2).trans rfl; have hcz13_3 : w11.cell? ⟨gb101, 3, none⟩ = some (.slice A0_3 l0_3.length c0_3) := (Xbc BK101.out 3).trans rfl; have hcz13_4 : w11.cell? ⟨gb101, 4, none⟩ = some (.int .i64 a0_4) := (Xbc BK101.out 4).trans rfl; have hfz13_0 := Xbf BK101.out 0; have hfz13_1 := Xbf BK101.out 1; have hfz13_2 := Xbf BK101.out 2; have hfz13_3 := Xbf BK101.out 3; have hfz13_4 := Xbf BK101.out 4; have hcz14_0 : w11.cell? ⟨gb102, 0, none⟩ = some (.int .i64 a1_0) := (Xbc BK102.out 0).trans rfl; have hcz14_1 : w11.cell? ⟨gb102, 1, none⟩ = some (.int .i64 a1_1) := (Xbc BK102.out 1).trans rfl; have hcz14_2 : w11.cell? ⟨gb102, 2, none⟩ = some (.slice A1_2 l1_2.length c1_2) := (Xbc BK102.out 2).trans rfl; have hcz14_3 : w11.cell? ⟨gb102, 3, none⟩ = some (.slice A1_3 l1_3.length c1_3) := (Xbc BK102.out 3).trans rfl; have hcz14_4 : w11.cell? ⟨gb102, 4, none⟩ = some (.int .i64 a1_4) := (Xbc BK102.out 4).trans rfl; have hfz14_0 := Xbf BK102.out 0; have hfz14_1 := Xbf BK102.out 1; have hfz14_2 := Xbf BK102.out 2; have hfz14_3 := Xbf BK102.out 3; have hfz14_4 := Xbf BK102.out 4) | ((with_reducible refine gate_callee (f := 127) rfl ?_); refine goesL_ (some 19) rfl rfl Try.func127 (by kernel_rfl) rfl #[.slice A0_2 l0_2.length c0_2, .slice A1_2 l1_2.length c1_2] rfl (by (try simp only [List.map_toArray, List.map_cons, List.map_nil]); first | done | rfl | (simp only [List.length_drop, List.length_take]; rfl)) ?_; (with_reducible refine (laws_eqIntS.calls k _ _ l0_2 _ _ l1_2 true _ ?side1 ?side2 ?side3 ?side4 A5.out).mono ?_); (case side1 => repeat (first | exact (Kd.C_below HR0_2.out HB.out) | (with_reducible refine Xca ?_ _) | (with_reducible refine Xcn ?_ _) | (with_reducible refine Xcd ?_))); (case side2 => exact HC0_2.out); (case side3 => repeat (first | exact (Kd.C_below HR1_2.out HB.out) | (with_reducible refine Xca ?_ _) | (with_reducible refine Xcn ?_ _) | (with_reducible refine Xcd ?_))); (case side4 => exact HC1_2.out); rintro e w' ⟨rfl, ⟨nd, rfl⟩⟩; refine ⟨_, rfl, ?_⟩) | ((with_reducible refine gate_callee (f := 37) rfl ?_); refine goesL_ (some 25) rfl rfl Try.func37 (by kernel_rfl) rfl #[.slice A0_3 l0_3.length c0_3, .slice A1_3 l1_3.length c1_3] rfl (by (try simp only [List.map_toArray, List.map_cons, List.map_nil]); first | done | rfl | (simp only [List.length_drop, List.length_take]; rfl)) ?_; (with_reducible refine (laws_eqByteS.calls k _ _ l0_3 _ _ l1_3 true _ ?side1 ?side2 ?side3 ?side4 A7.out).mono ?_); (case side1 => repeat (first | exact (Kd.C_below HR0_3.out (by repeat (first | (with_reducible first | exact HB.out | apply Xba | apply Xbn | apply Xbd | refine Xbe ?_ GE101.out | refine Xbe ?_ GE102.out) | exact HB.out))) | (with_reducible refine Xca ?_ _) | (with_reducible refine Xcn ?_ _) | (with_reducible refine Xcd ?_))); (case side2 => exact HC0_3.out); (case side3 => repeat (first | exact (Kd.C_below HR1_3.out (by repeat (first | (with_reducible first | exact HB.out | apply Xba | apply Xbn | apply Xbd | refine Xbe ?_ GE101.out | refine Xbe ?_ GE102.out) | exact HB.out))) | (with_reducible refine Xca ?_ _) | (with_reducible refine Xcn ?_ _) | (with_reducible refine Xcd ?_))); (case side4 => exact HC1_3.out); rintro e w' ⟨rfl, ⟨nd, rfl⟩⟩; refine ⟨_, rfl, ?_⟩))
            go_ret
            exact ⟨by first | rfl | (simp [errW_none, errW_some] <;> rfl) | (simp [*, errW_none, errW_some] <;> rfl), by repeat (first | (with_reducible first | exact HB.out | apply Xba | apply Xbn | apply Xbd | refine Xbe ?_ GE101.out | refine Xbe ?_ GE102.out) | exact HB.out)⟩
          · rw [if_neg c9] at H
            have c9b0 : (a0_4 == a1_4) = false := beq_eq_false_iff_ne.mpr c9
            have c9b1 : (a0_4 != a1_4) = true := bne_iff_ne.mpr c9
            obtain rfl := Option.some.inj H
            go_enter Try.func134, Try.ntmps134
            go_wp2_with (first | ((with_reducible refine gate_dst (N := 2) rfl ?_); refine box_event ?hg (N := 2) ?hd (cs := #[.int .i64 a0_0, .int .i64 a0_1, .slice A0_2 l0_2.length c0_2, .slice A0_3 l0_3.length c0_3, .int .i64 a0_4]) (t := 155) ?hr ?_; (case hd => rfl); (case hg => rfl); (case hr => first | (go_simp; done) | (go_simp; rfl)); intro gb101 hg w15 hbox hb; have n0_ := Xam (Xbt (by repeat (first | (with_reducible first | exact HB.out | apply Xba | apply Xbn | apply Xbd) | exact HB.out)) hb); have n1_ := Xam (hbox); have n2_ := Xam ((by rw [hg]; exact (Xbs (by repeat (first | (with_reducible first | exact HB.out | apply Xba | apply Xbn | apply Xbd) | exact HB.out))) : w.heap.size ≤ gb101)); have n3_ := Xam ((by rw [hg]; exact (Xbs (by repeat (first | (with_reducible first | exact HB.out | apply Xba | apply Xbn | apply Xbd) | exact HB.out))) : w.heap.size ≤ gb101)); clear HB; have HB := n0_; have BK101 := n1_; have GW101 := n2_; have GE101 := n3_; clear n0_ n1_ n2_ n3_; clear hb hbox hg) | ((with_reducible refine gate_dst (N := 3) rfl ?_); refine box_event ?hg (N := 3) ?hd (cs := #[.int .i64 a1_0, .int .i64 a1_1, .slice A1_2 l1_2.length c1_2, .slice A1_3 l1_3.length c1_3, .int .i64 a1_4]) (t := 155) ?hr ?_; (case hd => rfl); (case hg => rfl); (case hr => first | (go_simp; done) | (go_simp; rfl)); intro gb102 hg w16 hbox hb; have n0_ := Xam (Xbb (g := gb101) (o := .cells #[.int .i64 a0_0, .int .i64 a0_1, .slice A0_2 l0_2.length c0_2, .slice A0_3 l0_3.length c0_3, .int .i64 a0_4] 155 (0, 0)) (by (with_reducible repeat (first | refine Xkn ?_ _ | refine Xkd ?_ | refine Xka ?_ _)); exact BK101.out) hb); have n1_ := Xam (Xbt (by repeat (first | (with_reducible first | exact HB.out | apply Xba | apply Xbn | apply Xbd | refine Xbe ?_ GE101.out) | exact HB.out)) hb); have n2_ := Xam (hbox); have n3_ := Xam ((by rw [hg]; exact (Xbs (by repeat (first | (with_reducible first | exact HB.out | apply Xba | apply Xbn | apply Xbd | refine Xbe ?_ GE101.out) | exact HB.out))) : w.heap.size ≤ gb102)); have n4_ := Xam ((by rw [hg]; exact (Xbs (by repeat (first | (with_reducible first | exact HB.out | apply Xba | apply Xbn | apply Xbd | refine Xbe ?_ GE101.out) | exact HB.out))) : w.heap.size ≤ gb102)); have n5_ := Xam ((by rw [hg]; exact Nat.ne_of_lt (Xbl (g := gb101) (o := .cells #[.int .i64 a0_0, .int .i64 a0_1, .slice A0_2 l0_2.length c0_2, .slice A0_3 l0_3.length c0_3, .int .i64 a0_4] 155 (0, 0)) (by (with_reducible repeat (first | refine Xkn ?_ _ | refine Xkd ?_ | refine Xka ?_ _)); exact BK101.out)) : gb101 ≠ gb102)); have n6_ := Xam ((by rw [hg]; exact Nat.ne_of_gt (Xbl (g := gb101) (o := .cells #[.int .i64 a0_0, .int .i64 a0_1, .slice A0_2 l0_2.length c0_2, .slice A0_3 l0_3.length c0_3, .int .i64 a0_4] 155 (0, 0)) (by (with_reducible repeat (first | refine Xkn ?_ _ | refine Xkd ?_ | refine Xka ?_ _)); exact BK101.out)) : gb102 ≠ gb101)); clear BK101; clear HB; have BK101 := n0_; have HB := n1_; have BK102 := n2_; have GW102 := n3_; have GE102 := n4_; have NB101_102 := n5_; have NB102_101 := n6_; clear n0_ n1_ n2_ n3_ n4_ n5_ n6_; clear hb hbox hg; have hnb17 := NB101_102.out; have hnc17 := NB102_101.out; have hcz18_0 : w16.cell? ⟨gb101, 0, none⟩ = some (.int .i64 a0_0) := (Xbc BK101.out 0).trans rfl; have hcz18_1 : w16.cell? ⟨gb101, 1, none⟩ = some (.int .i64 a0_1) := (Xbc BK101.out 1).trans rfl; have hcz18_2 : w16.cell? ⟨gb101, 2, none⟩ = some (.slice A0_2 l0_2.length c0_2) := (Xbc BK101.out 2).trans rfl; have hcz18_3 : w16.cell? ⟨gb101, 3, none⟩ = some (.slice A0_3 l0_3.length c0_3) := (Xbc BK101.out 3).trans rfl; have hcz18_4 : w16.cell? ⟨gb101, 4, none⟩ = some (.int .i64 a0_4) := (Xbc BK101.out 4).trans rfl; have hfz18_0 := Xbf BK101.out 0; have hfz18_1 := Xbf BK101.out 1; have hfz18_2 := Xbf BK101.out 2; have hfz18_3 := Xbf BK101.out 3; have hfz18_4 := Xbf BK101.out 4; have hcz19_0 : w16.cell? ⟨gb102, 0, none⟩ = some (.int .i64 a1_0) := (Xbc BK102.out 0).trans rfl; have hcz19_1 : w16.cell? ⟨gb102, 1, none⟩ = some (.int .i64 a1_1) := (Xbc BK102.out 1).trans rfl; have hcz19_2 : w16.cell? ⟨gb102, 2, none⟩ = some (.slice A1_2 l1_2.length c1_2) := (Xbc BK102.out 2).trans rfl; have hcz19_3 : w16.cell? ⟨gb102, 3, none⟩ = some (.slice A1_3 l1_3.length c1_3) := (Xbc BK102.out 3).trans rfl; have hcz19_4 : w16.cell? ⟨gb102, 4, none⟩ = some (.int .i64 a1_4) := (Xbc BK102.out 4).trans rfl; have hfz19_0 := Xbf BK102.out 0; have hfz19_1 := Xbf BK102.out 1; have hfz19_2 := Xbf BK102.out 2; have hfz19_3 := Xbf BK102.out 3; have hfz19_4 := Xbf BK102.out 4) | ((with_reducible refine gate_callee (f := 127) rfl ?_); refine goesL_ (some 19) rfl rfl Try.func127 (by kernel_rfl) rfl #[.slice A0_2 l0_2.length c0_2, .slice A1_2 l1_2.length c1_2] rfl (by (try simp only [List.map_toArray, List.map_cons, List.map_nil]); first | done | rfl | (simp only [List.length_drop, List.length_take]; rfl)) ?_; (with_reducible refine (laws_eqIntS.calls k _ _ l0_2 _ _ l1_2 true _ ?side1 ?side2 ?side3 ?side4 A5.out).mono ?_); (case side1 => repeat (first | exact (Kd.C_below HR0_2.out HB.out) | (with_reducible refine Xca ?_ _) | (with_reducible refine Xcn ?_ _) | (with_reducible refine Xcd ?_))); (case side2 => exact HC0_2.out); (case side3 => repeat (first | exact (Kd.C_below HR1_2.out HB.out) | (with_reducible refine Xca ?_ _) | (with_reducible refine Xcn ?_ _) | (with_reducible refine Xcd ?_))); (case side4 => exact HC1_2.out); rintro e w' ⟨rfl, ⟨nd, rfl⟩⟩; refine ⟨_, rfl, ?_⟩) | ((with_reducible refine gate_callee (f := 37) rfl ?_); refine goesL_ (some 25) rfl rfl Try.func37 (by kernel_rfl) rfl #[.slice A0_3 l0_3.length c0_3, .slice A1_3 l1_3.length c1_3] rfl (by (try simp only [List.map_toArray, List.map_cons, List.map_nil]); first | done | rfl | (simp only [List.length_drop, List.length_take]; rfl)) ?_; (with_reducible refine (laws_eqByteS.calls k _ _ l0_3 _ _ l1_3 true _ ?side1 ?side2 ?side3 ?side4 A7.out).mono ?_); (case side1 => repeat (first | exact (Kd.C_below HR0_3.out (by repeat (first | (with_reducible first | exact HB.out | apply Xba | apply Xbn | apply Xbd | refine Xbe ?_ GE101.out | refine Xbe ?_ GE102.out) | exact HB.out))) | (with_reducible refine Xca ?_ _) | (with_reducible refine Xcn ?_ _) | (with_reducible refine Xcd ?_))); (case side2 => exact HC0_3.out); (case side3 => repeat (first | exact (Kd.C_below HR1_3.out (by repeat (first | (with_reducible first | exact HB.out | apply Xba | apply Xbn | apply Xbd | refine Xbe ?_ GE101.out | refine Xbe ?_ GE102.out) | exact HB.out))) | (with_reducible refine Xca ?_ _) | (with_reducible refine Xcn ?_ _) | (with_reducible refine Xcd ?_))); (case side4 => exact HC1_3.out); rintro e w' ⟨rfl, ⟨nd, rfl⟩⟩; refine ⟨_, rfl, ?_⟩))
            go_ret
            exact ⟨by first | rfl | (simp [errW_none, errW_some] <;> rfl) | (simp [*, errW_none, errW_some] <;> rfl), by repeat (first | (with_reducible first | exact HB.out | apply Xba | apply Xbn | apply Xbd | refine Xbe ?_ GE101.out | refine Xbe ?_ GE102.out) | exact HB.out)⟩
        · replace c8 := Bool.eq_false_iff.mpr c8
          subst c8
          have H1 : (some false) = some r := by rw [if_neg (show ¬ (false = true) by decide)] at H; exact H
          clear H
          have H := H1
          clear H1
          obtain rfl := Option.some.inj H
          go_enter Try.func134, Try.ntmps134
          go_wp2_with (first | ((with_reducible refine gate_dst (N := 2) rfl ?_); refine box_event ?hg (N := 2) ?hd (cs := #[.int .i64 a0_0, .int .i64 a0_1, .slice A0_2 l0_2.length c0_2, .slice A0_3 l0_3.length c0_3, .int .i64 a0_4]) (t := 155) ?hr ?_; (case hd => rfl); (case hg => rfl); (case hr => first | (go_simp; done) | (go_simp; rfl)); intro gb101 hg w20 hbox hb; have n0_ := Xam (Xbt (by repeat (first | (with_reducible first | exact HB.out | apply Xba | apply Xbn | apply Xbd) | exact HB.out)) hb); have n1_ := Xam (hbox); have n2_ := Xam ((by rw [hg]; exact (Xbs (by repeat (first | (with_reducible first | exact HB.out | apply Xba | apply Xbn | apply Xbd) | exact HB.out))) : w.heap.size ≤ gb101)); have n3_ := Xam ((by rw [hg]; exact (Xbs (by repeat (first | (with_reducible first | exact HB.out | apply Xba | apply Xbn | apply Xbd) | exact HB.out))) : w.heap.size ≤ gb101)); clear HB; have HB := n0_; have BK101 := n1_; have GW101 := n2_; have GE101 := n3_; clear n0_ n1_ n2_ n3_; clear hb hbox hg) | ((with_reducible refine gate_dst (N := 3) rfl ?_); refine box_event ?hg (N := 3) ?hd (cs := #[.int .i64 a1_0, .int .i64 a1_1, .slice A1_2 l1_2.length c1_2, .slice A1_3 l1_3.length c1_3, .int .i64 a1_4]) (t := 155) ?hr ?_; (case hd => rfl); (case hg => rfl); (case hr => first | (go_simp; done) | (go_simp; rfl)); intro gb102 hg w21 hbox hb; have n0_ := Xam (Xbb (g := gb101) (o := .cells #[.int .i64 a0_0, .int .i64 a0_1, .slice A0_2 l0_2.length c0_2, .slice A0_3 l0_3.length c0_3, .int .i64 a0_4] 155 (0, 0)) (by (with_reducible repeat (first | refine Xkn ?_ _ | refine Xkd ?_ | refine Xka ?_ _)); exact BK101.out) hb); have n1_ := Xam (Xbt (by repeat (first | (with_reducible first | exact HB.out | apply Xba | apply Xbn | apply Xbd | refine Xbe ?_ GE101.out) | exact HB.out)) hb); have n2_ := Xam (hbox); have n3_ := Xam ((by rw [hg]; exact (Xbs (by repeat (first | (with_reducible first | exact HB.out | apply Xba | apply Xbn | apply Xbd | refine Xbe ?_ GE101.out) | exact HB.out))) : w.heap.size ≤ gb102)); have n4_ := Xam ((by rw [hg]; exact (Xbs (by repeat (first | (with_reducible first | exact HB.out | apply Xba | apply Xbn | apply Xbd | refine Xbe ?_ GE101.out) | exact HB.out))) : w.heap.size ≤ gb102)); have n5_ := Xam ((by rw [hg]; exact Nat.ne_of_lt (Xbl (g := gb101) (o := .cells #[.int .i64 a0_0, .int .i64 a0_1, .slice A0_2 l0_2.length c0_2, .slice A0_3 l0_3.length c0_3, .int .i64 a0_4] 155 (0, 0)) (by (with_reducible repeat (first | refine Xkn ?_ _ | refine Xkd ?_ | refine Xka ?_ _)); exact BK101.out)) : gb101 ≠ gb102)); have n6_ := Xam ((by rw [hg]; exact Nat.ne_of_gt (Xbl (g := gb101) (o := .cells #[.int .i64 a0_0, .int .i64 a0_1, .slice A0_2 l0_2.length c0_2, .slice A0_3 l0_3.length c0_3, .int .i64 a0_4] 155 (0, 0)) (by (with_reducible repeat (first | refine Xkn ?_ _ | refine Xkd ?_ | refine Xka ?_ _)); exact BK101.out)) : gb102 ≠ gb101)); clear BK101; clear HB; have BK101 := n0_; have HB := n1_; have BK102 := n2_; have GW102 := n3_; have GE102 := n4_; have NB101_102 := n5_; have NB102_101 := n6_; clear n0_ n1_ n2_ n3_ n4_ n5_ n6_; clear hb hbox hg; have hnb22 := NB101_102.out; have hnc22 := NB102_101.out; have hcz23_0 : w21.cell? ⟨gb101, 0, none⟩ = some (.int .i64 a0_0) := (Xbc BK101.out 0).trans rfl; have hcz23_1 : w21.cell? ⟨gb101, 1, none⟩ = some (.int .i64 a0_1) := (Xbc BK101.out 1).trans rfl; have hcz23_2 : w21.cell? ⟨gb101, 2, none⟩ = some (.slice A0_2 l0_2.length c0_2) := (Xbc BK101.out 2).trans rfl; have hcz23_3 : w21.cell? ⟨gb101, 3, none⟩ = some (.slice A0_3 l0_3.length c0_3) := (Xbc BK101.out 3).trans rfl; have hcz23_4 : w21.cell? ⟨gb101, 4, none⟩ = some (.int .i64 a0_4) := (Xbc BK101.out 4).trans rfl; have hfz23_0 := Xbf BK101.out 0; have hfz23_1 := Xbf BK101.out 1; have hfz23_2 := Xbf BK101.out 2; have hfz23_3 := Xbf BK101.out 3; have hfz23_4 := Xbf BK101.out 4; have hcz24_0 : w21.cell? ⟨gb102, 0, none⟩ = some (.int .i64 a1_0) := (Xbc BK102.out 0).trans rfl; have hcz24_1 : w21.cell? ⟨gb102, 1, none⟩ = some (.int .i64 a1_1) := (Xbc BK102.out 1).trans rfl; have hcz24_2 : w21.cell? ⟨gb102, 2, none⟩ = some (.slice A1_2 l1_2.length c1_2) := (Xbc BK102.out 2).trans rfl; have hcz24_3 : w21.cell? ⟨gb102, 3, none⟩ = some (.slice A1_3 l1_3.length c1_3) := (Xbc BK102.out 3).trans rfl; have hcz24_4 : w21.cell? ⟨gb102, 4, none⟩ = some (.int .i64 a1_4) := (Xbc BK102.out 4).trans rfl; have hfz24_0 := Xbf BK102.out 0; have hfz24_1 := Xbf BK102.out 1; have hfz24_2 := Xbf BK102.out 2; have hfz24_3 := Xbf BK102.out 3; have hfz24_4 := Xbf BK102.out 4) | ((with_reducible refine gate_callee (f := 127) rfl ?_); refine goesL_ (some 19) rfl rfl Try.func127 (by kernel_rfl) rfl #[.slice A0_2 l0_2.length c0_2, .slice A1_2 l1_2.length c1_2] rfl (by (try simp only [List.map_toArray, List.map_cons, List.map_nil]); first | done | rfl | (simp only [List.length_drop, List.length_take]; rfl)) ?_; (with_reducible refine (laws_eqIntS.calls k _ _ l0_2 _ _ l1_2 true _ ?side1 ?side2 ?side3 ?side4 A5.out).mono ?_); (case side1 => repeat (first | exact (Kd.C_below HR0_2.out HB.out) | (with_reducible refine Xca ?_ _) | (with_reducible refine Xcn ?_ _) | (with_reducible refine Xcd ?_))); (case side2 => exact HC0_2.out); (case side3 => repeat (first | exact (Kd.C_below HR1_2.out HB.out) | (with_reducible refine Xca ?_ _) | (with_reducible refine Xcn ?_ _) | (with_reducible refine Xcd ?_))); (case side4 => exact HC1_2.out); rintro e w' ⟨rfl, ⟨nd, rfl⟩⟩; refine ⟨_, rfl, ?_⟩) | ((with_reducible refine gate_callee (f := 37) rfl ?_); refine goesL_ (some 25) rfl rfl Try.func37 (by kernel_rfl) rfl #[.slice A0_3 l0_3.length c0_3, .slice A1_3 l1_3.length c1_3] rfl (by (try simp only [List.map_toArray, List.map_cons, List.map_nil]); first | done | rfl | (simp only [List.length_drop, List.length_take]; rfl)) ?_; (with_reducible refine (laws_eqByteS.calls k _ _ l0_3 _ _ l1_3 false _ ?side1 ?side2 ?side3 ?side4 A7.out).mono ?_); (case side1 => repeat (first | exact (Kd.C_below HR0_3.out (by repeat (first | (with_reducible first | exact HB.out | apply Xba | apply Xbn | apply Xbd | refine Xbe ?_ GE101.out | refine Xbe ?_ GE102.out) | exact HB.out))) | (with_reducible refine Xca ?_ _) | (with_reducible refine Xcn ?_ _) | (with_reducible refine Xcd ?_))); (case side2 => exact HC0_3.out); (case side3 => repeat (first | exact (Kd.C_below HR1_3.out (by repeat (first | (with_reducible first | exact HB.out | apply Xba | apply Xbn | apply Xbd | refine Xbe ?_ GE101.out | refine Xbe ?_ GE102.out) | exact HB.out))) | (with_reducible refine Xca ?_ _) | (with_reducible refine Xcn ?_ _) | (with_reducible refine Xcd ?_))); (case side4 => exact HC1_3.out); rintro e w' ⟨rfl, ⟨nd, rfl⟩⟩; refine ⟨_, rfl, ?_⟩))
          go_ret
          exact ⟨by first | rfl | (simp [errW_none, errW_some] <;> rfl) | (simp [*, errW_none, errW_some] <;> rfl), by repeat (first | (with_reducible first | exact HB.out | apply Xba | apply Xbn | apply Xbd | refine Xbe ?_ GE101.out | refine Xbe ?_ GE102.out) | exact HB.out)⟩
      · replace c6 := Bool.eq_false_iff.mpr c6
        subst c6
        have H1 : (some false) = some r := by rw [if_neg (show ¬ (false = true) by decide)] at H; exact H
        clear H
        have H := H1
        clear H1
        obtain rfl := Option.some.inj H
        go_enter Try.func134, Try.ntmps134
        go_wp2_with (first | ((with_reducible refine gate_dst (N := 2) rfl ?_); refine box_event ?hg (N := 2) ?hd (cs := #[.int .i64 a0_0, .int .i64 a0_1, .slice A0_2 l0_2.length c0_2, .slice A0_3 l0_3.length c0_3, .int .i64 a0_4]) (t := 155) ?hr ?_; (case hd => rfl); (case hg => rfl); (case hr => first | (go_simp; done) | (go_simp; rfl)); intro gb101 hg w25 hbox hb; have n0_ := Xam (Xbt (by repeat (first | (with_reducible first | exact HB.out | apply Xba | apply Xbn | apply Xbd) | exact HB.out)) hb); have n1_ := Xam (hbox); have n2_ := Xam ((by rw [hg]; exact (Xbs (by repeat (first | (with_reducible first | exact HB.out | apply Xba | apply Xbn | apply Xbd) | exact HB.out))) : w.heap.size ≤ gb101)); have n3_ := Xam ((by rw [hg]; exact (Xbs (by repeat (first | (with_reducible first | exact HB.out | apply Xba | apply Xbn | apply Xbd) | exact HB.out))) : w.heap.size ≤ gb101)); clear HB; have HB := n0_; have BK101 := n1_; have GW101 := n2_; have GE101 := n3_; clear n0_ n1_ n2_ n3_; clear hb hbox hg) | ((with_reducible refine gate_dst (N := 3) rfl ?_); refine box_event ?hg (N := 3) ?hd (cs := #[.int .i64 a1_0, .int .i64 a1_1, .slice A1_2 l1_2.length c1_2, .slice A1_3 l1_3.length c1_3, .int .i64 a1_4]) (t := 155) ?hr ?_; (case hd => rfl); (case hg => rfl); (case hr => first | (go_simp; done) | (go_simp; rfl)); intro gb102 hg w26 hbox hb; have n0_ := Xam (Xbb (g := gb101) (o := .cells #[.int .i64 a0_0, .int .i64 a0_1, .slice A0_2 l0_2.length c0_2, .slice A0_3 l0_3.length c0_3, .int .i64 a0_4] 155 (0, 0)) (by (with_reducible repeat (first | refine Xkn ?_ _ | refine Xkd ?_ | refine Xka ?_ _)); exact BK101.out) hb); have n1_ := Xam (Xbt (by repeat (first | (with_reducible first | exact HB.out | apply Xba | apply Xbn | apply Xbd | refine Xbe ?_ GE101.out) | exact HB.out)) hb); have n2_ := Xam (hbox); have n3_ := Xam ((by rw [hg]; exact (Xbs (by repeat (first | (with_reducible first | exact HB.out | apply Xba | apply Xbn | apply Xbd | refine Xbe ?_ GE101.out) | exact HB.out))) : w.heap.size ≤ gb102)); have n4_ := Xam ((by rw [hg]; exact (Xbs (by repeat (first | (with_reducible first | exact HB.out | apply Xba | apply Xbn | apply Xbd | refine Xbe ?_ GE101.out) | exact HB.out))) : w.heap.size ≤ gb102)); have n5_ := Xam ((by rw [hg]; exact Nat.ne_of_lt (Xbl (g := gb101) (o := .cells #[.int .i64 a0_0, .int .i64 a0_1, .slice A0_2 l0_2.length c0_2, .slice A0_3 l0_3.length c0_3, .int .i64 a0_4] 155 (0, 0)) (by (with_reducible repeat (first | refine Xkn ?_ _ | refine Xkd ?_ | refine Xka ?_ _)); exact BK101.out)) : gb101 ≠ gb102)); have n6_ := Xam ((by rw [hg]; exact Nat.ne_of_gt (Xbl (g := gb101) (o := .cells #[.int .i64 a0_0, .int .i64 a0_1, .slice A0_2 l0_2.length c0_2, .slice A0_3 l0_3.length c0_3, .int .i64 a0_4] 155 (0, 0)) (by (with_reducible repeat (first | refine Xkn ?_ _ | refine Xkd ?_ | refine Xka ?_ _)); exact BK101.out)) : gb102 ≠ gb101)); clear BK101; clear HB; have BK101 := n0_; have HB := n1_; have BK102 := n2_; have GW102 := n3_; have GE102 := n4_; have NB101_102 := n5_; have NB102_101 := n6_; clear n0_ n1_ n2_ n3_ n4_ n5_ n6_; clear hb hbox hg; have hnb27 := NB101_102.out; have hnc27 := NB102_101.out; have hcz28_0 : w26.cell? ⟨gb101, 0, none⟩ = some (.int .i64 a0_0) := (Xbc BK101.out 0).trans rfl; have hcz28_1 : w26.cell? ⟨gb101, 1, none⟩ = some (.int .i64 a0_1) := (Xbc BK101.out 1).trans rfl; have hcz28_2 : w26.cell? ⟨gb101, 2, none⟩ = some (.slice A0_2 l0_2.length c0_2) := (Xbc BK101.out 2).trans rfl; have hcz28_3 : w26.cell? ⟨gb101, 3, none⟩ = some (.slice A0_3 l0_3.length c0_3) := (Xbc BK101.out 3).trans rfl; have hcz28_4 : w26.cell? ⟨gb101, 4, none⟩ = some (.int .i64 a0_4) := (Xbc BK101.out 4).trans rfl; have hfz28_0 := Xbf BK101.out 0; have hfz28_1 := Xbf BK101.out 1; have hfz28_2 := Xbf BK101.out 2; have hfz28_3 := Xbf BK101.out 3; have hfz28_4 := Xbf BK101.out 4; have hcz29_0 : w26.cell? ⟨gb102, 0, none⟩ = some (.int .i64 a1_0) := (Xbc BK102.out 0).trans rfl; have hcz29_1 : w26.cell? ⟨gb102, 1, none⟩ = some (.int .i64 a1_1) := (Xbc BK102.out 1).trans rfl; have hcz29_2 : w26.cell? ⟨gb102, 2, none⟩ = some (.slice A1_2 l1_2.length c1_2) := (Xbc BK102.out 2).trans rfl; have hcz29_3 : w26.cell? ⟨gb102, 3, none⟩ = some (.slice A1_3 l1_3.length c1_3) := (Xbc BK102.out 3).trans rfl; have hcz29_4 : w26.cell? ⟨gb102, 4, none⟩ = some (.int .i64 a1_4) := (Xbc BK102.out 4).trans rfl; have hfz29_0 := Xbf BK102.out 0; have hfz29_1 := Xbf BK102.out 1; have hfz29_2 := Xbf BK102.out 2; have hfz29_3 := Xbf BK102.out 3; have hfz29_4 := Xbf BK102.out 4) | ((with_reducible refine gate_callee (f := 127) rfl ?_); refine goesL_ (some 19) rfl rfl Try.func127 (by kernel_rfl) rfl #[.slice A0_2 l0_2.length c0_2, .slice A1_2 l1_2.length c1_2] rfl (by (try simp only [List.map_toArray, List.map_cons, List.map_nil]); first | done | rfl | (simp only [List.length_drop, List.length_take]; rfl)) ?_; (with_reducible refine (laws_eqIntS.calls k _ _ l0_2 _ _ l1_2 false _ ?side1 ?side2 ?side3 ?side4 A5.out).mono ?_); (case side1 => repeat (first | exact (Kd.C_below HR0_2.out HB.out) | (with_reducible refine Xca ?_ _) | (with_reducible refine Xcn ?_ _) | (with_reducible refine Xcd ?_))); (case side2 => exact HC0_2.out); (case side3 => repeat (first | exact (Kd.C_below HR1_2.out HB.out) | (with_reducible refine Xca ?_ _) | (with_reducible refine Xcn ?_ _) | (with_reducible refine Xcd ?_))); (case side4 => exact HC1_2.out); rintro e w' ⟨rfl, ⟨nd, rfl⟩⟩; refine ⟨_, rfl, ?_⟩))
        go_ret
        exact ⟨by first | rfl | (simp [errW_none, errW_some] <;> rfl) | (simp [*, errW_none, errW_some] <;> rfl), by repeat (first | (with_reducible first | exact HB.out | apply Xba | apply Xbn | apply Xbd | refine Xbe ?_ GE101.out | refine Xbe ?_ GE102.out) | exact HB.out)⟩
    · rw [if_neg c4] at H
      have c4b0 : (a0_1 == a1_1) = false := beq_eq_false_iff_ne.mpr c4
      have c4b1 : (a0_1 != a1_1) = true := bne_iff_ne.mpr c4
      obtain rfl := Option.some.inj H
      go_enter Try.func134, Try.ntmps134
      go_wp2_with (first | ((with_reducible refine gate_dst (N := 2) rfl ?_); refine box_event ?hg (N := 2) ?hd (cs := #[.int .i64 a0_0, .int .i64 a0_1, .slice A0_2 l0_2.length c0_2, .slice A0_3 l0_3.length c0_3, .int .i64 a0_4]) (t := 155) ?hr ?_; (case hd => rfl); (case hg => rfl); (case hr => first | (go_simp; done) | (go_simp; rfl)); intro gb101 hg w30 hbox hb; have n0_ := Xam (Xbt (by repeat (first | (with_reducible first | exact HB.out | apply Xba | apply Xbn | apply Xbd) | exact HB.out)) hb); have n1_ := Xam (hbox); have n2_ := Xam ((by rw [hg]; exact (Xbs (by repeat (first | (with_reducible first | exact HB.out | apply Xba | apply Xbn | apply Xbd) | exact HB.out))) : w.heap.size ≤ gb101)); have n3_ := Xam ((by rw [hg]; exact (Xbs (by repeat (first | (with_reducible first | exact HB.out | apply Xba | apply Xbn | apply Xbd) | exact HB.out))) : w.heap.size ≤ gb101)); clear HB; have HB := n0_; have BK101 := n1_; have GW101 := n2_; have GE101 := n3_; clear n0_ n1_ n2_ n3_; clear hb hbox hg) | ((with_reducible refine gate_dst (N := 3) rfl ?_); refine box_event ?hg (N := 3) ?hd (cs := #[.int .i64 a1_0, .int .i64 a1_1, .slice A1_2 l1_2.length c1_2, .slice A1_3 l1_3.length c1_3, .int .i64 a1_4]) (t := 155) ?hr ?_; (case hd => rfl); (case hg => rfl); (case hr => first | (go_simp; done) | (go_simp; rfl)); intro gb102 hg w31 hbox hb; have n0_ := Xam (Xbb (g := gb101) (o := .cells #[.int .i64 a0_0, .int .i64 a0_1, .slice A0_2 l0_2.length c0_2, .slice A0_3 l0_3.length c0_3, .int .i64 a0_4] 155 (0, 0)) (by (with_reducible repeat (first | refine Xkn ?_ _ | refine Xkd ?_ | refine Xka ?_ _)); exact BK101.out) hb); have n1_ := Xam (Xbt (by repeat (first | (with_reducible first | exact HB.out | apply Xba | apply Xbn | apply Xbd | refine Xbe ?_ GE101.out) | exact HB.out)) hb); have n2_ := Xam (hbox); have n3_ := Xam ((by rw [hg]; exact (Xbs (by repeat (first | (with_reducible first | exact HB.out | apply Xba | apply Xbn | apply Xbd | refine Xbe ?_ GE101.out) | exact HB.out))) : w.heap.size ≤ gb102)); have n4_ := Xam ((by rw [hg]; exact (Xbs (by repeat (first | (with_reducible first | exact HB.out | apply Xba | apply Xbn | apply Xbd | refine Xbe ?_ GE101.out) | exact HB.out))) : w.heap.size ≤ gb102)); have n5_ := Xam ((by rw [hg]; exact Nat.ne_of_lt (Xbl (g := gb101) (o := .cells #[.int .i64 a0_0, .int .i64 a0_1, .slice A0_2 l0_2.length c0_2, .slice A0_3 l0_3.length c0_3, .int .i64 a0_4] 155 (0, 0)) (by (with_reducible repeat (first | refine Xkn ?_ _ | refine Xkd ?_ | refine Xka ?_ _)); exact BK101.out)) : gb101 ≠ gb102)); have n6_ := Xam ((by rw [hg]; exact Nat.ne_of_gt (Xbl (g := gb101) (o := .cells #[.int .i64 a0_0, .int .i64 a0_1, .slice A0_2 l0_2.length c0_2, .slice A0_3 l0_3.length c0_3, .int .i64 a0_4] 155 (0, 0)) (by (with_reducible repeat (first | refine Xkn ?_ _ | refine Xkd ?_ | refine Xka ?_ _)); exact BK101.out)) : gb102 ≠ gb101)); clear BK101; clear HB; have BK101 := n0_; have HB := n1_; have BK102 := n2_; have GW102 := n3_; have GE102 := n4_; have NB101_102 := n5_; have NB102_101 := n6_; clear n0_ n1_ n2_ n3_ n4_ n5_ n6_; clear hb hbox hg; have hnb32 := NB101_102.out; have hnc32 := NB102_101.out; have hcz33_0 : w31.cell? ⟨gb101, 0, none⟩ = some (.int .i64 a0_0) := (Xbc BK101.out 0).trans rfl; have hcz33_1 : w31.cell? ⟨gb101, 1, none⟩ = some (.int .i64 a0_1) := (Xbc BK101.out 1).trans rfl; have hcz33_2 : w31.cell? ⟨gb101, 2, none⟩ = some (.slice A0_2 l0_2.length c0_2) := (Xbc BK101.out 2).trans rfl; have hcz33_3 : w31.cell? ⟨gb101, 3, none⟩ = some (.slice A0_3 l0_3.length c0_3) := (Xbc BK101.out 3).trans rfl; have hcz33_4 : w31.cell? ⟨gb101, 4, none⟩ = some (.int .i64 a0_4) := (Xbc BK101.out 4).trans rfl; have hfz33_0 := Xbf BK101.out 0; have hfz33_1 := Xbf BK101.out 1; have hfz33_2 := Xbf BK101.out 2; have hfz33_3 := Xbf BK101.out 3; have hfz33_4 := Xbf BK101.out 4; have hcz34_0 : w31.cell? ⟨gb102, 0, none⟩ = some (.int .i64 a1_0) := (Xbc BK102.out 0).trans rfl; have hcz34_1 : w31.cell? ⟨gb102, 1, none⟩ = some (.int .i64 a1_1) := (Xbc BK102.out 1).trans rfl; have hcz34_2 : w31.cell? ⟨gb102, 2, none⟩ = some (.slice A1_2 l1_2.length c1_2) := (Xbc BK102.out 2).trans rfl; have hcz34_3 : w31.cell? ⟨gb102, 3, none⟩ = some (.slice A1_3 l1_3.length c1_3) := (Xbc BK102.out 3).trans rfl; have hcz34_4 : w31.cell? ⟨gb102, 4, none⟩ = some (.int .i64 a1_4) := (Xbc BK102.out 4).trans rfl; have hfz34_0 := Xbf BK102.out 0; have hfz34_1 := Xbf BK102.out 1; have hfz34_2 := Xbf BK102.out 2; have hfz34_3 := Xbf BK102.out 3; have hfz34_4 := Xbf BK102.out 4))
      go_ret
      exact ⟨by first | rfl | (simp [errW_none, errW_some] <;> rfl) | (simp [*, errW_none, errW_some] <;> rfl), by repeat (first | (with_reducible first | exact HB.out | apply Xba | apply Xbn | apply Xbd | refine Xbe ?_ GE101.out | refine Xbe ?_ GE102.out) | exact HB.out)⟩
  · rw [if_neg c3] at H
    have c3b0 : (a0_0 == a1_0) = false := beq_eq_false_iff_ne.mpr c3
    have c3b1 : (a0_0 != a1_0) = true := bne_iff_ne.mpr c3
    obtain rfl := Option.some.inj H
    go_enter Try.func134, Try.ntmps134
    go_wp2_with (first | ((with_reducible refine gate_dst (N := 2) rfl ?_); refine box_event ?hg (N := 2) ?hd (cs := #[.int .i64 a0_0, .int .i64 a0_1, .slice A0_2 l0_2.length c0_2, .slice A0_3 l0_3.length c0_3, .int .i64 a0_4]) (t := 155) ?hr ?_; (case hd => rfl); (case hg => rfl); (case hr => first | (go_simp; done) | (go_simp; rfl)); intro gb101 hg w35 hbox hb; have n0_ := Xam (Xbt (by repeat (first | (with_reducible first | exact HB.out | apply Xba | apply Xbn | apply Xbd) | exact HB.out)) hb); have n1_ := Xam (hbox); have n2_ := Xam ((by rw [hg]; exact (Xbs (by repeat (first | (with_reducible first | exact HB.out | apply Xba | apply Xbn | apply Xbd) | exact HB.out))) : w.heap.size ≤ gb101)); have n3_ := Xam ((by rw [hg]; exact (Xbs (by repeat (first | (with_reducible first | exact HB.out | apply Xba | apply Xbn | apply Xbd) | exact HB.out))) : w.heap.size ≤ gb101)); clear HB; have HB := n0_; have BK101 := n1_; have GW101 := n2_; have GE101 := n3_; clear n0_ n1_ n2_ n3_; clear hb hbox hg) | ((with_reducible refine gate_dst (N := 3) rfl ?_); refine box_event ?hg (N := 3) ?hd (cs := #[.int .i64 a1_0, .int .i64 a1_1, .slice A1_2 l1_2.length c1_2, .slice A1_3 l1_3.length c1_3, .int .i64 a1_4]) (t := 155) ?hr ?_; (case hd => rfl); (case hg => rfl); (case hr => first | (go_simp; done) | (go_simp; rfl)); intro gb102 hg w36 hbox hb; have n0_ := Xam (Xbb (g := gb101) (o := .cells #[.int .i64 a0_0, .int .i64 a0_1, .slice A0_2 l0_2.length c0_2, .slice A0_3 l0_3.length c0_3, .int .i64 a0_4] 155 (0, 0)) (by (with_reducible repeat (first | refine Xkn ?_ _ | refine Xkd ?_ | refine Xka ?_ _)); exact BK101.out) hb); have n1_ := Xam (Xbt (by repeat (first | (with_reducible first | exact HB.out | apply Xba | apply Xbn | apply Xbd | refine Xbe ?_ GE101.out) | exact HB.out)) hb); have n2_ := Xam (hbox); have n3_ := Xam ((by rw [hg]; exact (Xbs (by repeat (first | (with_reducible first | exact HB.out | apply Xba | apply Xbn | apply Xbd | refine Xbe ?_ GE101.out) | exact HB.out))) : w.heap.size ≤ gb102)); have n4_ := Xam ((by rw [hg]; exact (Xbs (by repeat (first | (with_reducible first | exact HB.out | apply Xba | apply Xbn | apply Xbd | refine Xbe ?_ GE101.out) | exact HB.out))) : w.heap.size ≤ gb102)); have n5_ := Xam ((by rw [hg]; exact Nat.ne_of_lt (Xbl (g := gb101) (o := .cells #[.int .i64 a0_0, .int .i64 a0_1, .slice A0_2 l0_2.length c0_2, .slice A0_3 l0_3.length c0_3, .int .i64 a0_4] 155 (0, 0)) (by (with_reducible repeat (first | refine Xkn ?_ _ | refine Xkd ?_ | refine Xka ?_ _)); exact BK101.out)) : gb101 ≠ gb102)); have n6_ := Xam ((by rw [hg]; exact Nat.ne_of_gt (Xbl (g := gb101) (o := .cells #[.int .i64 a0_0, .int .i64 a0_1, .slice A0_2 l0_2.length c0_2, .slice A0_3 l0_3.length c0_3, .int .i64 a0_4] 155 (0, 0)) (by (with_reducible repeat (first | refine Xkn ?_ _ | refine Xkd ?_ | refine Xka ?_ _)); exact BK101.out)) : gb102 ≠ gb101)); clear BK101; clear HB; have BK101 := n0_; have HB := n1_; have BK102 := n2_; have GW102 := n3_; have GE102 := n4_; have NB101_102 := n5_; have NB102_101 := n6_; clear n0_ n1_ n2_ n3_ n4_ n5_ n6_; clear hb hbox hg; have hnb37 := NB101_102.out; have hnc37 := NB102_101.out; have hcz38_0 : w36.cell? ⟨gb101, 0, none⟩ = some (.int .i64 a0_0) := (Xbc BK101.out 0).trans rfl; have hcz38_1 : w36.cell? ⟨gb101, 1, none⟩ = some (.int .i64 a0_1) := (Xbc BK101.out 1).trans rfl; have hcz38_2 : w36.cell? ⟨gb101, 2, none⟩ = some (.slice A0_2 l0_2.length c0_2) := (Xbc BK101.out 2).trans rfl; have hcz38_3 : w36.cell? ⟨gb101, 3, none⟩ = some (.slice A0_3 l0_3.length c0_3) := (Xbc BK101.out 3).trans rfl; have hcz38_4 : w36.cell? ⟨gb101, 4, none⟩ = some (.int .i64 a0_4) := (Xbc BK101.out 4).trans rfl; have hfz38_0 := Xbf BK101.out 0; have hfz38_1 := Xbf BK101.out 1; have hfz38_2 := Xbf BK101.out 2; have hfz38_3 := Xbf BK101.out 3; have hfz38_4 := Xbf BK101.out 4; have hcz39_0 : w36.cell? ⟨gb102, 0, none⟩ = some (.int .i64 a1_0) := (Xbc BK102.out 0).trans rfl; have hcz39_1 : w36.cell? ⟨gb102, 1, none⟩ = some (.int .i64 a1_1) := (Xbc BK102.out 1).trans rfl; have hcz39_2 : w36.cell? ⟨gb102, 2, none⟩ = some (.slice A1_2 l1_2.length c1_2) := (Xbc BK102.out 2).trans rfl; have hcz39_3 : w36.cell? ⟨gb102, 3, none⟩ = some (.slice A1_3 l1_3.length c1_3) := (Xbc BK102.out 3).trans rfl; have hcz39_4 : w36.cell? ⟨gb102, 4, none⟩ = some (.int .i64 a1_4) := (Xbc BK102.out 4).trans rfl; have hfz39_0 := Xbf BK102.out 0; have hfz39_1 := Xbf BK102.out 1; have hfz39_2 := Xbf BK102.out 2; have hfz39_3 := Xbf BK102.out 3; have hfz39_4 := Xbf BK102.out 4))
    go_ret
    exact ⟨by first | rfl | (simp [errW_none, errW_some] <;> rfl) | (simp [*, errW_none, errW_some] <;> rfl), by repeat (first | (with_reducible first | exact HB.out | apply Xba | apply Xbn | apply Xbd | refine Xbe ?_ GE101.out | refine Xbe ?_ GE102.out) | exact HB.out)⟩

/-! ### laws_eqSignedAnswerS: function 38 -/
def laws_eqSignedAnswerS.l0 : Nat → List (S155) → List (S155) → Int → Option (Bool)
  | 0, _, _, _ => none
  | k + 1, x0, x1, x5 => if x5 < (x0.length : Int) then (if 0 ≤ x5 then (if x5 < (x1.length : Int) then ((laws_eqSignedAnswer.f k ((rd_T155 x0 x5).f0) ((rd_T155 x0 x5).f1) ((rd_T155 x0 x5).f2) ((rd_T155 x0 x5).f3) ((rd_T155 x0 x5).f4) ((rd_T155 x1 x5).f0) ((rd_T155 x1 x5).f1) ((rd_T155 x1 x5).f2) ((rd_T155 x1 x5).f3) ((rd_T155 x1 x5).f4)).bind fun t103 => (if t103 = true then (laws_eqSignedAnswerS.l0 k x0 x1 (wrap64 (x5 + 1))) else (some false))) else (none)) else (none)) else (some true)
def laws_eqSignedAnswerS.f (k : Nat) (l0 : List (S155)) (l1 : List (S155)) : Option (Bool) := if (l0.length : Int) = (l1.length : Int) then (laws_eqSignedAnswerS.l0 k l0 l1 0) else (some false)
theorem laws_eqSignedAnswerS.mono_l : ∀ k, (∀ y0 y1 y2, LeO (laws_eqSignedAnswerS.l0 k y0 y1 y2) (laws_eqSignedAnswerS.l0 (k + 1) y0 y1 y2))
  | 0 => fun _ _ _ r h => by simp [laws_eqSignedAnswerS.l0] at h
  | k + 1 => by
    have ih0 := laws_eqSignedAnswerS.mono_l k
    · intro y0 y1 y2
      unfold laws_eqSignedAnswerS.l0
      repeat' first
      | (with_reducible exact ih0 _ _ _)
      | (with_reducible exact laws_eqSignedAnswer.mono _ _ _ _ _ _ _ _ _ _ _)
      | (with_reducible exact LeO.refl _)
      | (with_reducible exact LeO.none _)
      | (with_reducible refine LeO.ite ?_ ?_)
      | (with_reducible refine LeO.bind ?_ (fun _ => ?_))
      | exact ih0 _ _ _
      | exact laws_eqSignedAnswer.mono _ _ _ _ _ _ _ _ _ _ _
      | exact LeO.none _
      | refine LeO.ite ?_ ?_
      | refine LeO.bind ?_ (fun _ => ?_)
theorem laws_eqSignedAnswerS.mono : ∀ a0 a1 k, LeO (laws_eqSignedAnswerS.f k a0 a1) (laws_eqSignedAnswerS.f (k + 1) a0 a1) := by
  intro a0 a1 k
  have ih0 := laws_eqSignedAnswerS.mono_l k
  unfold laws_eqSignedAnswerS.f
  repeat' first
      | (with_reducible exact ih0 _ _ _)
      | (with_reducible exact laws_eqSignedAnswer.mono _ _ _ _ _ _ _ _ _ _ _)
      | (with_reducible exact LeO.refl _)
      | (with_reducible exact LeO.none _)
      | (with_reducible refine LeO.ite ?_ ?_)
      | (with_reducible refine LeO.bind ?_ (fun _ => ?_))
      | exact ih0 _ _ _
      | exact laws_eqSignedAnswer.mono _ _ _ _ _ _ _ _ _ _ _
      | exact LeO.none _
      | refine LeO.ite ?_ ?_
      | refine LeO.bind ?_ (fun _ => ?_)
def laws_eqSignedAnswerS.T6 : Bool × List (List Nat × List Nat) := (true, [([], []), ([], []), ([0, 1], [0, 1]), ([2], [2]), ([], []), ([], []), ([4, 5], [4, 5]), ([6], [6]), ([3, 7], [3, 7]), ([8], [8])])
def laws_eqSignedAnswerS.B6 : List Nat := [0, 0, 3, 7, 0, 0, 48, 112, 255, 511]
theorem laws_eqSignedAnswerS.tab6 : rtab .any (opsOf Try.f38 6) = laws_eqSignedAnswerS.T6 := by kernel_rfl
theorem laws_eqSignedAnswerS.bits6 : waitsOk laws_eqSignedAnswerS.T6.2 laws_eqSignedAnswerS.B6 = true := by kernel_rfl
set_option maxHeartbeats 8000000 in
set_option maxRecDepth 100000 in
theorem laws_eqSignedAnswerS.calls (k : Nat) (A0 : Option Addr) (c0 : Nat) (l0 : List (S155)) (A1 : Option Addr) (c1 : Nat) (l1 : List (S155)) (r : Bool) (w : World) (hr0 : Kd.C k155 w A0 l0.length l0) (hc0 : l0.length ≤ c0) (hr1 : Kd.C k155 w A1 l1.length l1) (hc1 : l1.length ≤ c1) (h : laws_eqSignedAnswerS.f k l0 l1 = some r) :
    Calls Try.prog 38 #[.slice A0 l0.length c0, .slice A1 l1.length c1] w fun e w' => e = .returned (.bool r) ∧ Below w.heap.size w w' := by
  have hu155 := Try.underlying155
  have HR0 := Xam hr0
  have HC0 := Xam hc0
  clear hr0 hc0
  have HR1 := Xam hr1
  have HC1 := Xam hc1
  clear hr1 hc1
  have HB := Xam (Below.refl w.heap.size w)
  have H : (if (l0.length : Int) = (l1.length : Int) then (laws_eqSignedAnswerS.l0 k l0 l1 0) else (some false)) = some r := h
  clear h
  by_cases c3 : (l0.length : Int) = (l1.length : Int)
  · rw [if_pos c3] at H
    have c3b0 : ((l0.length : Int) == (l1.length : Int)) = true := beq_iff_eq.mpr c3
    have c3b1 : ((l0.length : Int) != (l1.length : Int)) = false := bne_eq_false_iff_eq.mpr c3
    have c3b2 : (l0.length == l1.length) = true := by first | simpa using c3 | (simp at c3 ⊢; omega)
    clear c3
    have H' := Xam H
    clear H
    go_enter Try.func38, Try.ntmps38
    go_wp2
    go_loopg [5] k (fun kq v5 w' => ∃ (x5_1 : Int), v5 = .int .i64 x5_1 ∧ Aside0 (laws_eqSignedAnswerS.l0 kq l0 l1 x5_1 = some r) ∧ Aside0 (kq ≤ k) ∧ Aside0 (Below w.heap.size w w'))
    case atStart => exact ⟨(0), (by first | rfl | (simp; done) | (simp [*]; done)), H', ⟨Nat.le_refl _⟩, ⟨by repeat (first | (with_reducible first | exact HB.out | apply Xba | apply Xbn | apply Xbd) | exact HB.out)⟩⟩
    case round =>
      clear H'
      try clear c1
      try clear p2
      try clear c3
      try clear c3b0
      try clear c3b1
      try clear c3b2
      obtain ⟨x5_1, rfl, HA, HK1, HB⟩ := hrel
      cases gk with
      | zero => exact absurd HA.out (by simp [laws_eqSignedAnswerS.l0])
      | succ k1 =>
        have H := HA.out
        clear HA
        simp only [laws_eqSignedAnswerS.l0] at H
        by_cases c4 : x5_1 < (l0.length : Int)
        · rw [if_pos c4] at H
          have c4b0 : decide (x5_1 < (l0.length : Int)) = true := decide_eq_true c4
          clear c4
          by_cases c5 : 0 ≤ x5_1
          · rw [if_pos c5] at H
            have c5b0 : decide (0 ≤ x5_1) = true := decide_eq_true c5
            clear c5
            by_cases c6 : x5_1 < (l1.length : Int)
            · rw [if_pos c6] at H
              have c6b0 : decide (x5_1 < (l1.length : Int)) = true := decide_eq_true c6
              clear c6
              replace H := Option.bind_eq_some_iff.mp H
              obtain ⟨t103, A70, H⟩ := H
              replace H : (if t103 = true then (laws_eqSignedAnswerS.l0 k1 l0 l1 (wrap64 (x5_1 + 1))) else (some false)) = some r := H
              have A7 := Xam A70
              clear A70
              by_cases c8 : t103 = true
              · subst c8
                have H1 : (laws_eqSignedAnswerS.l0 k1 l0 l1 (wrap64 (x5_1 + 1))) = some r := by rw [if_pos rfl] at H; exact H
                clear H
                have H := H1
                clear H1
                have H' := Xam H
                clear H
                try go_wp2
                have n0_ := Xam (Xbd HB.out)
                clear HB
                have HB := n0_
                clear n0_
                have p101 : 0 ≤ (x5_1 : Int) := of_decide_eq_true (by first | (with_reducible assumption) | assumption)
                have q101 : x5_1 < (l0.length : Int) := of_decide_eq_true (by first | (with_reducible assumption) | assumption)
                obtain ⟨ad101, A101_2, c101_2, A101_3, c101_3, e101, hx101_0, hx101_1, hx101_2, hx101_3, hx101_4, hl101_2, hi101_2, hl101_3, hi101_3⟩ := at_T155 HR0.out x5_1 p101 q101
                have hw101_4 := hx101_4
                have hw101_3 := hx101_3
                have hw101_2 := hx101_2
                have hw101_1 := hx101_1
                have hw101_0 := hx101_0
                cases e101
                replace hx101_0 := (HB.out.cell (World.block_lt_of_cell? w _ hx101_0)).trans hx101_0
                replace hx101_1 := (HB.out.cell (World.block_lt_of_cell? w _ hx101_1)).trans hx101_1
                replace hx101_2 := (HB.out.cell (World.block_lt_of_cell? w _ hx101_2)).trans hx101_2
                replace hx101_3 := (HB.out.cell (World.block_lt_of_cell? w _ hx101_3)).trans hx101_3
                replace hx101_4 := (HB.out.cell (World.block_lt_of_cell? w _ hx101_4)).trans hx101_4
                have HR101_2 := Xam hi101_2
                have HC101_2 := Xam hl101_2
                clear hi101_2 hl101_2
                have HR101_3 := Xam hi101_3
                have HC101_3 := Xam hl101_3
                clear hi101_3 hl101_3
                replace p101 := eq_true p101
                replace q101 := eq_true q101
                have p102 : 0 ≤ (x5_1 : Int) := of_decide_eq_true (by first | (with_reducible assumption) | assumption)
                have q102 : x5_1 < (l1.length : Int) := of_decide_eq_true (by first | (with_reducible assumption) | assumption)
                obtain ⟨ad102, A102_2, c102_2, A102_3, c102_3, e102, hx102_0, hx102_1, hx102_2, hx102_3, hx102_4, hl102_2, hi102_2, hl102_3, hi102_3⟩ := at_T155 HR1.out x5_1 p102 q102
                have hw102_4 := hx102_4
                have hw102_3 := hx102_3
                have hw102_2 := hx102_2
                have hw102_1 := hx102_1
                have hw102_0 := hx102_0
                cases e102
                replace hx102_0 := (HB.out.cell (World.block_lt_of_cell? w _ hx102_0)).trans hx102_0
                replace hx102_1 := (HB.out.cell (World.block_lt_of_cell? w _ hx102_1)).trans hx102_1
                replace hx102_2 := (HB.out.cell (World.block_lt_of_cell? w _ hx102_2)).trans hx102_2
                replace hx102_3 := (HB.out.cell (World.block_lt_of_cell? w _ hx102_3)).trans hx102_3
                replace hx102_4 := (HB.out.cell (World.block_lt_of_cell? w _ hx102_4)).trans hx102_4
                have HR102_2 := Xam hi102_2
                have HC102_2 := Xam hl102_2
                clear hi102_2 hl102_2
                have HR102_3 := Xam hi102_3
                have HC102_3 := Xam hl102_3
                clear hi102_3 hl102_3
                replace p102 := eq_true p102
                replace q102 := eq_true q102
                refine start_ (n := 10) (S := fun w' => w'.cell? (ad101.add ((x5_1).toNat * 5)) = some (.int .i64 ((rd_T155 l0 x5_1).f0)) ∧ w'.cell? ⟨(ad101.add ((x5_1).toNat * 5)).block, (ad101.add ((x5_1).toNat * 5)).off + 1, none⟩ = some (.int .i64 ((rd_T155 l0 x5_1).f1)) ∧ w'.cell? ⟨(ad101.add ((x5_1).toNat * 5)).block, (ad101.add ((x5_1).toNat * 5)).off + 2, none⟩ = some (.slice A101_2 ((rd_T155 l0 x5_1).f2).length c101_2) ∧ w'.cell? ⟨(ad101.add ((x5_1).toNat * 5)).block, (ad101.add ((x5_1).toNat * 5)).off + 3, none⟩ = some (.slice A101_3 ((rd_T155 l0 x5_1).f3).length c101_3) ∧ w'.cell? ⟨(ad101.add ((x5_1).toNat * 5)).block, (ad101.add ((x5_1).toNat * 5)).off + 4, none⟩ = some (.int .i64 ((rd_T155 l0 x5_1).f4)) ∧ w'.cell? (ad102.add ((x5_1).toNat * 5)) = some (.int .i64 ((rd_T155 l1 x5_1).f0)) ∧ w'.cell? ⟨(ad102.add ((x5_1).toNat * 5)).block, (ad102.add ((x5_1).toNat * 5)).off + 1, none⟩ = some (.int .i64 ((rd_T155 l1 x5_1).f1)) ∧ w'.cell? ⟨(ad102.add ((x5_1).toNat * 5)).block, (ad102.add ((x5_1).toNat * 5)).off + 2, none⟩ = some (.slice A102_2 ((rd_T155 l1 x5_1).f2).length c102_2) ∧ w'.cell? ⟨(ad102.add ((x5_1).toNat * 5)).block, (ad102.add ((x5_1).toNat * 5)).off + 3, none⟩ = some (.slice A102_3 ((rd_T155 l1 x5_1).f3).length c102_3) ∧ w'.cell? ⟨(ad102.add ((x5_1).toNat * 5)).block, (ad102.add ((x5_1).toNat * 5)).off + 4, none⟩ = some (.int .i64 ((rd_T155 l1 x5_1).f4))) (ds := []) #[false, false, false, false, false, false, false, false, false, false] (by kernel_rfl) rfl rfl ⟨((HB.out.cell (World.block_lt_of_cell? w _ hw101_0)).trans hw101_0), ((HB.out.cell (World.block_lt_of_cell? w _ hw101_1)).trans hw101_1), ((HB.out.cell (World.block_lt_of_cell? w _ hw101_2)).trans hw101_2), ((HB.out.cell (World.block_lt_of_cell? w _ hw101_3)).trans hw101_3), ((HB.out.cell (World.block_lt_of_cell? w _ hw101_4)).trans hw101_4), ((HB.out.cell (World.block_lt_of_cell? w _ hw102_0)).trans hw102_0), ((HB.out.cell (World.block_lt_of_cell? w _ hw102_1)).trans hw102_1), ((HB.out.cell (World.block_lt_of_cell? w _ hw102_2)).trans hw102_2), ((HB.out.cell (World.block_lt_of_cell? w _ hw102_3)).trans hw102_3), ((HB.out.cell (World.block_lt_of_cell? w _ hw102_4)).trans hw102_4)⟩ (fun hHeld => ?_); refine with_tabW laws_eqSignedAnswerS.tab6 laws_eqSignedAnswerS.bits6 (fun HT_ HW_ => ?_)
                generalize wr.drew = w9 at HB HR101_2 HR101_3 HR102_2 HR102_3 hx101_0 hx101_1 hx101_2 hx101_3 hx101_4 hx102_0 hx102_1 hx102_2 hx102_3 hx102_4 hHeld ⊢
                refine pure_ (i := 0) (N := some 17) (v := ?_) (a' := ?_) #[true, false, false, false, false, false, false, false, false, false] rfl rfl (any_of HT_.out (by kernel_rfl)) (fun _ _ _ h => h) (Or.inl ⟨by rfl, ?_⟩) ?_ ?_
                rotate_left
                · intro w'
                  go_simp
                  with_reducible rfl
                rotate_left
                · simp only [Act.put, List.setIfInBounds_toArray, List.set_cons_zero, List.set_cons_succ, i64_w, i32_w]
                  rfl
                refine pure_ (i := 1) (N := some 18) (v := ?_) (a' := ?_) #[true, true, false, false, false, false, false, false, false, false] rfl rfl (any_of HT_.out (by kernel_rfl)) (fun _ _ _ h => h) (Or.inl ⟨by rfl, ?_⟩) ?_ ?_
                rotate_left
                · intro w'
                  go_simp
                  with_reducible rfl
                rotate_left
                · simp only [Act.put, List.setIfInBounds_toArray, List.set_cons_zero, List.set_cons_succ, i64_w, i32_w]
                  rfl
                refine pure_ (i := 2) (N := some 19) (v := ?_) (a' := ?_) #[true, true, true, false, false, false, false, false, false, false] rfl rfl (any_of HT_.out (by kernel_rfl)) (fun _ _ _ h => h) (Or.inl ⟨by rfl, ?_⟩) ?_ ?_
                rotate_left
                · intro w'
                  go_simp
                  with_reducible rfl
                rotate_left
                · simp only [Act.put, List.setIfInBounds_toArray, List.set_cons_zero, List.set_cons_succ, i64_w, i32_w]
                  rfl
                refine pure_ (i := 4) (N := some 21) (v := ?_) (a' := ?_) #[true, true, true, false, true, false, false, false, false, false] rfl rfl (any_of HT_.out (by kernel_rfl)) (fun _ _ _ h => h) (Or.inl ⟨by rfl, ?_⟩) ?_ ?_
                rotate_left
                · intro w'
                  go_simp
                  with_reducible rfl
                rotate_left
                · simp only [Act.put, List.setIfInBounds_toArray, List.set_cons_zero, List.set_cons_succ, i64_w, i32_w]
                  rfl
                refine pure_ (i := 5) (N := some 22) (v := ?_) (a' := ?_) #[true, true, true, false, true, true, false, false, false, false] rfl rfl (any_of HT_.out (by kernel_rfl)) (fun _ _ _ h => h) (Or.inl ⟨by rfl, ?_⟩) ?_ ?_
                rotate_left
                · intro w'
                  go_simp
                  with_reducible rfl
                rotate_left
                · simp only [Act.put, List.setIfInBounds_toArray, List.set_cons_zero, List.set_cons_succ, i64_w, i32_w]
                  rfl
                refine pure_ (i := 6) (N := some 23) (v := ?_) (a' := ?_) #[true, true, true, false, true, true, true, false, false, false] rfl rfl (any_of HT_.out (by kernel_rfl)) (fun _ _ _ h => h) (Or.inl ⟨by rfl, ?_⟩) ?_ ?_
                rotate_left
                · intro w'
                  go_simp
                  with_reducible rfl
                rotate_left
                · simp only [Act.put, List.setIfInBounds_toArray, List.set_cons_zero, List.set_cons_succ, i64_w, i32_w]
                  rfl
                refine take_ (i := 3) (N := some 20) (v := ?_) (a' := ?_) #[true, true, true, true, true, true, true, false, false, false] rfl rfl (take_ofW HT_.out HW_.out (by kernel_rfl)) (fun _ _ _ h => h) (Or.inl ⟨by rfl, ?_⟩) hHeld ?_ ?_
                rotate_left
                · rintro w' ⟨s0, s1, s2, s3, s4, s5, s6, s7, s8, s9⟩
                  go_simp
                  with_reducible rfl
                rotate_left
                · simp only [Act.put, List.setIfInBounds_toArray, List.set_cons_zero, List.set_cons_succ, i64_w, i32_w]
                  rfl
                refine take_ (i := 7) (N := some 24) (v := ?_) (a' := ?_) #[true, true, true, true, true, true, true, true, false, false] rfl rfl (take_ofW HT_.out HW_.out (by kernel_rfl)) (fun _ _ _ h => h) (Or.inl ⟨by rfl, ?_⟩) hHeld ?_ ?_
                rotate_left
                · rintro w' ⟨s0, s1, s2, s3, s4, s5, s6, s7, s8, s9⟩
                  go_simp
                  with_reducible rfl
                rotate_left
                · simp only [Act.put, List.setIfInBounds_toArray, List.set_cons_zero, List.set_cons_succ, i64_w, i32_w]
                  rfl
                refine one_ (i := 8) (N := some 25) #[true, true, true, true, true, true, true, true, true, false] rfl rfl (one_of HT_.out (by kernel_rfl)) (by decide) (fun K hK => ?_)
                refine goes_ Try.func134 (by kernel_rfl) rfl #[.agg #[.int .i64 ((rd_T155 l0 x5_1).f0), .int .i64 ((rd_T155 l0 x5_1).f1), .slice A101_2 ((rd_T155 l0 x5_1).f2).length c101_2, .slice A101_3 ((rd_T155 l0 x5_1).f3).length c101_3, .int .i64 ((rd_T155 l0 x5_1).f4)], .agg #[.int .i64 ((rd_T155 l1 x5_1).f0), .int .i64 ((rd_T155 l1 x5_1).f1), .slice A102_2 ((rd_T155 l1 x5_1).f2).length c102_2, .slice A102_3 ((rd_T155 l1 x5_1).f3).length c102_3, .int .i64 ((rd_T155 l1 x5_1).f4)]] (by rfl) rfl rfl (by (try simp only [List.map_toArray, List.map_cons, List.map_nil]); first | done | rfl | (simp only [List.length_drop, List.length_take]; rfl)) ?_
                with_reducible refine (laws_eqSignedAnswer.calls k1 ((rd_T155 l0 x5_1).f0) ((rd_T155 l0 x5_1).f1) _ _ ((rd_T155 l0 x5_1).f2) _ _ ((rd_T155 l0 x5_1).f3) ((rd_T155 l0 x5_1).f4) ((rd_T155 l1 x5_1).f0) ((rd_T155 l1 x5_1).f1) _ _ ((rd_T155 l1 x5_1).f2) _ _ ((rd_T155 l1 x5_1).f3) ((rd_T155 l1 x5_1).f4) true _ ?side1 ?side2 ?side3 ?side4 ?side5 ?side6 ?side7 ?side8 A7.out).mono ?_
                (case side1 => repeat (first | exact (Kd.C_below HR101_2.out HB.out) | (with_reducible refine Xca ?_ _) | (with_reducible refine Xcn ?_ _) | (with_reducible refine Xcd ?_)))
                (case side2 => exact HC101_2.out)
                (case side3 => repeat (first | exact (Kd.C_below HR101_3.out HB.out) | (with_reducible refine Xca ?_ _) | (with_reducible refine Xcn ?_ _) | (with_reducible refine Xcd ?_)))
                (case side4 => exact HC101_3.out)
                (case side5 => repeat (first | exact (Kd.C_below HR102_2.out HB.out) | (with_reducible refine Xca ?_ _) | (with_reducible refine Xcn ?_ _) | (with_reducible refine Xcd ?_)))
                (case side6 => exact HC102_2.out)
                (case side7 => repeat (first | exact (Kd.C_below HR102_3.out HB.out) | (with_reducible refine Xca ?_ _) | (with_reducible refine Xcn ?_ _) | (with_reducible refine Xcd ?_)))
                (case side8 => exact HC102_3.out)
                rintro e w10 ⟨rfl, hb⟩
                refine ⟨_, rfl, ?_⟩
                have n0_ := Xam (Xbt (by repeat (first | (with_reducible first | exact HB.out | apply Xba | apply Xbn | apply Xbd) | exact HB.out)) hb)
                clear HB
                have HB := n0_
                clear n0_
                (try clear hb)
                (try clear hb2)
                (try clear hk)
                (try clear hi)
                refine hK.out _ _ ⟨((HB.out.cell (World.block_lt_of_cell? w _ hw101_0)).trans hw101_0), ((HB.out.cell (World.block_lt_of_cell? w _ hw101_1)).trans hw101_1), ((HB.out.cell (World.block_lt_of_cell? w _ hw101_2)).trans hw101_2), ((HB.out.cell (World.block_lt_of_cell? w _ hw101_3)).trans hw101_3), ((HB.out.cell (World.block_lt_of_cell? w _ hw101_4)).trans hw101_4), ((HB.out.cell (World.block_lt_of_cell? w _ hw102_0)).trans hw102_0), ((HB.out.cell (World.block_lt_of_cell? w _ hw102_1)).trans hw102_1), ((HB.out.cell (World.block_lt_of_cell? w _ hw102_2)).trans hw102_2), ((HB.out.cell (World.block_lt_of_cell? w _ hw102_3)).trans hw102_3), ((HB.out.cell (World.block_lt_of_cell? w _ hw102_4)).trans hw102_4)⟩ (fun hHeld => ?_)
                clear hK K
                refine norm_ (a' := ?_) ?_ ?_
                rotate_left
                · show Act.put _ (some 25) _ = _
                  simp only [Act.put, List.setIfInBounds_toArray, List.set_cons_zero, List.set_cons_succ, i64_w, i32_w]
                  rfl
                refine pure_ (i := 9) (N := some 26) (v := ?_) (a' := ?_) #[true, true, true, true, true, true, true, true, true, true] rfl rfl (any_of HT_.out (by kernel_rfl)) (fun _ _ _ h => h) (Or.inl ⟨by rfl, ?_⟩) ?_ ?_
                rotate_left
                · intro w'
                  go_simp
                  with_reducible rfl
                rotate_left
                · simp only [Act.put, List.setIfInBounds_toArray, List.set_cons_zero, List.set_cons_succ, i64_w, i32_w]
                  rfl
                refine done_ (done_of HT_.out (by kernel_rfl)) ?_
                try go_wp2
                go_roundg k1
                case measure => have := HK1.out; omega
                case rel => exact ⟨(wrap64 (x5_1 + 1)), (by first | rfl | (simp; done) | (simp [*]; done)), H', ⟨by have := HK1.out; omega⟩, ⟨by repeat (first | (with_reducible first | exact HB.out | apply Xba | apply Xbn | apply Xbd) | exact HB.out)⟩⟩
              · replace c8 := Bool.eq_false_iff.mpr c8
                subst c8
                have H1 : (some false) = some r := by rw [if_neg (show ¬ (false = true) by decide)] at H; exact H
                clear H
                have H := H1
                clear H1
                obtain rfl := Option.some.inj H
                try go_wp2
                have n0_ := Xam (Xbd HB.out)
                clear HB
                have HB := n0_
                clear n0_
                have p101 : 0 ≤ (x5_1 : Int) := of_decide_eq_true (by first | (with_reducible assumption) | assumption)
                have q101 : x5_1 < (l0.length : Int) := of_decide_eq_true (by first | (with_reducible assumption) | assumption)
                obtain ⟨ad101, A101_2, c101_2, A101_3, c101_3, e101, hx101_0, hx101_1, hx101_2, hx101_3, hx101_4, hl101_2, hi101_2, hl101_3, hi101_3⟩ := at_T155 HR0.out x5_1 p101 q101
                have hw101_4 := hx101_4
                have hw101_3 := hx101_3
                have hw101_2 := hx101_2
                have hw101_1 := hx101_1
                have hw101_0 := hx101_0
                cases e101
                replace hx101_0 := (HB.out.cell (World.block_lt_of_cell? w _ hx101_0)).trans hx101_0
                replace hx101_1 := (HB.out.cell (World.block_lt_of_cell? w _ hx101_1)).trans hx101_1
                replace hx101_2 := (HB.out.cell (World.block_lt_of_cell? w _ hx101_2)).trans hx101_2
                replace hx101_3 := (HB.out.cell (World.block_lt_of_cell? w _ hx101_3)).trans hx101_3
                replace hx101_4 := (HB.out.cell (World.block_lt_of_cell? w _ hx101_4)).trans hx101_4
                have HR101_2 := Xam hi101_2
                have HC101_2 := Xam hl101_2
                clear hi101_2 hl101_2
                have HR101_3 := Xam hi101_3
                have HC101_3 := Xam hl101_3
                clear hi101_3 hl101_3
                replace p101 := eq_true p101
                replace q101 := eq_true q101
                have p102 : 0 ≤ (x5_1 : Int) := of_decide_eq_true (by first | (with_reducible assumption) | assumption)
                have q102 : x5_1 < (l1.length : Int) := of_decide_eq_true (by first | (with_reducible assumption) | assumption)
                obtain ⟨ad102, A102_2, c102_2, A102_3, c102_3, e102, hx102_0, hx102_1, hx102_2, hx102_3, hx102_4, hl102_2, hi102_2, hl102_3, hi102_3⟩ := at_T155 HR1.out x5_1 p102 q102
                have hw102_4 := hx102_4
                have hw102_3 := hx102_3
                have hw102_2 := hx102_2
                have hw102_1 := hx102_1
                have hw102_0 := hx102_0
                cases e102
                replace hx102_0 := (HB.out.cell (World.block_lt_of_cell? w _ hx102_0)).trans hx102_0
                replace hx102_1 := (HB.out.cell (World.block_lt_of_cell? w _ hx102_1)).trans hx102_1
                replace hx102_2 := (HB.out.cell (World.block_lt_of_cell? w _ hx102_2)).trans hx102_2
                replace hx102_3 := (HB.out.cell (World.block_lt_of_cell? w _ hx102_3)).trans hx102_3
                replace hx102_4 := (HB.out.cell (World.block_lt_of_cell? w _ hx102_4)).trans hx102_4
                have HR102_2 := Xam hi102_2
                have HC102_2 := Xam hl102_2
                clear hi102_2 hl102_2
                have HR102_3 := Xam hi102_3
                have HC102_3 := Xam hl102_3
                clear hi102_3 hl102_3
                replace p102 := eq_true p102
                replace q102 := eq_true q102
                refine start_ (n := 10) (S := fun w' => w'.cell? (ad101.add ((x5_1).toNat * 5)) = some (.int .i64 ((rd_T155 l0 x5_1).f0)) ∧ w'.cell? ⟨(ad101.add ((x5_1).toNat * 5)).block, (ad101.add ((x5_1).toNat * 5)).off + 1, none⟩ = some (.int .i64 ((rd_T155 l0 x5_1).f1)) ∧ w'.cell? ⟨(ad101.add ((x5_1).toNat * 5)).block, (ad101.add ((x5_1).toNat * 5)).off + 2, none⟩ = some (.slice A101_2 ((rd_T155 l0 x5_1).f2).length c101_2) ∧ w'.cell? ⟨(ad101.add ((x5_1).toNat * 5)).block, (ad101.add ((x5_1).toNat * 5)).off + 3, none⟩ = some (.slice A101_3 ((rd_T155 l0 x5_1).f3).length c101_3) ∧ w'.cell? ⟨(ad101.add ((x5_1).toNat * 5)).block, (ad101.add ((x5_1).toNat * 5)).off + 4, none⟩ = some (.int .i64 ((rd_T155 l0 x5_1).f4)) ∧ w'.cell? (ad102.add ((x5_1).toNat * 5)) = some (.int .i64 ((rd_T155 l1 x5_1).f0)) ∧ w'.cell? ⟨(ad102.add ((x5_1).toNat * 5)).block, (ad102.add ((x5_1).toNat * 5)).off + 1, none⟩ = some (.int .i64 ((rd_T155 l1 x5_1).f1)) ∧ w'.cell? ⟨(ad102.add ((x5_1).toNat * 5)).block, (ad102.add ((x5_1).toNat * 5)).off + 2, none⟩ = some (.slice A102_2 ((rd_T155 l1 x5_1).f2).length c102_2) ∧ w'.cell? ⟨(ad102.add ((x5_1).toNat * 5)).block, (ad102.add ((x5_1).toNat * 5)).off + 3, none⟩ = some (.slice A102_3 ((rd_T155 l1 x5_1).f3).length c102_3) ∧ w'.cell? ⟨(ad102.add ((x5_1).toNat * 5)).block, (ad102.add ((x5_1).toNat * 5)).off + 4, none⟩ = some (.int .i64 ((rd_T155 l1 x5_1).f4))) (ds := []) #[false, false, false, false, false, false, false, false, false, false] (by kernel_rfl) rfl rfl ⟨((HB.out.cell (World.block_lt_of_cell? w _ hw101_0)).trans hw101_0), ((HB.out.cell (World.block_lt_of_cell? w _ hw101_1)).trans hw101_1), ((HB.out.cell (World.block_lt_of_cell? w _ hw101_2)).trans hw101_2), ((HB.out.cell (World.block_lt_of_cell? w _ hw101_3)).trans hw101_3), ((HB.out.cell (World.block_lt_of_cell? w _ hw101_4)).trans hw101_4), ((HB.out.cell (World.block_lt_of_cell? w _ hw102_0)).trans hw102_0), ((HB.out.cell (World.block_lt_of_cell? w _ hw102_1)).trans hw102_1), ((HB.out.cell (World.block_lt_of_cell? w _ hw102_2)).trans hw102_2), ((HB.out.cell (World.block_lt_of_cell? w _ hw102_3)).trans hw102_3), ((HB.out.cell (World.block_lt_of_cell? w _ hw102_4)).trans hw102_4)⟩ (fun hHeld => ?_); refine with_tabW laws_eqSignedAnswerS.tab6 laws_eqSignedAnswerS.bits6 (fun HT_ HW_ => ?_)
                generalize wr.drew = w11 at HB HR101_2 HR101_3 HR102_2 HR102_3 hx101_0 hx101_1 hx101_2 hx101_3 hx101_4 hx102_0 hx102_1 hx102_2 hx102_3 hx102_4 hHeld ⊢
                refine pure_ (i := 0) (N := some 17) (v := ?_) (a' := ?_) #[true, false, false, false, false, false, false, false, false, false] rfl rfl (any_of HT_.out (by kernel_rfl)) (fun _ _ _ h => h) (Or.inl ⟨by rfl, ?_⟩) ?_ ?_
                rotate_left
                · intro w'
                  go_simp
                  with_reducible rfl
                rotate_left
                · simp only [Act.put, List.setIfInBounds_toArray, List.set_cons_zero, List.set_cons_succ, i64_w, i32_w]
                  rfl
                refine pure_ (i := 1) (N := some 18) (v := ?_) (a' := ?_) #[true, true, false, false, false, false, false, false, false, false] rfl rfl (any_of HT_.out (by kernel_rfl)) (fun _ _ _ h => h) (Or.inl ⟨by rfl, ?_⟩) ?_ ?_
                rotate_left
                · intro w'
                  go_simp
                  with_reducible rfl
                rotate_left
                · simp only [Act.put, List.setIfInBounds_toArray, List.set_cons_zero, List.set_cons_succ, i64_w, i32_w]
                  rfl
                refine pure_ (i := 2) (N := some 19) (v := ?_) (a' := ?_) #[true, true, true, false, false, false, false, false, false, false] rfl rfl (any_of HT_.out (by kernel_rfl)) (fun _ _ _ h => h) (Or.inl ⟨by rfl, ?_⟩) ?_ ?_
                rotate_left
                · intro w'
                  go_simp
                  with_reducible rfl
                rotate_left
                · simp only [Act.put, List.setIfInBounds_toArray, List.set_cons_zero, List.set_cons_succ, i64_w, i32_w]
                  rfl
                refine pure_ (i := 4) (N := some 21) (v := ?_) (a' := ?_) #[true, true, true, false, true, false, false, false, false, false] rfl rfl (any_of HT_.out (by kernel_rfl)) (fun _ _ _ h => h) (Or.inl ⟨by rfl, ?_⟩) ?_ ?_
                rotate_left
                · intro w'
                  go_simp
                  with_reducible rfl
                rotate_left
                · simp only [Act.put, List.setIfInBounds_toArray, List.set_cons_zero, List.set_cons_succ, i64_w, i32_w]
                  rfl
                refine pure_ (i := 5) (N := some 22) (v := ?_) (a' := ?_) #[true, true, true, false, true, true, false, false, false, false] rfl rfl (any_of HT_.out (by kernel_rfl)) (fun _ _ _ h => h) (Or.inl ⟨by rfl, ?_⟩) ?_ ?_
                rotate_left
                · intro w'
                  go_simp
                  with_reducible rfl
                rotate_left
                · simp only [Act.put, List.setIfInBounds_toArray, List.set_cons_zero, List.set_cons_succ, i64_w, i32_w]
                  rfl
                refine pure_ (i := 6) (N := some 23) (v := ?_) (a' := ?_) #[true, true, true, false, true, true, true, false, false, false] rfl rfl (any_of HT_.out (by kernel_rfl)) (fun _ _ _ h => h) (Or.inl ⟨by rfl, ?_⟩) ?_ ?_
                rotate_left
                · intro w'
                  go_simp
                  with_reducible rfl
                rotate_left
                · simp only [Act.put, List.setIfInBounds_toArray, List.set_cons_zero, List.set_cons_succ, i64_w, i32_w]
                  rfl
                refine take_ (i := 3) (N := some 20) (v := ?_) (a' := ?_) #[true, true, true, true, true, true, true, false, false, false] rfl rfl (take_ofW HT_.out HW_.out (by kernel_rfl)) (fun _ _ _ h => h) (Or.inl ⟨by rfl, ?_⟩) hHeld ?_ ?_
                rotate_left
                · rintro w' ⟨s0, s1, s2, s3, s4, s5, s6, s7, s8, s9⟩
                  go_simp
                  with_reducible rfl
                rotate_left
                · simp only [Act.put, List.setIfInBounds_toArray, List.set_cons_zero, List.set_cons_succ, i64_w, i32_w]
                  rfl
                refine take_ (i := 7) (N := some 24) (v := ?_) (a' := ?_) #[true, true, true, true, true, true, true, true, false, false] rfl rfl (take_ofW HT_.out HW_.out (by kernel_rfl)) (fun _ _ _ h => h) (Or.inl ⟨by rfl, ?_⟩) hHeld ?_ ?_
                rotate_left
                · rintro w' ⟨s0, s1, s2, s3, s4, s5, s6, s7, s8, s9⟩
                  go_simp
                  with_reducible rfl
                rotate_left
                · simp only [Act.put, List.setIfInBounds_toArray, List.set_cons_zero, List.set_cons_succ, i64_w, i32_w]
                  rfl
                refine one_ (i := 8) (N := some 25) #[true, true, true, true, true, true, true, true, true, false] rfl rfl (one_of HT_.out (by kernel_rfl)) (by decide) (fun K hK => ?_)
                refine goes_ Try.func134 (by kernel_rfl) rfl #[.agg #[.int .i64 ((rd_T155 l0 x5_1).f0), .int .i64 ((rd_T155 l0 x5_1).f1), .slice A101_2 ((rd_T155 l0 x5_1).f2).length c101_2, .slice A101_3 ((rd_T155 l0 x5_1).f3).length c101_3, .int .i64 ((rd_T155 l0 x5_1).f4)], .agg #[.int .i64 ((rd_T155 l1 x5_1).f0), .int .i64 ((rd_T155 l1 x5_1).f1), .slice A102_2 ((rd_T155 l1 x5_1).f2).length c102_2, .slice A102_3 ((rd_T155 l1 x5_1).f3).length c102_3, .int .i64 ((rd_T155 l1 x5_1).f4)]] (by rfl) rfl rfl (by (try simp only [List.map_toArray, List.map_cons, List.map_nil]); first | done | rfl | (simp only [List.length_drop, List.length_take]; rfl)) ?_
                with_reducible refine (laws_eqSignedAnswer.calls k1 ((rd_T155 l0 x5_1).f0) ((rd_T155 l0 x5_1).f1) _ _ ((rd_T155 l0 x5_1).f2) _ _ ((rd_T155 l0 x5_1).f3) ((rd_T155 l0 x5_1).f4) ((rd_T155 l1 x5_1).f0) ((rd_T155 l1 x5_1).f1) _ _ ((rd_T155 l1 x5_1).f2) _ _ ((rd_T155 l1 x5_1).f3) ((rd_T155 l1 x5_1).f4) false _ ?side1 ?side2 ?side3 ?side4 ?side5 ?side6 ?side7 ?side8 A7.out).mono ?_
                (case side1 => repeat (first | exact (Kd.C_below HR101_2.out HB.out) | (with_reducible refine Xca ?_ _) | (with_reducible refine Xcn ?_ _) | (with_reducible refine Xcd ?_)))
                (case side2 => exact HC101_2.out)
                (case side3 => repeat (first | exact (Kd.C_below HR101_3.out HB.out) | (with_reducible refine Xca ?_ _) | (with_reducible refine Xcn ?_ _) | (with_reducible refine Xcd ?_)))
                (case side4 => exact HC101_3.out)
                (case side5 => repeat (first | exact (Kd.C_below HR102_2.out HB.out) | (with_reducible refine Xca ?_ _) | (with_reducible refine Xcn ?_ _) | (with_reducible refine Xcd ?_)))
                (case side6 => exact HC102_2.out)
                (case side7 => repeat (first | exact (Kd.C_below HR102_3.out HB.out) | (with_reducible refine Xca ?_ _) | (with_reducible refine Xcn ?_ _) | (with_reducible refine Xcd ?_)))
                (case side8 => exact HC102_3.out)
                rintro e w12 ⟨rfl, hb⟩
                refine ⟨_, rfl, ?_⟩
                have n0_ := Xam (Xbt (by repeat (first | (with_reducible first | exact HB.out | apply Xba | apply Xbn | apply Xbd) | exact HB.out)) hb)
                clear HB
                have HB := n0_
                clear n0_
                (try clear hb)
                (try clear hb2)
                (try clear hk)
                (try clear hi)
                refine hK.out _ _ ⟨((HB.out.cell (World.block_lt_of_cell? w _ hw101_0)).trans hw101_0), ((HB.out.cell (World.block_lt_of_cell? w _ hw101_1)).trans hw101_1), ((HB.out.cell (World.block_lt_of_cell? w _ hw101_2)).trans hw101_2), ((HB.out.cell (World.block_lt_of_cell? w _ hw101_3)).trans hw101_3), ((HB.out.cell (World.block_lt_of_cell? w _ hw101_4)).trans hw101_4), ((HB.out.cell (World.block_lt_of_cell? w _ hw102_0)).trans hw102_0), ((HB.out.cell (World.block_lt_of_cell? w _ hw102_1)).trans hw102_1), ((HB.out.cell (World.block_lt_of_cell? w _ hw102_2)).trans hw102_2), ((HB.out.cell (World.block_lt_of_cell? w _ hw102_3)).trans hw102_3), ((HB.out.cell (World.block_lt_of_cell? w _ hw102_4)).trans hw102_4)⟩ (fun hHeld => ?_)
                clear hK K
                refine norm_ (a' := ?_) ?_ ?_
                rotate_left
                · show Act.put _ (some 25) _ = _
                  simp only [Act.put, List.setIfInBounds_toArray, List.set_cons_zero, List.set_cons_succ, i64_w, i32_w]
                  rfl
                refine pure_ (i := 9) (N := some 26) (v := ?_) (a' := ?_) #[true, true, true, true, true, true, true, true, true, true] rfl rfl (any_of HT_.out (by kernel_rfl)) (fun _ _ _ h => h) (Or.inl ⟨by rfl, ?_⟩) ?_ ?_
                rotate_left
                · intro w'
                  go_simp
                  with_reducible rfl
                rotate_left
                · simp only [Act.put, List.setIfInBounds_toArray, List.set_cons_zero, List.set_cons_succ, i64_w, i32_w]
                  rfl
                refine done_ (done_of HT_.out (by kernel_rfl)) ?_
                try go_wp2
                go_ret
                exact ⟨by first | rfl | (simp [errW_none, errW_some] <;> rfl) | (simp [*, errW_none, errW_some] <;> rfl), by repeat (first | (with_reducible first | exact HB.out | apply Xba | apply Xbn | apply Xbd) | exact HB.out)⟩
            · rw [if_neg c6] at H
              exact absurd H (by simp)
          · rw [if_neg c5] at H
            exact absurd H (by simp)
        · rw [if_neg c4] at H
          have c4b0 : decide (x5_1 < (l0.length : Int)) = false := decide_eq_false c4
          clear c4
          obtain rfl := Option.some.inj H
          go_wp2
          go_ret
          exact ⟨by first | rfl | (simp [errW_none, errW_some] <;> rfl) | (simp [*, errW_none, errW_some] <;> rfl), by repeat (first | (with_reducible first | exact HB.out | apply Xba | apply Xbn | apply Xbd) | exact HB.out)⟩
  · rw [if_neg c3] at H
    have c3b0 : ((l0.length : Int) == (l1.length : Int)) = false := beq_eq_false_iff_ne.mpr c3
    have c3b1 : ((l0.length : Int) != (l1.length : Int)) = true := bne_iff_ne.mpr c3
    have c3b2 : (l0.length == l1.length) = false := by first | simpa using c3 | (simp at c3 ⊢; omega)
    obtain rfl := Option.some.inj H
    go_enter Try.func38, Try.ntmps38
    go_wp2
    go_ret
    exact ⟨by first | rfl | (simp [errW_none, errW_some] <;> rfl) | (simp [*, errW_none, errW_some] <;> rfl), by repeat (first | (with_reducible first | exact HB.out | apply Xba | apply Xbn | apply Xbd) | exact HB.out)⟩

/-! ### laws_markSignedAnswerS: function 39 -/
def laws_markSignedAnswerS.l0 : Nat → List (S155) → Int → Int → Option (Int × List (S155))
  | 0, _, _, _ => none
  | k + 1, x0, x1, x5 => if x5 < (x0.length : Int) then (if 0 ≤ x5 then ((laws_markIntS.f k ((rd_T155 x0 x5).f2) (wrap64 ((wrap64 (x1 + 1)) + 1))).bind fun b2 => ((laws_markByteS.f k ((rd_T155 x0 x5).f3) b2.1).bind fun b3 => (laws_markSignedAnswerS.l0 k (x0.set (x5 : Int).toNat (⟨x1, wrap64 (x1 + 1), b2.2, b3.2, b3.1⟩ : S155)) (wrap64 (b3.1 + 1)) (wrap64 (x5 + 1))))) else (none)) else (some (x1, x0))
def laws_markSignedAnswerS.f (k : Nat) (l0 : List (S155)) (a1 : Int) : Option (Int × List (S155)) := laws_markSignedAnswerS.l0 k l0 a1 0
set_option maxHeartbeats 8000000 in
set_option maxRecDepth 100000 in
theorem laws_markSignedAnswerS.calls (k : Nat) (P0_ : Nat → Prop) (u9000_ : Value) (l0 : List (S155)) (a1 : Int) (r1 : Int) (r2 : List (S155)) (w0 w : World) (hB : Below w0.heap.size w0 w) (ho0 : Kd.S k155 155 w w0.heap.size P0_ u9000_ l0) (h : laws_markSignedAnswerS.f k l0 a1 = some (r1, r2)) :
    Calls Try.prog 39 #[u9000_, .int .i64 a1] w fun e w' => e = .returned (.int .i64 r1) ∧ Kd.S k155 155 w' w0.heap.size P0_ u9000_ r2 ∧ Below w0.heap.size w0 w' ∧ Kept w w' (fun k_ => P0_ k_) := by
  have hu155 := Try.underlying155
  have HO := Xam ho0
  have HB := Xam hB
  have HK := Xam (Kept.refl w (fun k_ => P0_ k_))
  clear ho0 hB
  have H' := Xam (show laws_markSignedAnswerS.l0 k l0 a1 0 = some (r1, r2) from h)
  clear h
  go_enter Try.func39, Try.ntmps39
  go_wp2
  go_loopg [1, 5] k (fun kq v1 v5 w' => ∃ (x0 : List (S155)) (x1 x5 : Int), v1 = .int .i64 x1 ∧ v5 = .int .i64 x5 ∧ Aside0 (laws_markSignedAnswerS.l0 kq x0 x1 x5 = some (r1, r2)) ∧ Aside0 (kq ≤ k) ∧ Aside0 (Kd.S k155 155 w' w0.heap.size P0_ u9000_ x0) ∧ Aside0 (Kept w w' (fun k_ => P0_ k_)) ∧ Aside0 (Below w0.heap.size w0 w'))
  case atStart => exact ⟨l0, a1, 0, (by first | rfl | (simp; done) | (simp [*]; done)), (by first | rfl | (simp; done) | (simp [*]; done)), H', ⟨Nat.le_refl _⟩, HO, HK, HB⟩
  case round =>
    clear H' HO HK HB
    obtain ⟨x0, x1, x5, rfl, rfl, HA, HK1, HO, HK, HB⟩ := hrel
    cases gk with
    | zero => exact absurd HA.out (by simp [laws_markSignedAnswerS.l0])
    | succ k1 =>
      have H := HA.out
      clear HA
      simp only [laws_markSignedAnswerS.l0] at H
      by_cases c3 : x5 < (x0.length : Int)
      rotate_left
      · rw [if_neg c3] at H
        have c3b0 : decide (x5 < (x0.length : Int)) = false := decide_eq_false c3
        clear c3
        simp only [Option.some.injEq, Prod.mk.injEq] at H
        obtain ⟨rfl, rfl⟩ := H
        obtain ⟨Ao, co, eo⟩ := Kd.S_slice HO.out
        subst eo
        go_wp2
        go_ret
        exact ⟨by first | rfl | (simp; done), HO.out, HB.out, HK.out⟩
      rw [if_pos c3] at H
      have c3b0 : decide (x5 < (x0.length : Int)) = true := decide_eq_true c3
      by_cases c4 : 0 ≤ x5
      rotate_left
      · rw [if_neg c4] at H
        exact absurd H (by simp)
      rw [if_pos c4] at H
      have c4b0 : decide (0 ≤ x5) = true := decide_eq_true c4
      obtain ⟨⟨t2a, t2b⟩, E2_, H⟩ := Option.bind_eq_some_iff.mp H
      (try dsimp only at H)
      have E2 := Xam E2_
      clear E2_
      obtain ⟨⟨t3a, t3b⟩, E3_, H⟩ := Option.bind_eq_some_iff.mp H
      (try dsimp only at H)
      have E3 := Xam E3_
      clear E3_
      have H' := Xam H
      clear H
      have hlt : x5.toNat < x0.length := by omega
      have p5 := Xam c4
      have q5 := Xam c3
      have HL := Xam hlt
      clear c3 c4 hlt
      obtain ⟨go5, co5, eo5, gb5, gl5, cl5, HG5⟩ := Kd.S_form HO.out (by have := HL.out; omega)
      subst eo5
      have GB5 := Xam gb5
      clear gb5 gl5 cl5 HG5
      have p6 : 0 ≤ x5 := p5.out
      have q6 : x5 < (x0.length : Int) := q5.out
      replace p6 := eq_true p6
      replace q6 := eq_true q6
      obtain ⟨ok0, ce0, hcl0, hM0, hcc0, hfr0, hok0, hH0⟩ := Kd.S_elem HO.out z155 x5 p5.out q5.out
      obtain ⟨vv0_2, vv0_3, rfl, hR0_2, hR0_3⟩ := k155_openM hM0
      obtain ⟨As0_2, cs0_2, es0_2⟩ := Kd.R_slice hR0_2
      subst es0_2
      obtain ⟨As0_3, cs0_3, es0_3⟩ := Kd.R_slice hR0_3
      subst es0_3
      have HH0 := Xam hH0
      have HX0 := Xam hok0
      clear hH0 hok0 hcc0 hfr0 hcl0
      (try clear hM0)
      have HR0_2 := Xam hR0_2
      have HR0_3 := Xam hR0_3
      clear hR0_2
      clear hR0_3
      go_wp2_with (first | ((with_reducible refine gate_store (t := 3) (p := 16) rfl ?_); refine Kd.H_store k155 w0.heap.size rfl rfl 3 (.tmp 16) (.tmp 14) rfl 155 (w0 := w0) (g := go5) (n := x0.length) (cap := co5) (o' := x5.toNat * 5) x5 0 x0 (⟨x1, (rd_T155 x0 x5).f1, (rd_T155 x0 x5).f2, (rd_T155 x0 x5).f3, (rd_T155 x0 x5).f4⟩ : S155) (.int .i64 x1) [.int .i64 x1] [.int .i64 ((rd_T155 x0 x5).f0), .int .i64 ((rd_T155 x0 x5).f1), .slice As0_2 ((rd_T155 x0 x5).f2).length cs0_2, .slice As0_3 ((rd_T155 x0 x5).f3).length cs0_3, .int .i64 ((rd_T155 x0 x5).f4)] P0_ ok0 ok0 (by exact rfl) (by simp [show (k155).sz = 5 from rfl]) (by exact rfl) rfl (by kernel_rfl) (by simp [Value.oneCell']) HH0.out p5.out q5.out (by simp [show (k155).sz = 5 from rfl]) (k155_mkM _ _ _ (⟨x1, (rd_T155 x0 x5).f1, (rd_T155 x0 x5).f2, (rd_T155 x0 x5).f3, (rd_T155 x0 x5).f4⟩ : S155) HR0_2.out HR0_3.out) (fun _ h_ => h_) HB.out ?_; intro wm0 hs_ hb_ hg_; replace HO := Xam hs_; replace HB := Xam hb_; replace HK := Xam (Kept.of_grown (S := fun k_ => P0_ k_) hg_ HK.out (fun k_ e_ => .inl (by injection e_ with e_; subst e_; exact (Kd.S_R hs_).1 _ rfl))); clear hs_ hb_ hg_; obtain ⟨y0, hy0⟩ : ∃ y_, y_ = x0.set x5.toNat (⟨x1, (rd_T155 x0 x5).f1, (rd_T155 x0 x5).f2, (rd_T155 x0 x5).f3, (rd_T155 x0 x5).f4⟩ : S155) := ⟨_, rfl⟩; rw [← hy0] at HO; have HY0 := Xam hy0; have hl_ : x5.toNat < y0.length := (by rw [HY0.out, List.length_set]; exact HL.out); have HLy0 := Xam hl_; clear hl_; clear hy0; obtain ⟨ok1, ce1, hcl1, hM1, hcc1, hfr1, hok1, hH1⟩ := Kd.S_elem HO.out z155 x5 p5.out q5.out; rw [HY0.out, getD_set_self _ _ _ _ HL.out] at hM1; obtain ⟨vv1_2, vv1_3, rfl, hR1_2, hR1_3⟩ := k155_openM hM1; obtain ⟨As1_2, cs1_2, es1_2⟩ := Kd.R_slice hR1_2; subst es1_2; obtain ⟨As1_3, cs1_3, es1_3⟩ := Kd.R_slice hR1_3; subst es1_3; have HH1 := Xam hH1; have HX1 := Xam hok1; clear hH1 hok1 hcc1 hfr1 hcl1; (try clear hM1); have HR1_2 := Xam hR1_2; have HR1_3 := Xam hR1_3; clear hR1_2; clear hR1_3) | ((with_reducible refine gate_store (t := 3) (p := 23) rfl ?_); refine Kd.H_store k155 w0.heap.size rfl rfl 3 (.tmp 23) (.tmp 21) rfl 155 (w0 := w0) (g := go5) (n := x0.length) (cap := co5) (o' := x5.toNat * 5 + 1) x5 1 y0 (⟨x1, wrap64 (x1 + 1), (rd_T155 x0 x5).f2, (rd_T155 x0 x5).f3, (rd_T155 x0 x5).f4⟩ : S155) (.int .i64 (wrap64 (x1 + 1))) [.int .i64 (wrap64 (x1 + 1))] [.int .i64 x1, .int .i64 ((rd_T155 x0 x5).f1), .slice As1_2 ((rd_T155 x0 x5).f2).length cs1_2, .slice As1_3 ((rd_T155 x0 x5).f3).length cs1_3, .int .i64 ((rd_T155 x0 x5).f4)] P0_ ok1 ok1 (by exact rfl) (by simp [show (k155).sz = 5 from rfl]) (by exact rfl) rfl (by kernel_rfl) (by simp [Value.oneCell']) HH1.out p5.out q5.out (by simp [show (k155).sz = 5 from rfl]) (k155_mkM _ _ _ (⟨x1, wrap64 (x1 + 1), (rd_T155 x0 x5).f2, (rd_T155 x0 x5).f3, (rd_T155 x0 x5).f4⟩ : S155) HR1_2.out HR1_3.out) (fun _ h_ => h_) HB.out ?_; intro wm1 hs_ hb_ hg_; replace HO := Xam hs_; replace HB := Xam hb_; replace HK := Xam (Kept.of_grown (S := fun k_ => P0_ k_) hg_ HK.out (fun k_ e_ => .inl (by injection e_ with e_; subst e_; exact (Kd.S_R hs_).1 _ rfl))); clear hs_ hb_ hg_; obtain ⟨y1, hy1⟩ : ∃ y_, y_ = y0.set x5.toNat (⟨x1, wrap64 (x1 + 1), (rd_T155 x0 x5).f2, (rd_T155 x0 x5).f3, (rd_T155 x0 x5).f4⟩ : S155) := ⟨_, rfl⟩; rw [← hy1] at HO; have HY1 := Xam hy1; have hl_ : x5.toNat < y1.length := (by rw [HY1.out, List.length_set]; exact HLy0.out); have HLy1 := Xam hl_; clear hl_; clear hy1; obtain ⟨ok2, ce2, hcl2, hM2, hcc2, hfr2, hok2, hH2⟩ := Kd.S_elem HO.out z155 x5 p5.out q5.out; rw [HY1.out, getD_set_self _ _ _ _ HLy0.out] at hM2; obtain ⟨vv2_2, vv2_3, rfl, hR2_2, hR2_3⟩ := k155_openM hM2; obtain ⟨As2_2, cs2_2, es2_2⟩ := Kd.R_slice hR2_2; subst es2_2; obtain ⟨As2_3, cs2_3, es2_3⟩ := Kd.R_slice hR2_3; subst es2_3; have hx2_0 : wm1.cell? ⟨go5, x5.toNat * 5, none⟩ = some (.int .i64 x1) := (by have h_ := hcc2 0 _ rfl; simp only [show (k155).sz = 5 from rfl, Nat.mul_one, Nat.add_zero] at h_; exact h_); have hx2_1 : wm1.cell? ⟨go5, x5.toNat * 5 + 1, none⟩ = some (.int .i64 (wrap64 (x1 + 1))) := (by have h_ := hcc2 1 _ rfl; simp only [show (k155).sz = 5 from rfl, Nat.mul_one, Nat.add_zero] at h_; exact h_); have hx2_2 : wm1.cell? ⟨go5, x5.toNat * 5 + 2, none⟩ = some (.slice As2_2 ((rd_T155 x0 x5).f2).length cs2_2) := (by have h_ := hcc2 2 _ rfl; simp only [show (k155).sz = 5 from rfl, Nat.mul_one, Nat.add_zero] at h_; exact h_); have hx2_3 : wm1.cell? ⟨go5, x5.toNat * 5 + 3, none⟩ = some (.slice As2_3 ((rd_T155 x0 x5).f3).length cs2_3) := (by have h_ := hcc2 3 _ rfl; simp only [show (k155).sz = 5 from rfl, Nat.mul_one, Nat.add_zero] at h_; exact h_); have hx2_4 : wm1.cell? ⟨go5, x5.toNat * 5 + 4, none⟩ = some (.int .i64 ((rd_T155 x0 x5).f4)) := (by have h_ := hcc2 4 _ rfl; simp only [show (k155).sz = 5 from rfl, Nat.mul_one, Nat.add_zero] at h_; exact h_); have hf2_0 : wm1.frozen? ⟨go5, x5.toNat * 5, none⟩ = false := (by have h_ := hfr2 0; simp only [show (k155).sz = 5 from rfl, Nat.mul_one, Nat.add_zero] at h_; exact h_); have hf2_1 : wm1.frozen? ⟨go5, x5.toNat * 5 + 1, none⟩ = false := (by have h_ := hfr2 1; simp only [show (k155).sz = 5 from rfl, Nat.mul_one, Nat.add_zero] at h_; exact h_); have hf2_2 : wm1.frozen? ⟨go5, x5.toNat * 5 + 2, none⟩ = false := (by have h_ := hfr2 2; simp only [show (k155).sz = 5 from rfl, Nat.mul_one, Nat.add_zero] at h_; exact h_); have hf2_3 : wm1.frozen? ⟨go5, x5.toNat * 5 + 3, none⟩ = false := (by have h_ := hfr2 3; simp only [show (k155).sz = 5 from rfl, Nat.mul_one, Nat.add_zero] at h_; exact h_); have hf2_4 : wm1.frozen? ⟨go5, x5.toNat * 5 + 4, none⟩ = false := (by have h_ := hfr2 4; simp only [show (k155).sz = 5 from rfl, Nat.mul_one, Nat.add_zero] at h_; exact h_); have HH2 := Xam hH2; have HX2 := Xam hok2; clear hH2 hok2 hcc2 hfr2 hcl2; (try clear hM2); have HR2_2 := Xam hR2_2; have HR2_3 := Xam hR2_3; clear hR2_2; clear hR2_3) | ((with_reducible refine gate_callee (f := 128) rfl ?_); refine goesL_ (some 32) rfl rfl Try.func128 (by kernel_rfl) rfl #[.slice As2_2 ((rd_T155 x0 x5).f2).length cs2_2, .int .i64 (wrap64 ((wrap64 (x1 + 1)) + 1))] rfl (by (try simp only [List.map_toArray, List.map_cons, List.map_nil]); first | done | rfl) ?_; (with_reducible refine (laws_markIntS.calls k1 (fun k_ => ok2 k_ ∧ some k_ = (Value.slice As2_2 ((rd_T155 x0 x5).f2).length cs2_2).ownBlock) _ ((rd_T155 x0 x5).f2) (wrap64 ((wrap64 (x1 + 1)) + 1)) t2a t2b w0 _ HB.out ?side1 E2.out).mono ?_); (case side1 => exact (Kd.R_mono (Kd.R_tight rfl HR2_2.out) (fun k_ h_ => ⟨HR2_2.out.1 k_ h_.symm, h_⟩))); rintro e wm2 ⟨rfl, hy_, hb_, hkp_⟩; refine ⟨_, rfl, ?_⟩; have hn2_2 := (Kd.R_reok rfl hy_ (fun k_ e_ => HR2_2.out.1 k_ e_)); have hn2_3 := Kd.R_mono (Kd.R_kept (Kd.R_tight rfl HR2_3.out) hkp_ (fun k_ h_ h2_ => by obtain ⟨c1_, h3_⟩ := Kd.R_typed HR2_3.out k_ h_.symm; obtain ⟨c2_, h4_⟩ := Kd.R_typed HR2_2.out k_ h2_.2.symm; rw [h3_] at h4_; injection h4_ with h4_; injection h4_ with _ h4_; exact absurd h4_ (by decide))) (fun k_ h_ => HR2_3.out.1 k_ h_.symm); have hs_ : Kd.S k155 155 wm2 w0.heap.size P0_ (.slice (some ⟨go5, 0, none⟩) x0.length co5) (y1.set x5.toNat (⟨x1, wrap64 (x1 + 1), t2b, (rd_T155 x0 x5).f3, (rd_T155 x0 x5).f4⟩ : S155)) := Kd.H_back (Kd.H_step HH2.out (fun k_ h1_ h2_ h3_ => (hkp_.mono (fun k_ h_ => h_.1)).2 k_ h3_ h2_)) (k155_mkM _ _ _ (⟨x1, wrap64 (x1 + 1), t2b, (rd_T155 x0 x5).f3, (rd_T155 x0 x5).f4⟩ : S155) hn2_2 hn2_3) (fun _ h_ => h_); replace HO := Xam hs_; replace HB := Xam hb_; replace HK := Xam (Kept.then_ HK.out (hkp_.mono (fun k_ h_ => h_.1)) (fun k_ h_ => .inl (HX2.out k_ h_).1)); clear hy_ hkp_ hn2_2 hn2_3; clear hs_ hb_; clear hx2_0 hf2_0 hx2_1 hf2_1 hx2_2 hf2_2 hx2_3 hf2_3 hx2_4 hf2_4; obtain ⟨y2, hy2⟩ : ∃ y_, y_ = y1.set x5.toNat (⟨x1, wrap64 (x1 + 1), t2b, (rd_T155 x0 x5).f3, (rd_T155 x0 x5).f4⟩ : S155) := ⟨_, rfl⟩; rw [← hy2] at HO; have HY2 := Xam hy2; have hl_ : x5.toNat < y2.length := (by rw [HY2.out, List.length_set]; exact HLy1.out); have HLy2 := Xam hl_; clear hl_; clear hy2; obtain ⟨ok3, ce3, hcl3, hM3, hcc3, hfr3, hok3, hH3⟩ := Kd.S_elem HO.out z155 x5 p5.out q5.out; rw [HY2.out, getD_set_self _ _ _ _ HLy1.out] at hM3; obtain ⟨vv3_2, vv3_3, rfl, hR3_2, hR3_3⟩ := k155_openM hM3; obtain ⟨As3_2, cs3_2, es3_2⟩ := Kd.R_slice hR3_2; subst es3_2; obtain ⟨As3_3, cs3_3, es3_3⟩ := Kd.R_slice hR3_3; subst es3_3; have hx3_0 : wm2.cell? ⟨go5, x5.toNat * 5, none⟩ = some (.int .i64 x1) := (by have h_ := hcc3 0 _ rfl; simp only [show (k155).sz = 5 from rfl, Nat.mul_one, Nat.add_zero] at h_; exact h_); have hx3_1 : wm2.cell? ⟨go5, x5.toNat * 5 + 1, none⟩ = some (.int .i64 (wrap64 (x1 + 1))) := (by have h_ := hcc3 1 _ rfl; simp only [show (k155).sz = 5 from rfl, Nat.mul_one, Nat.add_zero] at h_; exact h_); have hx3_2 : wm2.cell? ⟨go5, x5.toNat * 5 + 2, none⟩ = some (.slice As3_2 t2b.length cs3_2) := (by have h_ := hcc3 2 _ rfl; simp only [show (k155).sz = 5 from rfl, Nat.mul_one, Nat.add_zero] at h_; exact h_); have hx3_3 : wm2.cell? ⟨go5, x5.toNat * 5 + 3, none⟩ = some (.slice As3_3 ((rd_T155 x0 x5).f3).length cs3_3) := (by have h_ := hcc3 3 _ rfl; simp only [show (k155).sz = 5 from rfl, Nat.mul_one, Nat.add_zero] at h_; exact h_); have hx3_4 : wm2.cell? ⟨go5, x5.toNat * 5 + 4, none⟩ = some (.int .i64 ((rd_T155 x0 x5).f4)) := (by have h_ := hcc3 4 _ rfl; simp only [show (k155).sz = 5 from rfl, Nat.mul_one, Nat.add_zero] at h_; exact h_); have hf3_0 : wm2.frozen? ⟨go5, x5.toNat * 5, none⟩ = false := (by have h_ := hfr3 0; simp only [show (k155).sz = 5 from rfl, Nat.mul_one, Nat.add_zero] at h_; exact h_); have hf3_1 : wm2.frozen? ⟨go5, x5.toNat * 5 + 1, none⟩ = false := (by have h_ := hfr3 1; simp only [show (k155).sz = 5 from rfl, Nat.mul_one, Nat.add_zero] at h_; exact h_); have hf3_2 : wm2.frozen? ⟨go5, x5.toNat * 5 + 2, none⟩ = false := (by have h_ := hfr3 2; simp only [show (k155).sz = 5 from rfl, Nat.mul_one, Nat.add_zero] at h_; exact h_); have hf3_3 : wm2.frozen? ⟨go5, x5.toNat * 5 + 3, none⟩ = false := (by have h_ := hfr3 3; simp only [show (k155).sz = 5 from rfl, Nat.mul_one, Nat.add_zero] at h_; exact h_); have hf3_4 : wm2.frozen? ⟨go5, x5.toNat * 5 + 4, none⟩ = false := (by have h_ := hfr3 4; simp only [show (k155).sz = 5 from rfl, Nat.mul_one, Nat.add_zero] at h_; exact h_); have HH3 := Xam hH3; have HX3 := Xam hok3; clear hH3 hok3 hcc3 hfr3 hcl3; (try clear hM3); have HR3_2 := Xam hR3_2; have HR3_3 := Xam hR3_3; clear hR3_2; clear hR3_3) | ((with_reducible refine gate_callee (f := 40) rfl ?_); refine goesL_ (some 39) rfl rfl Try.func40 (by kernel_rfl) rfl #[.slice As3_3 ((rd_T155 x0 x5).f3).length cs3_3, .int .i64 t2a] rfl (by (try simp only [List.map_toArray, List.map_cons, List.map_nil]); first | done | rfl) ?_; (with_reducible refine (laws_markByteS.calls k1 (fun k_ => ok3 k_ ∧ some k_ = (Value.slice As3_3 ((rd_T155 x0 x5).f3).length cs3_3).ownBlock) _ ((rd_T155 x0 x5).f3) t2a t3a t3b w0 _ HB.out ?side1 E3.out).mono ?_); (case side1 => exact (Kd.R_mono (Kd.R_tight rfl HR3_3.out) (fun k_ h_ => ⟨HR3_3.out.1 k_ h_.symm, h_⟩))); rintro e wm3 ⟨rfl, hy_, hb_, hkp_⟩; refine ⟨_, rfl, ?_⟩; have hn3_3 := (Kd.R_reok rfl hy_ (fun k_ e_ => HR3_3.out.1 k_ e_)); have hn3_2 := Kd.R_mono (Kd.R_kept (Kd.R_tight rfl HR3_2.out) hkp_ (fun k_ h_ h2_ => by obtain ⟨c1_, h3_⟩ := Kd.R_typed HR3_2.out k_ h_.symm; obtain ⟨c2_, h4_⟩ := Kd.R_typed HR3_3.out k_ h2_.2.symm; rw [h3_] at h4_; injection h4_ with h4_; injection h4_ with _ h4_; exact absurd h4_ (by decide))) (fun k_ h_ => HR3_2.out.1 k_ h_.symm); have hs_ : Kd.S k155 155 wm3 w0.heap.size P0_ (.slice (some ⟨go5, 0, none⟩) x0.length co5) (y2.set x5.toNat (⟨x1, wrap64 (x1 + 1), t2b, t3b, (rd_T155 x0 x5).f4⟩ : S155)) := Kd.H_back (Kd.H_step HH3.out (fun k_ h1_ h2_ h3_ => (hkp_.mono (fun k_ h_ => h_.1)).2 k_ h3_ h2_)) (k155_mkM _ _ _ (⟨x1, wrap64 (x1 + 1), t2b, t3b, (rd_T155 x0 x5).f4⟩ : S155) hn3_2 hn3_3) (fun _ h_ => h_); replace HO := Xam hs_; replace HB := Xam hb_; replace HK := Xam (Kept.then_ HK.out (hkp_.mono (fun k_ h_ => h_.1)) (fun k_ h_ => .inl (HX3.out k_ h_).1)); clear hy_ hkp_ hn3_2 hn3_3; clear hs_ hb_; clear hx3_0 hf3_0 hx3_1 hf3_1 hx3_2 hf3_2 hx3_3 hf3_3 hx3_4 hf3_4; obtain ⟨y3, hy3⟩ : ∃ y_, y_ = y2.set x5.toNat (⟨x1, wrap64 (x1 + 1), t2b, t3b, (rd_T155 x0 x5).f4⟩ : S155) := ⟨_, rfl⟩; rw [← hy3] at HO; have HY3 := Xam hy3; have hl_ : x5.toNat < y3.length := (by rw [HY3.out, List.length_set]; exact HLy2.out); have HLy3 := Xam hl_; clear hl_; clear hy3; obtain ⟨ok4, ce4, hcl4, hM4, hcc4, hfr4, hok4, hH4⟩ := Kd.S_elem HO.out z155 x5 p5.out q5.out; rw [HY3.out, getD_set_self _ _ _ _ HLy2.out] at hM4; obtain ⟨vv4_2, vv4_3, rfl, hR4_2, hR4_3⟩ := k155_openM hM4; obtain ⟨As4_2, cs4_2, es4_2⟩ := Kd.R_slice hR4_2; subst es4_2; obtain ⟨As4_3, cs4_3, es4_3⟩ := Kd.R_slice hR4_3; subst es4_3; have HH4 := Xam hH4; have HX4 := Xam hok4; clear hH4 hok4 hcc4 hfr4 hcl4; (try clear hM4); have HR4_2 := Xam hR4_2; have HR4_3 := Xam hR4_3; clear hR4_2; clear hR4_3) | ((with_reducible refine gate_store (t := 3) (p := 44) rfl ?_); refine Kd.H_store k155 w0.heap.size rfl rfl 3 (.tmp 44) (.tmp 42) rfl 155 (w0 := w0) (g := go5) (n := x0.length) (cap := co5) (o' := x5.toNat * 5 + 4) x5 4 y3 (⟨x1, wrap64 (x1 + 1), t2b, t3b, t3a⟩ : S155) (.int .i64 t3a) [.int .i64 t3a] [.int .i64 x1, .int .i64 (wrap64 (x1 + 1)), .slice As4_2 t2b.length cs4_2, .slice As4_3 t3b.length cs4_3, .int .i64 ((rd_T155 x0 x5).f4)] P0_ ok4 ok4 (by exact rfl) (by simp [show (k155).sz = 5 from rfl]) (by exact rfl) rfl (by kernel_rfl) (by simp [Value.oneCell']) HH4.out p5.out q5.out (by simp [show (k155).sz = 5 from rfl]) (k155_mkM _ _ _ (⟨x1, wrap64 (x1 + 1), t2b, t3b, t3a⟩ : S155) HR4_2.out HR4_3.out) (fun _ h_ => h_) HB.out ?_; intro wm4 hs_ hb_ hg_; replace HO := Xam hs_; replace HB := Xam hb_; replace HK := Xam (Kept.of_grown (S := fun k_ => P0_ k_) hg_ HK.out (fun k_ e_ => .inl (by injection e_ with e_; subst e_; exact (Kd.S_R hs_).1 _ rfl))); clear hs_ hb_ hg_; obtain ⟨y4, hy4⟩ : ∃ y_, y_ = y3.set x5.toNat (⟨x1, wrap64 (x1 + 1), t2b, t3b, t3a⟩ : S155) := ⟨_, rfl⟩; rw [← hy4] at HO; have HY4 := Xam hy4; have hl_ : x5.toNat < y4.length := (by rw [HY4.out, List.length_set]; exact HLy3.out); have HLy4 := Xam hl_; clear hl_; clear hy4))
      have hfin : y4 = x0.set (x5 : Int).toNat (⟨x1, wrap64 (x1 + 1), t2b, t3b, t3a⟩ : S155) := by rw [HY4.out]; rw [HY3.out, List.set_set]; rw [HY2.out, List.set_set]; rw [HY1.out, List.set_set]; rw [HY0.out, List.set_set]
      rw [hfin] at HO
      clear hfin
      go_roundg k1
      case measure => have := HK1.out; omega
      case rel => exact ⟨_, _, _, (by first | rfl | (simp; done) | (simp [*]; done)), (by first | rfl | (simp; done) | (simp [*]; done)), H', ⟨by have := HK1.out; omega⟩, HO, HK, HB⟩

/-! ### laws_FnExactAnswersToCell: function 5 -/
def laws_FnExactAnswersToCell.f (k : Nat) (l0 : List (S154)) : Option (Bool) := (laws_szSignedAnswerS.f k l0 1048576).bind fun t2 => (if t2 < 0 then (some true) else ((laws_toSignedAnswerS.f k l0).bind fun t5 => ((spec_AnswersToCell.f k t5).bind fun bt9 => ((laws_toSignedAnswerS.f k l0).bind fun t14 => ((impl_AnswersToCell.f k t14).bind fun bt18 => ((laws_eqByteS.f k bt18.1 bt9.1).bind fun t23 => (if t23 = true then (if (bt18.2 != bt9.2) = true then (none) else ((laws_toSignedAnswerS.f k l0).bind fun t26 => ((laws_eqSignedAnswerS.f k t14 t26).bind fun t30 => (if t30 = true then ((laws_markSignedAnswerS.f k t14 1).bind fun bt33 => (if bt33.1 < 0 then (none) else ((laws_eqByteS.f k bt18.1 bt9.1).bind fun t37 => (if t37 = true then ((laws_markByteS.f k bt18.1 1).bind fun bt40 => ((laws_heldByteS.f k bt40.2 1).bind fun t44 => (if t44 < 0 then (none) else (if t44 = bt40.1 then ((laws_toSignedAnswerS.f k l0).bind fun t47 => ((impl_AnswersToCell.f k t47).bind fun bt51 => ((laws_eqByteS.f k bt51.1 bt9.1).bind fun t56 => (if t56 = true then (if (bt51.2 != bt9.2) = true then (none) else ((laws_heldByteS.f k bt40.2 1).bind fun t59 => (if t59 < 0 then (none) else (if t59 = bt40.1 then (some true) else (none))))) else (none))))) else (none))))) else (none))))) else (none))))) else (none))))))))
set_option maxHeartbeats 8000000 in
set_option maxRecDepth 100000 in
theorem laws_FnExactAnswersToCell.calls (k : Nat) (A0 : Option Addr) (c0 : Nat) (l0 : List (S154)) (r : Bool) (w : World) (hr0 : Kd.C k154 w A0 l0.length l0) (hc0 : l0.length ≤ c0) (h : laws_FnExactAnswersToCell.f k l0 = some r) :
    Calls Try.prog 5 #[.slice A0 l0.length c0] w fun e w' => e = .returned (.bool r) ∧ Below w.heap.size w w' := by
  have HR0 := Xam hr0
  have HC0 := Xam hc0
  clear hr0 hc0
  have HB := Xam (Below.refl w.heap.size w)
  have OC := Xam (Nat.le_refl w.heap.size)
  have H := h
  clear h
  unfold laws_FnExactAnswersToCell.f at H
  replace H := Option.bind_eq_some_iff.mp H
  obtain ⟨t2, E3_, H⟩ := H
  (try dsimp only at H)
  have E3 := Xam E3_
  clear E3_
  by_cases c5_ : t2 < 0
  · rw [if_pos c5_] at H
    have c5_0 : decide (t2 < 0) = true := decide_eq_true c5_
    clear c5_
    obtain rfl := Option.some.inj H
    clear H
    go_enter Try.func5, Try.ntmps5
    go_wp2_with (first | ((with_reducible refine gate_callee (f := 33) rfl ?_); refine goesL_ (some 16) rfl rfl Try.func33 (by kernel_rfl) rfl #[.slice A0 l0.length c0, .int .i64 1048576] rfl (by (try simp only [List.map_toArray, List.map_cons, List.map_nil]); first | done | rfl) ?_; (with_reducible refine (laws_szSignedAnswerS.calls k _ _ l0 1048576 t2 _ ?side1 ?side2 E3.out).mono ?_); (case side1 => exact (Kd.C_below HR0.out HB.out)); (case side2 => exact HC0.out); rintro e w1 ⟨rfl, hb⟩; refine ⟨_, rfl, ?_⟩; replace HB := Xam (Xbt HB.out hb); replace OC := Xam (And.intro (Below.size hb) OC.out); clear hb))
    go_ret
    exact ⟨by first | rfl | (simp; done), HB.out⟩
  rw [if_neg c5_] at H
  have c5_0 : decide (t2 < 0) = false := decide_eq_false c5_
  clear c5_
  replace H := Option.bind_eq_some_iff.mp H
  obtain ⟨t5, E7_, H⟩ := H
  (try dsimp only at H)
  have E7 := Xam E7_
  clear E7_
  replace H := Option.bind_eq_some_iff.mp H
  obtain ⟨⟨t9, t10⟩, E12_, H⟩ := H
  (try dsimp only at H)
  have E12 := Xam E12_
  clear E12_
  replace H := Option.bind_eq_some_iff.mp H
  obtain ⟨t14, E16_, H⟩ := H
  (try dsimp only at H)
  have E16 := Xam E16_
  clear E16_
  replace H := Option.bind_eq_some_iff.mp H
  obtain ⟨⟨t18, t19⟩, E21_, H⟩ := H
  (try dsimp only at H)
  have E21 := Xam E21_
  clear E21_
  replace H := Option.bind_eq_some_iff.mp H
  obtain ⟨t23, E24_, H⟩ := H
  (try dsimp only at H)
  have E24 := Xam E24_
  clear E24_
  cases t23 with
  | false => exact absurd H (by simp)
  | true =>
  replace H := (if_pos rfl).symm.trans H
  by_cases c39_ : (t19 != t10) = true
  · rw [if_pos c39_] at H
    exact absurd H (by simp)
  rw [if_neg c39_] at H
  have c39_b : (t19 != t10) = false := by simpa using c39_
  have c39_c : (!t19 == t10) = false := c39_b
  clear c39_
  replace H := Option.bind_eq_some_iff.mp H
  obtain ⟨t26, E28_, H⟩ := H
  (try dsimp only at H)
  have E28 := Xam E28_
  clear E28_
  replace H := Option.bind_eq_some_iff.mp H
  obtain ⟨t30, E31_, H⟩ := H
  (try dsimp only at H)
  have E31 := Xam E31_
  clear E31_
  cases t30 with
  | false => exact absurd H (by simp)
  | true =>
  replace H := (if_pos rfl).symm.trans H
  replace H := Option.bind_eq_some_iff.mp H
  obtain ⟨⟨t33, t34⟩, E35_, H⟩ := H
  (try dsimp only at H)
  have E35 := Xam E35_
  clear E35_
  by_cases c65_ : t33 < 0
  · rw [if_pos c65_] at H
    exact absurd H (by simp)
  rw [if_neg c65_] at H
  have c65_0 : decide (t33 < 0) = false := decide_eq_false c65_
  clear c65_
  replace H := Option.bind_eq_some_iff.mp H
  obtain ⟨t37, E38_, H⟩ := H
  (try dsimp only at H)
  have E38 := Xam E38_
  clear E38_
  cases t37 with
  | false => exact absurd H (by simp)
  | true =>
  replace H := (if_pos rfl).symm.trans H
  replace H := Option.bind_eq_some_iff.mp H
  obtain ⟨⟨t40, t41⟩, E42_, H⟩ := H
  (try dsimp only at H)
  have E42 := Xam E42_
  clear E42_
  replace H := Option.bind_eq_some_iff.mp H
  obtain ⟨t44, E45_, H⟩ := H
  (try dsimp only at H)
  have E45 := Xam E45_
  clear E45_
  by_cases c90_ : t44 < 0
  · rw [if_pos c90_] at H
    exact absurd H (by simp)
  rw [if_neg c90_] at H
  have c90_0 : decide (t44 < 0) = false := decide_eq_false c90_
  clear c90_
  by_cases c96_ : t44 = t40
  rotate_left
  · rw [if_neg c96_] at H
    exact absurd H (by simp)
  rw [if_pos c96_] at H
  have c96_0 : (t44 == t40) = true := beq_iff_eq.mpr c96_
  have c96_1 : (t44 != t40) = false := bne_eq_false_iff_eq.mpr c96_
  clear c96_
  replace H := Option.bind_eq_some_iff.mp H
  obtain ⟨t47, E49_, H⟩ := H
  (try dsimp only at H)
  have E49 := Xam E49_
  clear E49_
  replace H := Option.bind_eq_some_iff.mp H
  obtain ⟨⟨t51, t52⟩, E54_, H⟩ := H
  (try dsimp only at H)
  have E54 := Xam E54_
  clear E54_
  replace H := Option.bind_eq_some_iff.mp H
  obtain ⟨t56, E57_, H⟩ := H
  (try dsimp only at H)
  have E57 := Xam E57_
  clear E57_
  cases t56 with
  | false => exact absurd H (by simp)
  | true =>
  replace H := (if_pos rfl).symm.trans H
  by_cases c123_ : (t52 != t10) = true
  · rw [if_pos c123_] at H
    exact absurd H (by simp)
  rw [if_neg c123_] at H
  have c123_b : (t52 != t10) = false := by simpa using c123_
  have c123_c : (!t52 == t10) = false := c123_b
  clear c123_
  replace H := Option.bind_eq_some_iff.mp H
  obtain ⟨t59, E60_, H⟩ := H
  (try dsimp only at H)
  have E60 := Xam E60_
  clear E60_
  by_cases c135_ : t59 < 0
  · rw [if_pos c135_] at H
    exact absurd H (by simp)
  rw [if_neg c135_] at H
  have c135_0 : decide (t59 < 0) = false := decide_eq_false c135_
  clear c135_
  by_cases c141_ : t59 = t40
  rotate_left
  · rw [if_neg c141_] at H
    exact absurd H (by simp)
  rw [if_pos c141_] at H
  have c141_0 : (t59 == t40) = true := beq_iff_eq.mpr c141_
  have c141_1 : (t59 != t40) = false := bne_eq_false_iff_eq.mpr c141_
  clear c141_
  obtain rfl := Option.some.inj H
  clear H
  go_enter Try.func5, Try.ntmps5
  go_wp2_with (first | ((with_reducible refine gate_callee (f := 33) rfl ?_); refine goesL_ (some 16) rfl rfl Try.func33 (by kernel_rfl) rfl #[.slice A0 l0.length c0, .int .i64 1048576] rfl (by (try simp only [List.map_toArray, List.map_cons, List.map_nil]); first | done | rfl) ?_; (with_reducible refine (laws_szSignedAnswerS.calls k _ _ l0 1048576 t2 _ ?side1 ?side2 E3.out).mono ?_); (case side1 => exact (Kd.C_below HR0.out HB.out)); (case side2 => exact HC0.out); rintro e w1 ⟨rfl, hb⟩; refine ⟨_, rfl, ?_⟩; replace HB := Xam (Xbt HB.out hb); replace OC := Xam (And.intro (Below.size hb) OC.out); clear hb) | ((with_reducible refine gate_callee (f := 35) rfl ?_); refine goesL_ (some 21) rfl rfl Try.func35 (by kernel_rfl) rfl #[.slice A0 l0.length c0] rfl (by (try simp only [List.map_toArray, List.map_cons, List.map_nil]); first | done | rfl) ?_; (with_reducible refine (laws_toSignedAnswerS.calls k _ _ l0 t5 _ ?side1 ?side2 E7.out).mono ?_); (case side1 => exact (Kd.C_below HR0.out HB.out)); (case side2 => exact HC0.out); rintro e w4 ⟨v6, rfl, ho6, hb⟩; refine ⟨_, rfl, ?_⟩; have HO6 := Xam (Kd.S_iv ho6 (Xbs HB.out)); replace HB := Xam (Xbt HB.out hb); replace OC := Xam (And.intro (Below.size hb) OC.out); clear hb ho6; obtain ⟨Ao6, co6, eo_⟩ := Kd.S_slice HO6.out; subst eo_) | ((with_reducible refine gate_callee (f := 34) rfl ?_); refine goesL_ (some 22) rfl rfl Try.func34 (by kernel_rfl) rfl #[.slice Ao6 t5.length co6] rfl (by (try simp only [List.map_toArray, List.map_cons, List.map_nil]); first | done | rfl) ?_; (with_reducible refine (spec_AnswersToCell.calls k (iv w1.heap.size w4.heap.size) _ _ t5 t9 t10 _ ?side1 E12.out).mono ?_); (case side1 => exact Kd.S_V HO6.out); rintro e w8 ⟨v11, rfl, ho11, hb⟩; refine ⟨_, rfl, ?_⟩; have HO11 := Xam (Kd.R_iv ho11 (Xbs HB.out)); clear HO6; replace HB := Xam (Xbt HB.out hb); replace OC := Xam (And.intro (Below.size hb) OC.out); clear hb ho11; obtain ⟨Ao11, co11, eo_⟩ := Kd.R_slice HO11.out; subst eo_) | ((with_reducible refine gate_callee (f := 35) rfl ?_); refine goesL_ (some 26) rfl rfl Try.func35 (by kernel_rfl) rfl #[.slice A0 l0.length c0] rfl (by (try simp only [List.map_toArray, List.map_cons, List.map_nil]); first | done | rfl) ?_; (with_reducible refine (laws_toSignedAnswerS.calls k _ _ l0 t14 _ ?side1 ?side2 E16.out).mono ?_); (case side1 => exact (Kd.C_below HR0.out HB.out)); (case side2 => exact HC0.out); rintro e w13 ⟨v15, rfl, ho15, hb⟩; refine ⟨_, rfl, ?_⟩; have HO15 := Xam (Kd.S_iv ho15 (Xbs HB.out)); replace HO11 := Xam (Kd.R_below HO11.out hb); replace HB := Xam (Xbt HB.out hb); replace OC := Xam (And.intro (Below.size hb) OC.out); clear hb ho15; obtain ⟨Ao15, co15, eo_⟩ := Kd.S_slice HO15.out; subst eo_) | ((with_reducible refine gate_callee (f := 36) rfl ?_); refine goesL_ (some 29) rfl rfl Try.func36 (by kernel_rfl) rfl #[.slice Ao15 t14.length co15] rfl (by (try simp only [List.map_toArray, List.map_cons, List.map_nil]); first | done | rfl) ?_; (with_reducible refine (impl_AnswersToCell.calls k (iv w8.heap.size w13.heap.size) _ _ t14 t18 t19 _ ?side1 E21.out).mono ?_); (case side1 => exact Kd.S_V HO15.out); rintro e w17 ⟨v20, rfl, ho20, hb⟩; refine ⟨_, rfl, ?_⟩; have HO20 := Xam (Kd.R_iv ho20 (Xbs HB.out)); replace HO11 := Xam (Kd.R_below HO11.out hb); replace HO15 := Xam (Kd.S_below HO15.out hb); replace HB := Xam (Xbt HB.out hb); replace OC := Xam (And.intro (Below.size hb) OC.out); clear hb ho20; obtain ⟨Ao20, co20, eo_⟩ := Kd.R_slice HO20.out; subst eo_) | ((with_reducible refine gate_callee (f := 37) rfl ?_); refine goesL_ (some 34) rfl rfl Try.func37 (by kernel_rfl) rfl #[.slice Ao20 t18.length co20, .slice Ao11 t9.length co11] rfl (by (try simp only [List.map_toArray, List.map_cons, List.map_nil]); first | done | rfl) ?_; (with_reducible refine (laws_eqByteS.calls k _ _ t18 _ _ t9 true _ ?side1 ?side2 ?side3 ?side4 E24.out).mono ?_); (case side1 => exact (Kd.R_reads' HO20.out).2.2); (case side2 => exact (Kd.R_reads' HO20.out).2.1); (case side3 => exact (Kd.R_reads' HO11.out).2.2); (case side4 => exact (Kd.R_reads' HO11.out).2.1); rintro e w22 ⟨rfl, hd_⟩; have hb := drawn_below hd_; clear hd_; refine ⟨_, rfl, ?_⟩; replace HO11 := Xam (Kd.R_below HO11.out hb); replace HO15 := Xam (Kd.S_below HO15.out hb); replace HO20 := Xam (Kd.R_below HO20.out hb); replace HB := Xam (Xbt HB.out hb); replace OC := Xam (And.intro (Below.size hb) OC.out); clear hb) | ((with_reducible refine gate_callee (f := 35) rfl ?_); refine goesL_ (some 43) rfl rfl Try.func35 (by kernel_rfl) rfl #[.slice A0 l0.length c0] rfl (by (try simp only [List.map_toArray, List.map_cons, List.map_nil]); first | done | rfl) ?_; (with_reducible refine (laws_toSignedAnswerS.calls k _ _ l0 t26 _ ?side1 ?side2 E28.out).mono ?_); (case side1 => exact (Kd.C_below HR0.out HB.out)); (case side2 => exact HC0.out); rintro e w25 ⟨v27, rfl, ho27, hb⟩; refine ⟨_, rfl, ?_⟩; have HO27 := Xam (Kd.S_iv ho27 (Xbs HB.out)); replace HO11 := Xam (Kd.R_below HO11.out hb); replace HO15 := Xam (Kd.S_below HO15.out hb); replace HO20 := Xam (Kd.R_below HO20.out hb); replace HB := Xam (Xbt HB.out hb); replace OC := Xam (And.intro (Below.size hb) OC.out); clear hb ho27; obtain ⟨Ao27, co27, eo_⟩ := Kd.S_slice HO27.out; subst eo_) | ((with_reducible refine gate_callee (f := 38) rfl ?_); refine goesL_ (some 44) rfl rfl Try.func38 (by kernel_rfl) rfl #[.slice Ao15 t14.length co15, .slice Ao27 t26.length co27] rfl (by (try simp only [List.map_toArray, List.map_cons, List.map_nil]); first | done | rfl) ?_; (with_reducible refine (laws_eqSignedAnswerS.calls k _ _ t14 _ _ t26 true _ ?side1 ?side2 ?side3 ?side4 E31.out).mono ?_); (case side1 => exact (Kd.S_reads' HO15.out).2.2); (case side2 => exact (Kd.S_reads' HO15.out).2.1); (case side3 => exact (Kd.S_reads' HO27.out).2.2); (case side4 => exact (Kd.S_reads' HO27.out).2.1); rintro e w29 ⟨rfl, hb⟩; refine ⟨_, rfl, ?_⟩; clear HO27; replace HO11 := Xam (Kd.R_below HO11.out hb); replace HO15 := Xam (Kd.S_below HO15.out hb); replace HO20 := Xam (Kd.R_below HO20.out hb); replace HB := Xam (Xbt HB.out hb); replace OC := Xam (And.intro (Below.size hb) OC.out); clear hb) | ((with_reducible refine gate_callee (f := 39) rfl ?_); refine goesL_ (some 48) rfl rfl Try.func39 (by kernel_rfl) rfl #[.slice Ao15 t14.length co15, .int .i64 1] rfl (by (try simp only [List.map_toArray, List.map_cons, List.map_nil]); first | done | rfl) ?_; (with_reducible refine (laws_markSignedAnswerS.calls k (iv w8.heap.size w13.heap.size) (.slice Ao15 t14.length co15) t14 1 t33 t34 w _ ?side2 ?side1 E35.out).mono ?_); (case side1 => exact HO15.out); (case side2 => exact HB.out); rintro e w32 ⟨rfl, hy, hb, hkp⟩; refine ⟨_, rfl, ?_⟩; replace HO15 := Xam hy; replace HO11 := Xam (Kd.R_kv HO11.out hkp (fun k_ h1_ h2_ h3_ => by have h4_ := OC.out; have h5_ : (_ : Nat) ≤ k_ ∧ k_ < _ := h3_; omega)); replace HO20 := Xam (Kd.R_kv HO20.out hkp (fun k_ h1_ h2_ h3_ => by have h4_ := OC.out; have h5_ : (_ : Nat) ≤ k_ ∧ k_ < _ := h3_; omega)); replace HB := Xam hb; replace OC := Xam (And.intro hkp.1 OC.out); clear hy hb hkp; clear HO15) | ((go_at_call 37); (with_reducible refine (laws_eqByteS.calls k _ _ t18 _ _ t9 true _ ?side1 ?side2 ?side3 ?side4 E38.out).mono ?_); (case side1 => exact (Kd.R_reads' HO20.out).2.2); (case side2 => exact (Kd.R_reads' HO20.out).2.1); (case side3 => exact (Kd.R_reads' HO11.out).2.2); (case side4 => exact (Kd.R_reads' HO11.out).2.1); rintro e w36 ⟨rfl, hd_⟩; have hb := drawn_below hd_; clear hd_; replace HO11 := Xam (Kd.R_below HO11.out hb); replace HO20 := Xam (Kd.R_below HO20.out hb); replace HB := Xam (Xbt HB.out hb); replace OC := Xam (And.intro (Below.size hb) OC.out); clear hb) | ((with_reducible refine gate_callee (f := 40) rfl ?_); refine goesL_ (some 64) rfl rfl Try.func40 (by kernel_rfl) rfl #[.slice Ao20 t18.length co20, .int .i64 1] rfl (by (try simp only [List.map_toArray, List.map_cons, List.map_nil]); first | done | rfl) ?_; (with_reducible refine (laws_markByteS.calls k (iv w13.heap.size w17.heap.size) (.slice Ao20 t18.length co20) t18 1 t40 t41 w _ ?side2 ?side1 E42.out).mono ?_); (case side1 => exact HO20.out); (case side2 => exact HB.out); rintro e w39 ⟨rfl, hy, hb, hkp⟩; refine ⟨_, rfl, ?_⟩; replace HO20 := Xam (Kd.R_reok rfl hy (fun k_ e_ => HO20.out.1 k_ e_)); replace HO11 := Xam (Kd.R_kv HO11.out hkp (fun k_ h1_ h2_ h3_ => by have h4_ := OC.out; have h5_ : (_ : Nat) ≤ k_ ∧ k_ < _ := h3_; omega)); replace HB := Xam hb; replace OC := Xam (And.intro hkp.1 OC.out); clear hy hb hkp) | ((with_reducible refine gate_callee (f := 41) rfl ?_); refine goesL_ (some 67) rfl rfl Try.func41 (by kernel_rfl) rfl #[.slice Ao20 t41.length co20, .int .i64 1] rfl (by (try simp only [List.map_toArray, List.map_cons, List.map_nil]); first | done | rfl | (rw [show t41.length = t18.length from (Kd.R_reads' HO20.out).1.symm] <;> rfl)) ?_; (with_reducible refine (laws_heldByteS.calls k _ _ t41 1 t44 _ ?side1 ?side2 E45.out).mono ?_); (case side1 => exact (Kd.R_reads' HO20.out).2.2); (case side2 => exact Nat.le_trans (Nat.le_of_eq (Kd.R_reads' HO20.out).1.symm) (Kd.R_reads' HO20.out).2.1); rintro e w43 ⟨rfl, hd_⟩; have hb := drawn_below hd_; clear hd_; refine ⟨_, rfl, ?_⟩; replace HO11 := Xam (Kd.R_below HO11.out hb); replace HO20 := Xam (Kd.R_below HO20.out hb); replace HB := Xam (Xbt HB.out hb); replace OC := Xam (And.intro (Below.size hb) OC.out); clear hb) | ((with_reducible refine gate_callee (f := 35) rfl ?_); refine goesL_ (some 75) rfl rfl Try.func35 (by kernel_rfl) rfl #[.slice A0 l0.length c0] rfl (by (try simp only [List.map_toArray, List.map_cons, List.map_nil]); first | done | rfl) ?_; (with_reducible refine (laws_toSignedAnswerS.calls k _ _ l0 t47 _ ?side1 ?side2 E49.out).mono ?_); (case side1 => exact (Kd.C_below HR0.out HB.out)); (case side2 => exact HC0.out); rintro e w46 ⟨v48, rfl, ho48, hb⟩; refine ⟨_, rfl, ?_⟩; have HO48 := Xam (Kd.S_iv ho48 (Xbs HB.out)); replace HO11 := Xam (Kd.R_below HO11.out hb); replace HO20 := Xam (Kd.R_below HO20.out hb); replace HB := Xam (Xbt HB.out hb); replace OC := Xam (And.intro (Below.size hb) OC.out); clear hb ho48; obtain ⟨Ao48, co48, eo_⟩ := Kd.S_slice HO48.out; subst eo_) | ((with_reducible refine gate_callee (f := 36) rfl ?_); refine goesL_ (some 76) rfl rfl Try.func36 (by kernel_rfl) rfl #[.slice Ao48 t47.length co48] rfl (by (try simp only [List.map_toArray, List.map_cons, List.map_nil]); first | done | rfl) ?_; (with_reducible refine (impl_AnswersToCell.calls k (iv w43.heap.size w46.heap.size) _ _ t47 t51 t52 _ ?side1 E54.out).mono ?_); (case side1 => exact Kd.S_V HO48.out); rintro e w50 ⟨v53, rfl, ho53, hb⟩; refine ⟨_, rfl, ?_⟩; have HO53 := Xam (Kd.R_iv ho53 (Xbs HB.out)); clear HO48; replace HO11 := Xam (Kd.R_below HO11.out hb); replace HO20 := Xam (Kd.R_below HO20.out hb); replace HB := Xam (Xbt HB.out hb); replace OC := Xam (And.intro (Below.size hb) OC.out); clear hb ho53; obtain ⟨Ao53, co53, eo_⟩ := Kd.R_slice HO53.out; subst eo_) | ((with_reducible refine gate_callee (f := 37) rfl ?_); refine goesL_ (some 81) rfl rfl Try.func37 (by kernel_rfl) rfl #[.slice Ao53 t51.length co53, .slice Ao11 t9.length co11] rfl (by (try simp only [List.map_toArray, List.map_cons, List.map_nil]); first | done | rfl) ?_; (with_reducible refine (laws_eqByteS.calls k _ _ t51 _ _ t9 true _ ?side1 ?side2 ?side3 ?side4 E57.out).mono ?_); (case side1 => exact (Kd.R_reads' HO53.out).2.2); (case side2 => exact (Kd.R_reads' HO53.out).2.1); (case side3 => exact (Kd.R_reads' HO11.out).2.2); (case side4 => exact (Kd.R_reads' HO11.out).2.1); rintro e w55 ⟨rfl, hd_⟩; have hb := drawn_below hd_; clear hd_; refine ⟨_, rfl, ?_⟩; clear HO11 HO53; replace HO20 := Xam (Kd.R_below HO20.out hb); replace HB := Xam (Xbt HB.out hb); replace OC := Xam (And.intro (Below.size hb) OC.out); clear hb) | ((with_reducible refine gate_callee (f := 41) rfl ?_); refine goesL_ (some 90) rfl rfl Try.func41 (by kernel_rfl) rfl #[.slice Ao20 t41.length co20, .int .i64 1] rfl (by (try simp only [List.map_toArray, List.map_cons, List.map_nil]); first | done | rfl | (rw [show t41.length = t18.length from (Kd.R_reads' HO20.out).1.symm] <;> rfl)) ?_; (with_reducible refine (laws_heldByteS.calls k _ _ t41 1 t59 _ ?side1 ?side2 E60.out).mono ?_); (case side1 => exact (Kd.R_reads' HO20.out).2.2); (case side2 => exact Nat.le_trans (Nat.le_of_eq (Kd.R_reads' HO20.out).1.symm) (Kd.R_reads' HO20.out).2.1); rintro e w58 ⟨rfl, hd_⟩; have hb := drawn_below hd_; clear hd_; refine ⟨_, rfl, ?_⟩; clear HO20; replace HB := Xam (Xbt HB.out hb); replace OC := Xam (And.intro (Below.size hb) OC.out); clear hb))
  go_ret
  exact ⟨by first | rfl | (simp; done), HB.out⟩
/-- THE ONE PURE STATEMENT of laws_FnExactAnswersToCell. -/
def laws_FnExactAnswersToCell.Pure : Prop := ∀ (l0 : List (S154)), (l0.length ≤ maxLen ∧ ∀ z101 ∈ l0, ((Lit.int .i64 z101.f0).wf = true) ∧ ((Lit.int .i64 z101.f1).wf = true) ∧ (z101.f2.length ≤ maxLen ∧ ∀ z102 ∈ z101.f2, (Lit.int .i64 z102).wf = true) ∧ (z101.f3.length ≤ maxLen ∧ ∀ z103 ∈ z101.f3, (Lit.int .u8 z103).wf = true) ∧ ((Lit.int .i64 z101.f4).wf = true)) → ∃ k, laws_FnExactAnswersToCell.f k l0 = some true


end Go.Proofs.Ytgdfnoipcompkaa.Q
