-- written by a program of this session (qprint.py) over the kit's print.py
import Derived.Test.YtbffeiakdigdmaaQx0
import Derived.Test.YtbffeiakdigdmaaQx25
namespace Go.Proofs.Ytbffeiakdigdmaa.Q
open Go.RowKit Go.Proofs.YtbffeiakdigdmaaW.PrintWords Go.Proofs.YtbffeiakdigdmaaW.PrintLast Go.Proofs.YtbffeiakdigdmaaW.PrintMore Go.Proofs.YtbffeiakdigdmaaW.PrintWords Go.Proofs.YtbffeiakdigdmaaW.PrintWords.QPW
attribute [local go_sem] max2_int min2_int max_two min_two max_three min_three max_four min_four   -- for this text's walks alone
set_option linter.unusedVariables false
set_option linter.unusedSimpArgs false

/-! ### laws_toSenderGroup: function 49 -/
def laws_toSenderGroup.f (k : Nat) (a0_0 : Int) (a0_1 : Int) (a0_2 : Int) (l0_3 : List Int) : Option (Int × Int × Int × List Int) := (laws_toIntS.f k l0_3).bind fun t597 => (some (a0_0, a0_1, a0_2, t597))
theorem laws_toSenderGroup.mono : ∀ a0 a1 a2 a3 k, LeO (laws_toSenderGroup.f k a0 a1 a2 a3) (laws_toSenderGroup.f (k + 1) a0 a1 a2 a3) := by
  intro a0 a1 a2 a3 k
  unfold laws_toSenderGroup.f
  repeat' first
      | (with_reducible exact laws_toIntS.mono _ _)
      | (with_reducible exact LeO.refl _)
      | (with_reducible exact LeO.none _)
      | (with_reducible refine LeO.ite ?_ ?_)
      | (with_reducible refine LeO.bind ?_ (fun _ => ?_))
      | exact laws_toIntS.mono _ _
      | exact LeO.none _
      | refine LeO.ite ?_ ?_
      | refine LeO.bind ?_ (fun _ => ?_)
set_option maxHeartbeats 8000000 in
set_option maxRecDepth 100000 in
theorem laws_toSenderGroup.calls (k : Nat) (a0_0 : Int) (a0_1 : Int) (a0_2 : Int) (A0_3 : Option Addr) (c0_3 : Nat) (l0_3 : List Int) (r1 : Int) (r2 : Int) (r3 : Int) (r4 : List Int) (w : World) (hr0_3 : Kd.C (Kd.int .i64) w A0_3 l0_3.length l0_3) (hc0_3 : l0_3.length ≤ c0_3) (h : laws_toSenderGroup.f k a0_0 a0_1 a0_2 l0_3 = some (r1, r2, r3, r4)) :
    Calls Try.prog 49 #[.agg #[.int .i64 a0_0, .int .i64 a0_1, .int .i64 a0_2, .slice A0_3 l0_3.length c0_3]] w fun e w' => ∃ v3_ : Value, e = .returned (.agg #[.int .i64 r1, .int .i64 r2, .int .i64 r3, v3_]) ∧ Kd.R (Kd.int .i64) 3 w' w.heap.size (fun _ => True) v3_ r4 ∧ Below w.heap.size w w' := by
  have hu64 := Try.underlying64
  have hu67 := Try.underlying67
  have HR0_3 := Xam hr0_3
  have HC0_3 := Xam hc0_3
  clear hr0_3 hc0_3
  have HB := Xam (Below.refl w.heap.size w)
  have H : ((laws_toIntS.f k l0_3).bind fun t597 => (some (a0_0, a0_1, a0_2, t597))) = some (r1, r2, r3, r4) := h
  clear h
  replace H := Option.bind_eq_some_iff.mp H
  obtain ⟨t597, A20, H⟩ := H
  replace H : (some (a0_0, a0_1, a0_2, t597)) = some (r1, r2, r3, r4) := H
  have A2 := Xam A20
  clear A20
  simp only [Option.some.injEq, Prod.mk.injEq] at H
  obtain ⟨rfl, rfl, rfl, rfl⟩ := H
  go_enter Try.func49, Try.ntmps49
  go_wp2_with (first | ((with_reducible refine gate_dst (N := 1) rfl ?_); refine box_event ?hg (N := 1) ?hd (cs := #[.int .i64 a0_0, .int .i64 a0_1, .int .i64 a0_2, .slice A0_3 l0_3.length c0_3]) (t := 64) ?hr ?_; (case hd => rfl); (case hg => rfl); (case hr => first | (go_simp; done) | (go_simp; rfl)); intro gb594 hg w3 hbox hb; have n0_ := Xam (Xbt (by repeat (first | (with_reducible first | exact HB.out | apply Xba | apply Xbn | apply Xbd) | exact HB.out)) hb); have n1_ := Xam (hbox); have n2_ := Xam ((by rw [hg]; exact (Xbs (by repeat (first | (with_reducible first | exact HB.out | apply Xba | apply Xbn | apply Xbd) | exact HB.out))) : w.heap.size ≤ gb594)); have n3_ := Xam ((by rw [hg]; exact (Xbs (by repeat (first | (with_reducible first | exact HB.out | apply Xba | apply Xbn | apply Xbd) | exact HB.out))) : w.heap.size ≤ gb594)); clear HB; have HB := n0_; have BK594 := n1_; have GW594 := n2_; have GE594 := n3_; clear n0_ n1_ n2_ n3_; clear hb hbox hg) | ((with_reducible refine gate_dst (N := 2) rfl ?_); refine box_event ?hg (N := 2) ?hd (cs := #[.int .i64 0, .int .i64 0, .int .i64 0, .slice none 0 0]) (t := 67) ?hr ?_; (case hd => rfl); (case hg => rfl); (case hr => first | (go_simp; done) | (go_simp; rfl)); intro gb595 hg w4 hbox hb; have n0_ := Xam (Xbb (g := gb594) (o := .cells #[.int .i64 a0_0, .int .i64 a0_1, .int .i64 a0_2, .slice A0_3 l0_3.length c0_3] 64 (0, 0)) (by (with_reducible repeat (first | refine Xkn ?_ _ | refine Xkd ?_ | refine Xka ?_ _)); exact BK594.out) hb); have n1_ := Xam (Xbt (by repeat (first | (with_reducible first | exact HB.out | apply Xba | apply Xbn | apply Xbd | refine Xbe ?_ GE594.out) | exact HB.out)) hb); have n2_ := Xam (hbox); have n3_ := Xam ((by rw [hg]; exact (Xbs (by repeat (first | (with_reducible first | exact HB.out | apply Xba | apply Xbn | apply Xbd | refine Xbe ?_ GE594.out) | exact HB.out))) : w.heap.size ≤ gb595)); have n4_ := Xam ((by rw [hg]; exact (Xbs (by repeat (first | (with_reducible first | exact HB.out | apply Xba | apply Xbn | apply Xbd | refine Xbe ?_ GE594.out) | exact HB.out))) : w.heap.size ≤ gb595)); have n5_ := Xam ((by rw [hg]; exact Nat.ne_of_lt (Xbl (g := gb594) (o := .cells #[.int .i64 a0_0, .int .i64 a0_1, .int .i64 a0_2, .slice A0_3 l0_3.length c0_3] 64 (0, 0)) (by (with_reducible repeat (first | refine Xkn ?_ _ | refine Xkd ?_ | refine Xka ?_ _)); exact BK594.out)) : gb594 ≠ gb595)); have n6_ := Xam ((by rw [hg]; exact Nat.ne_of_gt (Xbl (g := gb594) (o := .cells #[.int .i64 a0_0, .int .i64 a0_1, .int .i64 a0_2, .slice A0_3 l0_3.length c0_3] 64 (0, 0)) (by (with_reducible repeat (first | refine Xkn ?_ _ | refine Xkd ?_ | refine Xka ?_ _)); exact BK594.out)) : gb595 ≠ gb594)); clear BK594; clear HB; have BK594 := n0_; have HB := n1_; have BK595 := n2_; have GW595 := n3_; have GE595 := n4_; have NB594_595 := n5_; have NB595_594 := n6_; clear n0_ n1_ n2_ n3_ n4_ n5_ n6_; clear hb hbox hg) | ((with_reducible refine gate_dst (N := 3) rfl ?_); refine box_event ?hg (N := 3) ?hd (cs := #[.int .i64 0, .int .i64 0, .int .i64 0, .slice none 0 0]) (t := 67) ?hr ?_; (case hd => rfl); (case hg => rfl); (case hr => first | (go_simp; done) | (go_simp; rfl)); intro gb596 hg w5 hbox hb; have n0_ := Xam (Xbb (g := gb594) (o := .cells #[.int .i64 a0_0, .int .i64 a0_1, .int .i64 a0_2, .slice A0_3 l0_3.length c0_3] 64 (0, 0)) (by (with_reducible repeat (first | refine Xkn ?_ _ | refine Xkd ?_ | refine Xka ?_ _)); exact BK594.out) hb); have n1_ := Xam (Xbb (g := gb595) (o := .cells #[.int .i64 0, .int .i64 0, .int .i64 0, .slice none 0 0] 67 (0, 0)) (by (with_reducible repeat (first | refine Xkn ?_ _ | refine Xkd ?_ | refine Xka ?_ _)); exact BK595.out) hb); have n2_ := Xam (Xbt (by repeat (first | (with_reducible first | exact HB.out | apply Xba | apply Xbn | apply Xbd | refine Xbe ?_ GE594.out | refine Xbe ?_ GE595.out) | exact HB.out)) hb); have n3_ := Xam (hbox); have n4_ := Xam ((by rw [hg]; exact (Xbs (by repeat (first | (with_reducible first | exact HB.out | apply Xba | apply Xbn | apply Xbd | refine Xbe ?_ GE594.out | refine Xbe ?_ GE595.out) | exact HB.out))) : w.heap.size ≤ gb596)); have n5_ := Xam ((by rw [hg]; exact (Xbs (by repeat (first | (with_reducible first | exact HB.out | apply Xba | apply Xbn | apply Xbd | refine Xbe ?_ GE594.out | refine Xbe ?_ GE595.out) | exact HB.out))) : w.heap.size ≤ gb596)); have n6_ := Xam ((by rw [hg]; exact Nat.ne_of_lt (Xbl (g := gb594) (o := .cells #[.int .i64 a0_0, .int .i64 a0_1, .int .i64 a0_2, .slice A0_3 l0_3.length c0_3] 64 (0, 0)) (by (with_reducible repeat (first | refine Xkn ?_ _ | refine Xkd ?_ | refine Xka ?_ _)); exact BK594.out)) : gb594 ≠ gb596)); have n7_ := Xam ((by rw [hg]; exact Nat.ne_of_gt (Xbl (g := gb594) (o := .cells #[.int .i64 a0_0, .int .i64 a0_1, .int .i64 a0_2, .slice A0_3 l0_3.length c0_3] 64 (0, 0)) (by (with_reducible repeat (first | refine Xkn ?_ _ | refine Xkd ?_ | refine Xka ?_ _)); exact BK594.out)) : gb596 ≠ gb594)); have n8_ := Xam ((by rw [hg]; exact Nat.ne_of_lt (Xbl (g := gb595) (o := .cells #[.int .i64 0, .int .i64 0, .int .i64 0, .slice none 0 0] 67 (0, 0)) (by (with_reducible repeat (first | refine Xkn ?_ _ | refine Xkd ?_ | refine Xka ?_ _)); exact BK595.out)) : gb595 ≠ gb596)); have n9_ := Xam ((by rw [hg]; exact Nat.ne_of_gt (Xbl (g := gb595) (o := .cells #[.int .i64 0, .int .i64 0, .int .i64 0, .slice none 0 0] 67 (0, 0)) (by (with_reducible repeat (first | refine Xkn ?_ _ | refine Xkd ?_ | refine Xka ?_ _)); exact BK595.out)) : gb596 ≠ gb595)); clear BK594; clear BK595; clear HB; have BK594 := n0_; have BK595 := n1_; have HB := n2_; have BK596 := n3_; have GW596 := n4_; have GE596 := n5_; have NB594_596 := n6_; have NB596_594 := n7_; have NB595_596 := n8_; have NB596_595 := n9_; clear n0_ n1_ n2_ n3_ n4_ n5_ n6_ n7_ n8_ n9_; clear hb hbox hg; have hnb6 := NB594_595.out; have hnc6 := NB595_594.out; have hnb7 := NB594_596.out; have hnc7 := NB596_594.out; have hcz8_0 : w5.cell? ⟨gb594, 0, none⟩ = some (.int .i64 a0_0) := (Xbc BK594.out 0).trans rfl; have hcz8_1 : w5.cell? ⟨gb594, 1, none⟩ = some (.int .i64 a0_1) := (Xbc BK594.out 1).trans rfl; have hcz8_2 : w5.cell? ⟨gb594, 2, none⟩ = some (.int .i64 a0_2) := (Xbc BK594.out 2).trans rfl; have hcz8_3 : w5.cell? ⟨gb594, 3, none⟩ = some (.slice A0_3 l0_3.length c0_3) := (Xbc BK594.out 3).trans rfl; have hfz8_0 := Xbf BK594.out 0; have hfz8_1 := Xbf BK594.out 1; have hfz8_2 := Xbf BK594.out 2; have hfz8_3 := Xbf BK594.out 3; have hnb9 := NB596_595.out; have hnc9 := NB595_596.out; have hcz10_0 : w5.cell? ⟨gb596, 0, none⟩ = some (.int .i64 0) := (Xbc BK596.out 0).trans rfl; have hcz10_1 : w5.cell? ⟨gb596, 1, none⟩ = some (.int .i64 0) := (Xbc BK596.out 1).trans rfl; have hcz10_2 : w5.cell? ⟨gb596, 2, none⟩ = some (.int .i64 0) := (Xbc BK596.out 2).trans rfl; have hcz10_3 : w5.cell? ⟨gb596, 3, none⟩ = some (.slice none 0 0) := (Xbc BK596.out 3).trans rfl; have hfz10_0 := Xbf BK596.out 0; have hfz10_1 := Xbf BK596.out 1; have hfz10_2 := Xbf BK596.out 2; have hfz10_3 := Xbf BK596.out 3) | ((with_reducible refine gate_callee (f := 94) rfl ?_); refine goesL_ (some 15) rfl rfl Try.func94 (by kernel_rfl) rfl #[.slice A0_3 l0_3.length c0_3] rfl (by (try simp only [List.map_toArray, List.map_cons, List.map_nil]); first | done | rfl | (simp only [List.length_drop, List.length_take]; rfl)) ?_; (with_reducible refine (laws_toIntS.calls k _ _ l0_3 t597 _ ?side1 ?side2 A2.out).mono ?_); (case side1 => exact Kd.C_below HR0_3.out (by repeat (first | (with_reducible first | exact HB.out | apply Xba | apply Xbn | apply Xbd | refine Xbe ?_ GE594.out | refine Xbe ?_ GE595.out | refine Xbe ?_ GE596.out) | exact HB.out))); (case side2 => exact HC0_3.out); rintro e w11 ⟨v598, rfl, ho0, hb⟩; refine ⟨_, rfl, ?_⟩; have n0_ := Xam (Kd.R_lower ho0 (Xbs (by repeat (first | (with_reducible first | exact HB.out | apply Xba | apply Xbn | apply Xbd | refine Xbe ?_ GE594.out | refine Xbe ?_ GE595.out | refine Xbe ?_ GE596.out) | exact HB.out)))); have n1_ := Xam (Xbb (g := gb594) (o := .cells #[.int .i64 a0_0, .int .i64 a0_1, .int .i64 a0_2, .slice A0_3 l0_3.length c0_3] 64 (0, 0)) (by (with_reducible repeat (first | refine Xkn ?_ _ | refine Xkd ?_ | refine Xka ?_ _)); refine blk_far ?_ NB594_596.out _; (with_reducible repeat (first | refine Xkn ?_ _ | refine Xkd ?_ | refine Xka ?_ _)); refine blk_far ?_ NB594_596.out _; (with_reducible repeat (first | refine Xkn ?_ _ | refine Xkd ?_ | refine Xka ?_ _)); refine blk_far ?_ NB594_596.out _; (with_reducible repeat (first | refine Xkn ?_ _ | refine Xkd ?_ | refine Xka ?_ _)); exact BK594.out) hb); have n2_ := Xam (Xbb (g := gb595) (o := .cells #[.int .i64 0, .int .i64 0, .int .i64 0, .slice none 0 0] 67 (0, 0)) (by (with_reducible repeat (first | refine Xkn ?_ _ | refine Xkd ?_ | refine Xka ?_ _)); refine blk_far ?_ NB595_596.out _; (with_reducible repeat (first | refine Xkn ?_ _ | refine Xkd ?_ | refine Xka ?_ _)); refine blk_far ?_ NB595_596.out _; (with_reducible repeat (first | refine Xkn ?_ _ | refine Xkd ?_ | refine Xka ?_ _)); refine blk_far ?_ NB595_596.out _; (with_reducible repeat (first | refine Xkn ?_ _ | refine Xkd ?_ | refine Xka ?_ _)); exact BK595.out) hb); have n3_ := Xam (Xbb (g := gb596) (o := .cells #[.int .i64 a0_0, .int .i64 a0_1, .int .i64 a0_2, .slice none 0 0] 67 (0, 0)) (by (with_reducible repeat (first | refine Xkn ?_ _ | refine Xkd ?_ | refine Xka ?_ _)); refine blk_put (cs := #[.int .i64 a0_0, .int .i64 a0_1, .int .i64 0, .slice none 0 0]) ?_ 2 _ rfl; (with_reducible repeat (first | refine Xkn ?_ _ | refine Xkd ?_ | refine Xka ?_ _)); refine blk_put (cs := #[.int .i64 a0_0, .int .i64 0, .int .i64 0, .slice none 0 0]) ?_ 1 _ rfl; (with_reducible repeat (first | refine Xkn ?_ _ | refine Xkd ?_ | refine Xka ?_ _)); refine blk_put (cs := #[.int .i64 0, .int .i64 0, .int .i64 0, .slice none 0 0]) ?_ 0 _ rfl; (with_reducible repeat (first | refine Xkn ?_ _ | refine Xkd ?_ | refine Xka ?_ _)); exact BK596.out) hb); have n4_ := Xam (Xbt (by repeat (first | (with_reducible first | exact HB.out | apply Xba | apply Xbn | apply Xbd | refine Xbe ?_ GE594.out | refine Xbe ?_ GE595.out | refine Xbe ?_ GE596.out) | exact HB.out)) hb); clear BK594; clear BK595; clear BK596; clear HB; have HO599 := n0_; have BK594 := n1_; have BK595 := n2_; have BK596 := n3_; have HB := n4_; clear n0_ n1_ n2_ n3_ n4_; (try clear hb); (try clear hb2); (try clear hk); (try clear hi); (try clear ho0); obtain ⟨Ao12, co12, eo12⟩ := Kd.R_slice HO599.out; subst eo12; have hcz13_0 : w11.cell? ⟨gb596, 0, none⟩ = some (.int .i64 a0_0) := (Xbc BK596.out 0).trans rfl; have hcz13_1 : w11.cell? ⟨gb596, 1, none⟩ = some (.int .i64 a0_1) := (Xbc BK596.out 1).trans rfl; have hcz13_2 : w11.cell? ⟨gb596, 2, none⟩ = some (.int .i64 a0_2) := (Xbc BK596.out 2).trans rfl; have hcz13_3 : w11.cell? ⟨gb596, 3, none⟩ = some (.slice none 0 0) := (Xbc BK596.out 3).trans rfl; have hfz13_0 := Xbf BK596.out 0; have hfz13_1 := Xbf BK596.out 1; have hfz13_2 := Xbf BK596.out 2; have hfz13_3 := Xbf BK596.out 3; have hcz14_0 : w11.cell? ⟨gb595, 0, none⟩ = some (.int .i64 0) := (Xbc BK595.out 0).trans rfl; have hcz14_1 : w11.cell? ⟨gb595, 1, none⟩ = some (.int .i64 0) := (Xbc BK595.out 1).trans rfl; have hcz14_2 : w11.cell? ⟨gb595, 2, none⟩ = some (.int .i64 0) := (Xbc BK595.out 2).trans rfl; have hcz14_3 : w11.cell? ⟨gb595, 3, none⟩ = some (.slice none 0 0) := (Xbc BK595.out 3).trans rfl; have hfz14_0 := Xbf BK595.out 0; have hfz14_1 := Xbf BK595.out 1; have hfz14_2 := Xbf BK595.out 2; have hfz14_3 := Xbf BK595.out 3))
  refine bodyPost_ret (results_cell_row rfl _ _ gb595 67 #[.int .i64 a0_0, .int .i64 a0_1, .int .i64 a0_2, .slice Ao12 t597.length co12] (0, 0) _ rfl (by (with_reducible repeat (first | refine Xkn ?_ _ | refine Xkd ?_ | refine Xka ?_ _)); refine blk_put (cs := #[.int .i64 a0_0, .int .i64 a0_1, .int .i64 a0_2, .slice none 0 0]) ?_ 3 _ rfl; (with_reducible repeat (first | refine Xkn ?_ _ | refine Xkd ?_ | refine Xka ?_ _)); refine blk_put (cs := #[.int .i64 a0_0, .int .i64 a0_1, .int .i64 0, .slice none 0 0]) ?_ 2 _ rfl; (with_reducible repeat (first | refine Xkn ?_ _ | refine Xkd ?_ | refine Xka ?_ _)); refine blk_put (cs := #[.int .i64 a0_0, .int .i64 0, .int .i64 0, .slice none 0 0]) ?_ 1 _ rfl; (with_reducible repeat (first | refine Xkn ?_ _ | refine Xkd ?_ | refine Xka ?_ _)); refine blk_put (cs := #[.int .i64 0, .int .i64 0, .int .i64 0, .slice none 0 0]) ?_ 0 _ rfl; (with_reducible repeat (first | refine Xkn ?_ _ | refine Xkd ?_ | refine Xka ?_ _)); refine blk_far ?_ NB595_596.out _; (with_reducible repeat (first | refine Xkn ?_ _ | refine Xkd ?_ | refine Xka ?_ _)); exact BK595.out) Try.underlying67 rfl (by kernel_rfl)) rfl ?_
  exact ⟨_, by first | rfl | (simp [errW_none, errW_some] <;> rfl) | (simp [*, errW_none, errW_some] <;> rfl), by (with_reducible repeat (first | apply Xra | apply Xrn | apply Xrd)); exact Kd.R_mono (Kd.R_far (p := ⟨gb595, 3, none⟩) (Kd.R_far (p := ⟨gb595, 2, none⟩) (Kd.R_far (p := ⟨gb595, 1, none⟩) (Kd.R_far (p := ⟨gb595, 0, none⟩) (Kd.R_far (p := ⟨gb596, 3, none⟩) (Kd.R_types (Kd.R_types HO599.out BK596.out (by decide)) BK595.out (by decide)) (fun _ hk => hk.1.2) (.slice Ao12 t597.length co12)) (fun _ hk => hk.2) (.int .i64 a0_0)) (fun _ hk => hk.2) (.int .i64 a0_1)) (fun _ hk => hk.2) (.int .i64 a0_2)) (fun _ hk => hk.2) (.slice Ao12 t597.length co12)) (fun _ hk => trivial), by repeat (first | (with_reducible first | exact HB.out | apply Xba | apply Xbn | apply Xbd | refine Xbe ?_ GE594.out | refine Xbe ?_ GE595.out | refine Xbe ?_ GE596.out) | exact HB.out)⟩

/-! ### slices_Equal_int: function 95 -/
def slices_Equal_int.l0 : Nat → List Int → List Int → Int → Int → Option (Bool)
  | 0, _, _, _, _ => none
  | k + 1, x0, x1, x12, x13 => if x13 < x12 then (if 0 ≤ x13 then (if x13 < (x0.length : Int) then (if x13 < (x1.length : Int) then (if (rd x0 x13) = (rd x1 x13) then (slices_Equal_int.l0 k x0 x1 x12 (wrap64 (x13 + 1))) else (some false)) else (none)) else (none)) else (none)) else (some true)
def slices_Equal_int.f (k : Nat) (l0 : List Int) (l1 : List Int) : Option (Bool) := if (l0.length : Int) = (l1.length : Int) then (slices_Equal_int.l0 k l0 l1 (l0.length : Int) 0) else (some false)
theorem slices_Equal_int.mono_l : ∀ k, (∀ y0 y1 y2 y3, LeO (slices_Equal_int.l0 k y0 y1 y2 y3) (slices_Equal_int.l0 (k + 1) y0 y1 y2 y3))
  | 0 => fun _ _ _ _ r h => by simp [slices_Equal_int.l0] at h
  | k + 1 => by
    have ih0 := slices_Equal_int.mono_l k
    · intro y0 y1 y2 y3
      unfold slices_Equal_int.l0
      repeat' first
      | (with_reducible exact ih0 _ _ _ _)
      | (with_reducible exact LeO.refl _)
      | (with_reducible exact LeO.none _)
      | (with_reducible refine LeO.ite ?_ ?_)
      | (with_reducible refine LeO.bind ?_ (fun _ => ?_))
      | exact ih0 _ _ _ _
      | exact LeO.none _
      | refine LeO.ite ?_ ?_
      | refine LeO.bind ?_ (fun _ => ?_)
theorem slices_Equal_int.mono : ∀ a0 a1 k, LeO (slices_Equal_int.f k a0 a1) (slices_Equal_int.f (k + 1) a0 a1) := by
  intro a0 a1 k
  have ih0 := slices_Equal_int.mono_l k
  unfold slices_Equal_int.f
  repeat' first
      | (with_reducible exact ih0 _ _ _ _)
      | (with_reducible exact LeO.refl _)
      | (with_reducible exact LeO.none _)
      | (with_reducible refine LeO.ite ?_ ?_)
      | (with_reducible refine LeO.bind ?_ (fun _ => ?_))
      | exact ih0 _ _ _ _
      | exact LeO.none _
      | refine LeO.ite ?_ ?_
      | refine LeO.bind ?_ (fun _ => ?_)
set_option maxHeartbeats 8000000 in
set_option maxRecDepth 100000 in
theorem slices_Equal_int.calls (k : Nat) (A0 : Option Addr) (c0 : Nat) (l0 : List Int) (A1 : Option Addr) (c1 : Nat) (l1 : List Int) (r : Bool) (w : World) (hr0 : Kd.C (Kd.int .i64) w A0 l0.length l0) (hc0 : l0.length ≤ c0) (hr1 : Kd.C (Kd.int .i64) w A1 l1.length l1) (hc1 : l1.length ≤ c1) (h : slices_Equal_int.f k l0 l1 = some r) :
    Calls Try.prog 95 #[.slice A0 l0.length c0, .slice A1 l1.length c1] w fun e w' => e = .returned (.bool r) ∧ Drawn0 w w' := by
  have HR0 := Xam hr0
  have HC0 := Xam hc0
  clear hr0 hc0
  have HR1 := Xam hr1
  have HC1 := Xam hc1
  clear hr1 hc1
  have H : (if (l0.length : Int) = (l1.length : Int) then (slices_Equal_int.l0 k l0 l1 (l0.length : Int) 0) else (some false)) = some r := h
  clear h
  by_cases c3 : (l0.length : Int) = (l1.length : Int)
  · rw [if_pos c3] at H
    have c3b0 : ((l0.length : Int) == (l1.length : Int)) = true := beq_iff_eq.mpr c3
    have c3b1 : ((l0.length : Int) != (l1.length : Int)) = false := bne_eq_false_iff_eq.mpr c3
    have c3b2 : (l0.length == l1.length) = true := by first | simpa using c3 | (simp at c3 ⊢; omega)
    clear c3
    have H' := Xam H
    clear H
    go_enter Try.func95, Try.ntmps95
    go_wp2
    repeat (go_quiet (fail); try go_wp2)
    go_loopg [13] k (fun kq v13 w' => ∃ (x13_1 : Int), v13 = .int .i64 x13_1 ∧ Aside0 (slices_Equal_int.l0 kq l0 l1 (l0.length : Int) x13_1 = some r) ∧ Aside0 (kq ≤ k) ∧ Drawn0 w w')
    case atStart => exact ⟨(0), (by first | rfl | (simp; done) | (simp [*]; done)), H', ⟨Nat.le_refl _⟩, by repeat (first | exact Drawn0.refl _ | apply Drawn0.step)⟩
    case round =>
      clear H'
      try clear c1
      try clear p2
      try clear c3
      try clear c3b0
      try clear c3b1
      try clear c3b2
      obtain ⟨x13_1, rfl, HA, HK1, ⟨m1, rfl⟩⟩ := hrel
      cases gk with
      | zero => exact absurd HA.out (by simp [slices_Equal_int.l0])
      | succ k1 =>
        have H := HA.out
        clear HA
        simp only [slices_Equal_int.l0] at H
        by_cases c4 : x13_1 < (l0.length : Int)
        · rw [if_pos c4] at H
          have c4b0 : decide (x13_1 < (l0.length : Int)) = true := decide_eq_true c4
          clear c4
          by_cases c5 : 0 ≤ x13_1
          · rw [if_pos c5] at H
            have c5b0 : decide (0 ≤ x13_1) = true := decide_eq_true c5
            clear c5
            by_cases c6 : x13_1 < (l0.length : Int)
            · rw [if_pos c6] at H
              have c6b0 : decide (x13_1 < (l0.length : Int)) = true := decide_eq_true c6
              clear c6
              by_cases c7 : x13_1 < (l1.length : Int)
              · rw [if_pos c7] at H
                have c7b0 : decide (x13_1 < (l1.length : Int)) = true := decide_eq_true c7
                clear c7
                by_cases c8 : (rd l0 x13_1) = (rd l1 x13_1)
                · rw [if_pos c8] at H
                  have c8b0 : ((rd l0 x13_1) == (rd l1 x13_1)) = true := beq_iff_eq.mpr c8
                  have c8b1 : ((rd l0 x13_1) != (rd l1 x13_1)) = false := bne_eq_false_iff_eq.mpr c8
                  clear c8
                  have H' := Xam H
                  clear H
                  have p600 : 0 ≤ (x13_1 : Int) := of_decide_eq_true (by first | (with_reducible assumption) | assumption)
                  have q600 : x13_1 < (l0.length : Int) := of_decide_eq_true (by first | (with_reducible assumption) | assumption)
                  obtain ⟨ad600, e600, hx600_0⟩ := Kd.at_int HR0.out x13_1 p600 q600
                  cases e600
                  replace p600 := eq_true p600
                  replace q600 := eq_true q600
                  have p601 : 0 ≤ (x13_1 : Int) := of_decide_eq_true (by first | (with_reducible assumption) | assumption)
                  have q601 : x13_1 < (l1.length : Int) := of_decide_eq_true (by first | (with_reducible assumption) | assumption)
                  obtain ⟨ad601, e601, hx601_0⟩ := Kd.at_int HR1.out x13_1 p601 q601
                  cases e601
                  replace p601 := eq_true p601
                  replace q601 := eq_true q601
                  go_wp2
                  repeat (go_quiet (fail); try go_wp2)
                  go_roundg k1
                  case measure => have := HK1.out; omega
                  case rel => exact ⟨(wrap64 (x13_1 + 1)), (by first | rfl | (simp; done) | (simp [*]; done)), H', ⟨by have := HK1.out; omega⟩, by repeat (first | exact Drawn0.refl _ | apply Drawn0.step)⟩
                · rw [if_neg c8] at H
                  have c8b0 : ((rd l0 x13_1) == (rd l1 x13_1)) = false := beq_eq_false_iff_ne.mpr c8
                  have c8b1 : ((rd l0 x13_1) != (rd l1 x13_1)) = true := bne_iff_ne.mpr c8
                  obtain rfl := Option.some.inj H
                  have p600 : 0 ≤ (x13_1 : Int) := of_decide_eq_true (by first | (with_reducible assumption) | assumption)
                  have q600 : x13_1 < (l0.length : Int) := of_decide_eq_true (by first | (with_reducible assumption) | assumption)
                  obtain ⟨ad600, e600, hx600_0⟩ := Kd.at_int HR0.out x13_1 p600 q600
                  cases e600
                  replace p600 := eq_true p600
                  replace q600 := eq_true q600
                  have p601 : 0 ≤ (x13_1 : Int) := of_decide_eq_true (by first | (with_reducible assumption) | assumption)
                  have q601 : x13_1 < (l1.length : Int) := of_decide_eq_true (by first | (with_reducible assumption) | assumption)
                  obtain ⟨ad601, e601, hx601_0⟩ := Kd.at_int HR1.out x13_1 p601 q601
                  cases e601
                  replace p601 := eq_true p601
                  replace q601 := eq_true q601
                  go_wp2
                  repeat (go_quiet (fail); try go_wp2)
                  go_ret
                  exact ⟨by first | rfl | (simp; done) | (simp [*]; done), by repeat (first | exact Drawn0.refl _ | apply Drawn0.step)⟩
              · rw [if_neg c7] at H
                exact absurd H (by simp)
            · rw [if_neg c6] at H
              exact absurd H (by simp)
          · rw [if_neg c5] at H
            exact absurd H (by simp)
        · rw [if_neg c4] at H
          have c4b0 : decide (x13_1 < (l0.length : Int)) = false := decide_eq_false c4
          clear c4
          obtain rfl := Option.some.inj H
          go_wp2
          repeat (go_quiet (fail); try go_wp2)
          go_ret
          exact ⟨by first | rfl | (simp; done) | (simp [*]; done), by repeat (first | exact Drawn0.refl _ | apply Drawn0.step)⟩
  · rw [if_neg c3] at H
    have c3b0 : ((l0.length : Int) == (l1.length : Int)) = false := beq_eq_false_iff_ne.mpr c3
    have c3b1 : ((l0.length : Int) != (l1.length : Int)) = true := bne_iff_ne.mpr c3
    have c3b2 : (l0.length == l1.length) = false := by first | simpa using c3 | (simp at c3 ⊢; omega)
    obtain rfl := Option.some.inj H
    go_enter Try.func95, Try.ntmps95
    go_wp2
    repeat (go_quiet (fail); try go_wp2)
    go_ret
    exact ⟨by first | rfl | (simp; done) | (simp [*]; done), by repeat (first | exact Drawn0.refl _ | apply Drawn0.step)⟩

/-! ### impl_EqualGroups: function 50 -/
def impl_EqualGroups.f (k : Nat) (a0_0 : Int) (a0_1 : Int) (a0_2 : Int) (l0_3 : List Int) (a1_0 : Int) (a1_1 : Int) (a1_2 : Int) (l1_3 : List Int) : Option (Bool) := if a0_0 = a1_0 then (if a0_1 = a1_1 then (if a0_2 = a1_2 then ((slices_Equal_int.f k l0_3 l1_3).bind fun t604 => (some t604)) else (some false)) else (some false)) else (some false)
theorem impl_EqualGroups.mono : ∀ a0 a1 a2 a3 a4 a5 a6 a7 k, LeO (impl_EqualGroups.f k a0 a1 a2 a3 a4 a5 a6 a7) (impl_EqualGroups.f (k + 1) a0 a1 a2 a3 a4 a5 a6 a7) := by
  intro a0 a1 a2 a3 a4 a5 a6 a7 k
  unfold impl_EqualGroups.f
  repeat' first
      | (with_reducible exact slices_Equal_int.mono _ _ _)
      | (with_reducible exact LeO.refl _)
      | (with_reducible exact LeO.none _)
      | (with_reducible refine LeO.ite ?_ ?_)
      | (with_reducible refine LeO.bind ?_ (fun _ => ?_))
      | exact slices_Equal_int.mono _ _ _
      | exact LeO.none _
      | refine LeO.ite ?_ ?_
      | refine LeO.bind ?_ (fun _ => ?_)
set_option maxHeartbeats 8000000 in
set_option maxRecDepth 100000 in
theorem impl_EqualGroups.calls (k : Nat) (a0_0 : Int) (a0_1 : Int) (a0_2 : Int) (A0_3 : Option Addr) (c0_3 : Nat) (l0_3 : List Int) (a1_0 : Int) (a1_1 : Int) (a1_2 : Int) (A1_3 : Option Addr) (c1_3 : Nat) (l1_3 : List Int) (r : Bool) (w : World) (hr0_3 : Kd.C (Kd.int .i64) w A0_3 l0_3.length l0_3) (hc0_3 : l0_3.length ≤ c0_3) (hr1_3 : Kd.C (Kd.int .i64) w A1_3 l1_3.length l1_3) (hc1_3 : l1_3.length ≤ c1_3) (h : impl_EqualGroups.f k a0_0 a0_1 a0_2 l0_3 a1_0 a1_1 a1_2 l1_3 = some r) :
    Calls Try.prog 50 #[.agg #[.int .i64 a0_0, .int .i64 a0_1, .int .i64 a0_2, .slice A0_3 l0_3.length c0_3], .agg #[.int .i64 a1_0, .int .i64 a1_1, .int .i64 a1_2, .slice A1_3 l1_3.length c1_3]] w fun e w' => e = .returned (.bool r) ∧ Below w.heap.size w w' := by
  have hu67 := Try.underlying67
  have HR0_3 := Xam hr0_3
  have HC0_3 := Xam hc0_3
  clear hr0_3 hc0_3
  have HR1_3 := Xam hr1_3
  have HC1_3 := Xam hc1_3
  clear hr1_3 hc1_3
  have HB := Xam (Below.refl w.heap.size w)
  have H : (if a0_0 = a1_0 then (if a0_1 = a1_1 then (if a0_2 = a1_2 then ((slices_Equal_int.f k l0_3 l1_3).bind fun t604 => (some t604)) else (some false)) else (some false)) else (some false)) = some r := h
  clear h
  by_cases c3 : a0_0 = a1_0
  · rw [if_pos c3] at H
    have c3b0 : (a0_0 == a1_0) = true := beq_iff_eq.mpr c3
    have c3b1 : (a0_0 != a1_0) = false := bne_eq_false_iff_eq.mpr c3
    clear c3
    by_cases c4 : a0_1 = a1_1
    · rw [if_pos c4] at H
      have c4b0 : (a0_1 == a1_1) = true := beq_iff_eq.mpr c4
      have c4b1 : (a0_1 != a1_1) = false := bne_eq_false_iff_eq.mpr c4
      clear c4
      by_cases c5 : a0_2 = a1_2
      · rw [if_pos c5] at H
        have c5b0 : (a0_2 == a1_2) = true := beq_iff_eq.mpr c5
        have c5b1 : (a0_2 != a1_2) = false := bne_eq_false_iff_eq.mpr c5
        clear c5
        replace H := Option.bind_eq_some_iff.mp H
        obtain ⟨t604, A60, H⟩ := H
        replace H : (some t604) = some r := H
        have A6 := Xam A60
        clear A60
        obtain rfl := Option.some.inj H
        go_enter Try.func50, Try.ntmps50
        go_wp2_with (first | ((with_reducible refine gate_dst (N := 2) rfl ?_); refine box_event ?hg (N := 2) ?hd (cs := #[.int .i64 a0_0, .int .i64 a0_1, .int .i64 a0_2, .slice A0_3 l0_3.length c0_3]) (t := 67) ?hr ?_; (case hd => rfl); (case hg => rfl); (case hr => first | (go_simp; done) | (go_simp; rfl)); intro gb602 hg w7 hbox hb; have n0_ := Xam (Xbt (by repeat (first | (with_reducible first | exact HB.out | apply Xba | apply Xbn | apply Xbd) | exact HB.out)) hb); have n1_ := Xam (hbox); have n2_ := Xam ((by rw [hg]; exact (Xbs (by repeat (first | (with_reducible first | exact HB.out | apply Xba | apply Xbn | apply Xbd) | exact HB.out))) : w.heap.size ≤ gb602)); have n3_ := Xam ((by rw [hg]; exact (Xbs (by repeat (first | (with_reducible first | exact HB.out | apply Xba | apply Xbn | apply Xbd) | exact HB.out))) : w.heap.size ≤ gb602)); clear HB; have HB := n0_; have BK602 := n1_; have GW602 := n2_; have GE602 := n3_; clear n0_ n1_ n2_ n3_; clear hb hbox hg) | ((with_reducible refine gate_dst (N := 3) rfl ?_); refine box_event ?hg (N := 3) ?hd (cs := #[.int .i64 a1_0, .int .i64 a1_1, .int .i64 a1_2, .slice A1_3 l1_3.length c1_3]) (t := 67) ?hr ?_; (case hd => rfl); (case hg => rfl); (case hr => first | (go_simp; done) | (go_simp; rfl)); intro gb603 hg w8 hbox hb; have n0_ := Xam (Xbb (g := gb602) (o := .cells #[.int .i64 a0_0, .int .i64 a0_1, .int .i64 a0_2, .slice A0_3 l0_3.length c0_3] 67 (0, 0)) (by (with_reducible repeat (first | refine Xkn ?_ _ | refine Xkd ?_ | refine Xka ?_ _)); exact BK602.out) hb); have n1_ := Xam (Xbt (by repeat (first | (with_reducible first | exact HB.out | apply Xba | apply Xbn | apply Xbd | refine Xbe ?_ GE602.out) | exact HB.out)) hb); have n2_ := Xam (hbox); have n3_ := Xam ((by rw [hg]; exact (Xbs (by repeat (first | (with_reducible first | exact HB.out | apply Xba | apply Xbn | apply Xbd | refine Xbe ?_ GE602.out) | exact HB.out))) : w.heap.size ≤ gb603)); have n4_ := Xam ((by rw [hg]; exact (Xbs (by repeat (first | (with_reducible first | exact HB.out | apply Xba | apply Xbn | apply Xbd | refine Xbe ?_ GE602.out) | exact HB.out))) : w.heap.size ≤ gb603)); have n5_ := Xam ((by rw [hg]; exact Nat.ne_of_lt (Xbl (g := gb602) (o := .cells #[.int .i64 a0_0, .int .i64 a0_1, .int .i64 a0_2, .slice A0_3 l0_3.length c0_3] 67 (0, 0)) (by (with_reducible repeat (first | refine Xkn ?_ _ | refine Xkd ?_ | refine Xka ?_ _)); exact BK602.out)) : gb602 ≠ gb603)); have n6_ := Xam ((by rw [hg]; exact Nat.ne_of_gt (Xbl (g := gb602) (o := .cells #[.int .i64 a0_0, .int .i64 a0_1, .int .i64 a0_2, .slice A0_3 l0_3.length c0_3] 67 (0, 0)) (by (with_reducible repeat (first | refine Xkn ?_ _ | refine Xkd ?_ | refine Xka ?_ _)); exact BK602.out)) : gb603 ≠ gb602)); clear BK602; clear HB; have BK602 := n0_; have HB := n1_; have BK603 := n2_; have GW603 := n3_; have GE603 := n4_; have NB602_603 := n5_; have NB603_602 := n6_; clear n0_ n1_ n2_ n3_ n4_ n5_ n6_; clear hb hbox hg; have hnb9 := NB602_603.out; have hnc9 := NB603_602.out; have hcz10_0 : w8.cell? ⟨gb602, 0, none⟩ = some (.int .i64 a0_0) := (Xbc BK602.out 0).trans rfl; have hcz10_1 : w8.cell? ⟨gb602, 1, none⟩ = some (.int .i64 a0_1) := (Xbc BK602.out 1).trans rfl; have hcz10_2 : w8.cell? ⟨gb602, 2, none⟩ = some (.int .i64 a0_2) := (Xbc BK602.out 2).trans rfl; have hcz10_3 : w8.cell? ⟨gb602, 3, none⟩ = some (.slice A0_3 l0_3.length c0_3) := (Xbc BK602.out 3).trans rfl; have hfz10_0 := Xbf BK602.out 0; have hfz10_1 := Xbf BK602.out 1; have hfz10_2 := Xbf BK602.out 2; have hfz10_3 := Xbf BK602.out 3; have hcz11_0 : w8.cell? ⟨gb603, 0, none⟩ = some (.int .i64 a1_0) := (Xbc BK603.out 0).trans rfl; have hcz11_1 : w8.cell? ⟨gb603, 1, none⟩ = some (.int .i64 a1_1) := (Xbc BK603.out 1).trans rfl; have hcz11_2 : w8.cell? ⟨gb603, 2, none⟩ = some (.int .i64 a1_2) := (Xbc BK603.out 2).trans rfl; have hcz11_3 : w8.cell? ⟨gb603, 3, none⟩ = some (.slice A1_3 l1_3.length c1_3) := (Xbc BK603.out 3).trans rfl; have hfz11_0 := Xbf BK603.out 0; have hfz11_1 := Xbf BK603.out 1; have hfz11_2 := Xbf BK603.out 2; have hfz11_3 := Xbf BK603.out 3) | (go_at_call 95; (with_reducible refine (slices_Equal_int.calls k _ _ l0_3 _ _ l1_3 t604 _ ?side1 ?side2 ?side3 ?side4 A6.out).mono ?_); (case side1 => repeat (first | exact (Kd.C_below HR0_3.out HB.out) | (with_reducible refine Xca ?_ _) | (with_reducible refine Xcn ?_ _) | (with_reducible refine Xcd ?_))); (case side2 => exact HC0_3.out); (case side3 => repeat (first | exact (Kd.C_below HR1_3.out HB.out) | (with_reducible refine Xca ?_ _) | (with_reducible refine Xcn ?_ _) | (with_reducible refine Xcd ?_))); (case side4 => exact HC1_3.out); rintro e w' ⟨rfl, ⟨nd, rfl⟩⟩))
        go_ret
        exact ⟨by first | rfl | (simp [errW_none, errW_some] <;> rfl) | (simp [*, errW_none, errW_some] <;> rfl), by repeat (first | (with_reducible first | exact HB.out | apply Xba | apply Xbn | apply Xbd | refine Xbe ?_ GE602.out | refine Xbe ?_ GE603.out) | exact HB.out)⟩
      · rw [if_neg c5] at H
        have c5b0 : (a0_2 == a1_2) = false := beq_eq_false_iff_ne.mpr c5
        have c5b1 : (a0_2 != a1_2) = true := bne_iff_ne.mpr c5
        obtain rfl := Option.some.inj H
        go_enter Try.func50, Try.ntmps50
        go_wp2_with (first | ((with_reducible refine gate_dst (N := 2) rfl ?_); refine box_event ?hg (N := 2) ?hd (cs := #[.int .i64 a0_0, .int .i64 a0_1, .int .i64 a0_2, .slice A0_3 l0_3.length c0_3]) (t := 67) ?hr ?_; (case hd => rfl); (case hg => rfl); (case hr => first | (go_simp; done) | (go_simp; rfl)); intro gb602 hg w12 hbox hb; have n0_ := Xam (Xbt (by repeat (first | (with_reducible first | exact HB.out | apply Xba | apply Xbn | apply Xbd) | exact HB.out)) hb); have n1_ := Xam (hbox); have n2_ := Xam ((by rw [hg]; exact (Xbs (by repeat (first | (with_reducible first | exact HB.out | apply Xba | apply Xbn | apply Xbd) | exact HB.out))) : w.heap.size ≤ gb602)); have n3_ := Xam ((by rw [hg]; exact (Xbs (by repeat (first | (with_reducible first | exact HB.out | apply Xba | apply Xbn | apply Xbd) | exact HB.out))) : w.heap.size ≤ gb602)); clear HB; have HB := n0_; have BK602 := n1_; have GW602 := n2_; have GE602 := n3_; clear n0_ n1_ n2_ n3_; clear hb hbox hg) | ((with_reducible refine gate_dst (N := 3) rfl ?_); refine box_event ?hg (N := 3) ?hd (cs := #[.int .i64 a1_0, .int .i64 a1_1, .int .i64 a1_2, .slice A1_3 l1_3.length c1_3]) (t := 67) ?hr ?_; (case hd => rfl); (case hg => rfl); (case hr => first | (go_simp; done) | (go_simp; rfl)); intro gb603 hg w13 hbox hb; have n0_ := Xam (Xbb (g := gb602) (o := .cells #[.int .i64 a0_0, .int .i64 a0_1, .int .i64 a0_2, .slice A0_3 l0_3.length c0_3] 67 (0, 0)) (by (with_reducible repeat (first | refine Xkn ?_ _ | refine Xkd ?_ | refine Xka ?_ _)); exact BK602.out) hb); have n1_ := Xam (Xbt (by repeat (first | (with_reducible first | exact HB.out | apply Xba | apply Xbn | apply Xbd | refine Xbe ?_ GE602.out) | exact HB.out)) hb); have n2_ := Xam (hbox); have n3_ := Xam ((by rw [hg]; exact (Xbs (by repeat (first | (with_reducible first | exact HB.out | apply Xba | apply Xbn | apply Xbd | refine Xbe ?_ GE602.out) | exact HB.out))) : w.heap.size ≤ gb603)); have n4_ := Xam ((by rw [hg]; exact (Xbs (by repeat (first | (with_reducible first | exact HB.out | apply Xba | apply Xbn | apply Xbd | refine Xbe ?_ GE602.out) | exact HB.out))) : w.heap.size ≤ gb603)); have n5_ := Xam ((by rw [hg]; exact Nat.ne_of_lt (Xbl (g := gb602) (o := .cells #[.int .i64 a0_0, .int .i64 a0_1, .int .i64 a0_2, .slice A0_3 l0_3.length c0_3] 67 (0, 0)) (by (with_reducible repeat (first | refine Xkn ?_ _ | refine Xkd ?_ | refine Xka ?_ _)); exact BK602.out)) : gb602 ≠ gb603)); have n6_ := Xam ((by rw [hg]; exact Nat.ne_of_gt (Xbl (g := gb602) (o := .cells #[.int .i64 a0_0, .int .i64 a0_1, .int .i64 a0_2, .slice A0_3 l0_3.length c0_3] 67 (0, 0)) (by (with_reducible repeat (first | refine Xkn ?_ _ | refine Xkd ?_ | refine Xka ?_ _)); exact BK602.out)) : gb603 ≠ gb602)); clear BK602; clear HB; have BK602 := n0_; have HB := n1_; have BK603 := n2_; have GW603 := n3_; have GE603 := n4_; have NB602_603 := n5_; have NB603_602 := n6_; clear n0_ n1_ n2_ n3_ n4_ n5_ n6_; clear hb hbox hg; have hnb14 := NB602_603.out; have hnc14 := NB603_602.out; have hcz15_0 : w13.cell? ⟨gb602, 0, none⟩ = some (.int .i64 a0_0) := (Xbc BK602.out 0).trans rfl; have hcz15_1 : w13.cell? ⟨gb602, 1, none⟩ = some (.int .i64 a0_1) := (Xbc BK602.out 1).trans rfl; have hcz15_2 : w13.cell? ⟨gb602, 2, none⟩ = some (.int .i64 a0_2) := (Xbc BK602.out 2).trans rfl; have hcz15_3 : w13.cell? ⟨gb602, 3, none⟩ = some (.slice A0_3 l0_3.length c0_3) := (Xbc BK602.out 3).trans rfl; have hfz15_0 := Xbf BK602.out 0; have hfz15_1 := Xbf BK602.out 1; have hfz15_2 := Xbf BK602.out 2; have hfz15_3 := Xbf BK602.out 3; have hcz16_0 : w13.cell? ⟨gb603, 0, none⟩ = some (.int .i64 a1_0) := (Xbc BK603.out 0).trans rfl; have hcz16_1 : w13.cell? ⟨gb603, 1, none⟩ = some (.int .i64 a1_1) := (Xbc BK603.out 1).trans rfl; have hcz16_2 : w13.cell? ⟨gb603, 2, none⟩ = some (.int .i64 a1_2) := (Xbc BK603.out 2).trans rfl; have hcz16_3 : w13.cell? ⟨gb603, 3, none⟩ = some (.slice A1_3 l1_3.length c1_3) := (Xbc BK603.out 3).trans rfl; have hfz16_0 := Xbf BK603.out 0; have hfz16_1 := Xbf BK603.out 1; have hfz16_2 := Xbf BK603.out 2; have hfz16_3 := Xbf BK603.out 3))
        go_ret
        exact ⟨by first | rfl | (simp [errW_none, errW_some] <;> rfl) | (simp [*, errW_none, errW_some] <;> rfl), by repeat (first | (with_reducible first | exact HB.out | apply Xba | apply Xbn | apply Xbd | refine Xbe ?_ GE602.out | refine Xbe ?_ GE603.out) | exact HB.out)⟩
    · rw [if_neg c4] at H
      have c4b0 : (a0_1 == a1_1) = false := beq_eq_false_iff_ne.mpr c4
      have c4b1 : (a0_1 != a1_1) = true := bne_iff_ne.mpr c4
      obtain rfl := Option.some.inj H
      go_enter Try.func50, Try.ntmps50
      go_wp2_with (first | ((with_reducible refine gate_dst (N := 2) rfl ?_); refine box_event ?hg (N := 2) ?hd (cs := #[.int .i64 a0_0, .int .i64 a0_1, .int .i64 a0_2, .slice A0_3 l0_3.length c0_3]) (t := 67) ?hr ?_; (case hd => rfl); (case hg => rfl); (case hr => first | (go_simp; done) | (go_simp; rfl)); intro gb602 hg w17 hbox hb; have n0_ := Xam (Xbt (by repeat (first | (with_reducible first | exact HB.out | apply Xba | apply Xbn | apply Xbd) | exact HB.out)) hb); have n1_ := Xam (hbox); have n2_ := Xam ((by rw [hg]; exact (Xbs (by repeat (first | (with_reducible first | exact HB.out | apply Xba | apply Xbn | apply Xbd) | exact HB.out))) : w.heap.size ≤ gb602)); have n3_ := Xam ((by rw [hg]; exact (Xbs (by repeat (first | (with_reducible first | exact HB.out | apply Xba | apply Xbn | apply Xbd) | exact HB.out))) : w.heap.size ≤ gb602)); clear HB; have HB := n0_; have BK602 := n1_; have GW602 := n2_; have GE602 := n3_; clear n0_ n1_ n2_ n3_; clear hb hbox hg) | ((with_reducible refine gate_dst (N := 3) rfl ?_); refine box_event ?hg (N := 3) ?hd (cs := #[.int .i64 a1_0, .int .i64 a1_1, .int .i64 a1_2, .slice A1_3 l1_3.length c1_3]) (t := 67) ?hr ?_; (case hd => rfl); (case hg => rfl); (case hr => first | (go_simp; done) | (go_simp; rfl)); intro gb603 hg w18 hbox hb; have n0_ := Xam (Xbb (g := gb602) (o := .cells #[.int .i64 a0_0, .int .i64 a0_1, .int .i64 a0_2, .slice A0_3 l0_3.length c0_3] 67 (0, 0)) (by (with_reducible repeat (first | refine Xkn ?_ _ | refine Xkd ?_ | refine Xka ?_ _)); exact BK602.out) hb); have n1_ := Xam (Xbt (by repeat (first | (with_reducible first | exact HB.out | apply Xba | apply Xbn | apply Xbd | refine Xbe ?_ GE602.out) | exact HB.out)) hb); have n2_ := Xam (hbox); have n3_ := Xam ((by rw [hg]; exact (Xbs (by repeat (first | (with_reducible first | exact HB.out | apply Xba | apply Xbn | apply Xbd | refine Xbe ?_ GE602.out) | exact HB.out))) : w.heap.size ≤ gb603)); have n4_ := Xam ((by rw [hg]; exact (Xbs (by repeat (first | (with_reducible first | exact HB.out | apply Xba | apply Xbn | apply Xbd | refine Xbe ?_ GE602.out) | exact HB.out))) : w.heap.size ≤ gb603)); have n5_ := Xam ((by rw [hg]; exact Nat.ne_of_lt (Xbl (g := gb602) (o := .cells #[.int .i64 a0_0, .int .i64 a0_1, .int .i64 a0_2, .slice A0_3 l0_3.length c0_3] 67 (0, 0)) (by (with_reducible repeat (first | refine Xkn ?_ _ | refine Xkd ?_ | refine Xka ?_ _)); exact BK602.out)) : gb602 ≠ gb603)); have n6_ := Xam ((by rw [hg]; exact Nat.ne_of_gt (Xbl (g := gb602) (o := .cells #[.int .i64 a0_0, .int .i64 a0_1, .int .i64 a0_2, .slice A0_3 l0_3.length c0_3] 67 (0, 0)) (by (with_reducible repeat (first | refine Xkn ?_ _ | refine Xkd ?_ | refine Xka ?_ _)); exact BK602.out)) : gb603 ≠ gb602)); clear BK602; clear HB; have BK602 := n0_; have HB := n1_; have BK603 := n2_; have GW603 := n3_; have GE603 := n4_; have NB602_603 := n5_; have NB603_602 := n6_; clear n0_ n1_ n2_ n3_ n4_ n5_ n6_; clear hb hbox hg; have hnb19 := NB602_603.out; have hnc19 := NB603_602.out; have hcz20_0 : w18.cell? ⟨gb602, 0, none⟩ = some (.int .i64 a0_0) := (Xbc BK602.out 0).trans rfl; have hcz20_1 : w18.cell? ⟨gb602, 1, none⟩ = some (.int .i64 a0_1) := (Xbc BK602.out 1).trans rfl; have hcz20_2 : w18.cell? ⟨gb602, 2, none⟩ = some (.int .i64 a0_2) := (Xbc BK602.out 2).trans rfl; have hcz20_3 : w18.cell? ⟨gb602, 3, none⟩ = some (.slice A0_3 l0_3.length c0_3) := (Xbc BK602.out 3).trans rfl; have hfz20_0 := Xbf BK602.out 0; have hfz20_1 := Xbf BK602.out 1; have hfz20_2 := Xbf BK602.out 2; have hfz20_3 := Xbf BK602.out 3; have hcz21_0 : w18.cell? ⟨gb603, 0, none⟩ = some (.int .i64 a1_0) := (Xbc BK603.out 0).trans rfl; have hcz21_1 : w18.cell? ⟨gb603, 1, none⟩ = some (.int .i64 a1_1) := (Xbc BK603.out 1).trans rfl; have hcz21_2 : w18.cell? ⟨gb603, 2, none⟩ = some (.int .i64 a1_2) := (Xbc BK603.out 2).trans rfl; have hcz21_3 : w18.cell? ⟨gb603, 3, none⟩ = some (.slice A1_3 l1_3.length c1_3) := (Xbc BK603.out 3).trans rfl; have hfz21_0 := Xbf BK603.out 0; have hfz21_1 := Xbf BK603.out 1; have hfz21_2 := Xbf BK603.out 2; have hfz21_3 := Xbf BK603.out 3))
      go_ret
      exact ⟨by first | rfl | (simp [errW_none, errW_some] <;> rfl) | (simp [*, errW_none, errW_some] <;> rfl), by repeat (first | (with_reducible first | exact HB.out | apply Xba | apply Xbn | apply Xbd | refine Xbe ?_ GE602.out | refine Xbe ?_ GE603.out) | exact HB.out)⟩
  · rw [if_neg c3] at H
    have c3b0 : (a0_0 == a1_0) = false := beq_eq_false_iff_ne.mpr c3
    have c3b1 : (a0_0 != a1_0) = true := bne_iff_ne.mpr c3
    obtain rfl := Option.some.inj H
    go_enter Try.func50, Try.ntmps50
    go_wp2_with (first | ((with_reducible refine gate_dst (N := 2) rfl ?_); refine box_event ?hg (N := 2) ?hd (cs := #[.int .i64 a0_0, .int .i64 a0_1, .int .i64 a0_2, .slice A0_3 l0_3.length c0_3]) (t := 67) ?hr ?_; (case hd => rfl); (case hg => rfl); (case hr => first | (go_simp; done) | (go_simp; rfl)); intro gb602 hg w22 hbox hb; have n0_ := Xam (Xbt (by repeat (first | (with_reducible first | exact HB.out | apply Xba | apply Xbn | apply Xbd) | exact HB.out)) hb); have n1_ := Xam (hbox); have n2_ := Xam ((by rw [hg]; exact (Xbs (by repeat (first | (with_reducible first | exact HB.out | apply Xba | apply Xbn | apply Xbd) | exact HB.out))) : w.heap.size ≤ gb602)); have n3_ := Xam ((by rw [hg]; exact (Xbs (by repeat (first | (with_reducible first | exact HB.out | apply Xba | apply Xbn | apply Xbd) | exact HB.out))) : w.heap.size ≤ gb602)); clear HB; have HB := n0_; have BK602 := n1_; have GW602 := n2_; have GE602 := n3_; clear n0_ n1_ n2_ n3_; clear hb hbox hg) | ((with_reducible refine gate_dst (N := 3) rfl ?_); refine box_event ?hg (N := 3) ?hd (cs := #[.int .i64 a1_0, .int .i64 a1_1, .int .i64 a1_2, .slice A1_3 l1_3.length c1_3]) (t := 67) ?hr ?_; (case hd => rfl); (case hg => rfl); (case hr => first | (go_simp; done) | (go_simp; rfl)); intro gb603 hg w23 hbox hb; have n0_ := Xam (Xbb (g := gb602) (o := .cells #[.int .i64 a0_0, .int .i64 a0_1, .int .i64 a0_2, .slice A0_3 l0_3.length c0_3] 67 (0, 0)) (by (with_reducible repeat (first | refine Xkn ?_ _ | refine Xkd ?_ | refine Xka ?_ _)); exact BK602.out) hb); have n1_ := Xam (Xbt (by repeat (first | (with_reducible first | exact HB.out | apply Xba | apply Xbn | apply Xbd | refine Xbe ?_ GE602.out) | exact HB.out)) hb); have n2_ := Xam (hbox); have n3_ := Xam ((by rw [hg]; exact (Xbs (by repeat (first | (with_reducible first | exact HB.out | apply Xba | apply Xbn | apply Xbd | refine Xbe ?_ GE602.out) | exact HB.out))) : w.heap.size ≤ gb603)); have n4_ := Xam ((by rw [hg]; exact (Xbs (by repeat (first | (with_reducible first | exact HB.out | apply Xba | apply Xbn | apply Xbd | refine Xbe ?_ GE602.out) | exact HB.out))) : w.heap.size ≤ gb603)); have n5_ := Xam ((by rw [hg]; exact Nat.ne_of_lt (Xbl (g := gb602) (o := .cells #[.int .i64 a0_0, .int .i64 a0_1, .int .i64 a0_2, .slice A0_3 l0_3.length c0_3] 67 (0, 0)) (by (with_reducible repeat (first | refine Xkn ?_ _ | refine Xkd ?_ | refine Xka ?_ _)); exact BK602.out)) : gb602 ≠ gb603)); have n6_ := Xam ((by rw [hg]; exact Nat.ne_of_gt (Xbl (g := gb602) (o := .cells #[.int .i64 a0_0, .int .i64 a0_1, .int .i64 a0_2, .slice A0_3 l0_3.length c0_3] 67 (0, 0)) (by (with_reducible repeat (first | refine Xkn ?_ _ | refine Xkd ?_ | refine Xka ?_ _)); exact BK602.out)) : gb603 ≠ gb602)); clear BK602; clear HB; have BK602 := n0_; have HB := n1_; have BK603 := n2_; have GW603 := n3_; have GE603 := n4_; have NB602_603 := n5_; have NB603_602 := n6_; clear n0_ n1_ n2_ n3_ n4_ n5_ n6_; clear hb hbox hg; have hnb24 := NB602_603.out; have hnc24 := NB603_602.out; have hcz25_0 : w23.cell? ⟨gb602, 0, none⟩ = some (.int .i64 a0_0) := (Xbc BK602.out 0).trans rfl; have hcz25_1 : w23.cell? ⟨gb602, 1, none⟩ = some (.int .i64 a0_1) := (Xbc BK602.out 1).trans rfl; have hcz25_2 : w23.cell? ⟨gb602, 2, none⟩ = some (.int .i64 a0_2) := (Xbc BK602.out 2).trans rfl; have hcz25_3 : w23.cell? ⟨gb602, 3, none⟩ = some (.slice A0_3 l0_3.length c0_3) := (Xbc BK602.out 3).trans rfl; have hfz25_0 := Xbf BK602.out 0; have hfz25_1 := Xbf BK602.out 1; have hfz25_2 := Xbf BK602.out 2; have hfz25_3 := Xbf BK602.out 3; have hcz26_0 : w23.cell? ⟨gb603, 0, none⟩ = some (.int .i64 a1_0) := (Xbc BK603.out 0).trans rfl; have hcz26_1 : w23.cell? ⟨gb603, 1, none⟩ = some (.int .i64 a1_1) := (Xbc BK603.out 1).trans rfl; have hcz26_2 : w23.cell? ⟨gb603, 2, none⟩ = some (.int .i64 a1_2) := (Xbc BK603.out 2).trans rfl; have hcz26_3 : w23.cell? ⟨gb603, 3, none⟩ = some (.slice A1_3 l1_3.length c1_3) := (Xbc BK603.out 3).trans rfl; have hfz26_0 := Xbf BK603.out 0; have hfz26_1 := Xbf BK603.out 1; have hfz26_2 := Xbf BK603.out 2; have hfz26_3 := Xbf BK603.out 3))
    go_ret
    exact ⟨by first | rfl | (simp [errW_none, errW_some] <;> rfl) | (simp [*, errW_none, errW_some] <;> rfl), by repeat (first | (with_reducible first | exact HB.out | apply Xba | apply Xbn | apply Xbd | refine Xbe ?_ GE602.out | refine Xbe ?_ GE603.out) | exact HB.out)⟩

end Go.Proofs.Ytbffeiakdigdmaa.Q
