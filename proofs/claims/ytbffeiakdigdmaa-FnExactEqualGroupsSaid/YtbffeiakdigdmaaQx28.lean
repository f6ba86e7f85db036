-- written by a program of this session (qprint.py) over the kit's print.py
import Derived.Test.YtbffeiakdigdmaaQx0
import Derived.Test.YtbffeiakdigdmaaQx24
import Derived.Test.YtbffeiakdigdmaaQx25
import Derived.Test.YtbffeiakdigdmaaQx26
import Derived.Test.YtbffeiakdigdmaaQx27
namespace Go.Proofs.Ytbffeiakdigdmaa.Q
open Go.RowKit Go.Proofs.YtbffeiakdigdmaaW.PrintWords Go.Proofs.YtbffeiakdigdmaaW.PrintLast Go.Proofs.YtbffeiakdigdmaaW.PrintMore Go.Proofs.YtbffeiakdigdmaaW.PrintWords Go.Proofs.YtbffeiakdigdmaaW.PrintWords.QPW
attribute [local go_sem] max2_int min2_int max_two min_two max_three min_three max_four min_four   -- for this text's walks alone
set_option linter.unusedVariables false
set_option linter.unusedSimpArgs false

/-! ### laws_FnExactEqualGroups: function 13 -/
def laws_FnExactEqualGroups.f (k : Nat) (a0_0 : Int) (a0_1 : Int) (a0_2 : Int) (l0_3 : List Int) (a1_0 : Int) (a1_1 : Int) (a1_2 : Int) (l1_3 : List Int) : Option (Bool) := (laws_szSenderGroup.f a0_0 a0_1 a0_2 l0_3 1048576).bind fun t612 => (if t612 < 0 then (some true) else ((laws_szSenderGroup.f a1_0 a1_1 a1_2 l1_3 t612).bind fun t613 => (if t613 < 0 then (some true) else ((laws_toSenderGroup.f k a0_0 a0_1 a0_2 l0_3).bind fun bt614 => ((laws_toSenderGroup.f k a1_0 a1_1 a1_2 l1_3).bind fun bt620 => ((spec_EqualGroups.f k bt614.1 bt614.2.1 bt614.2.2.1 bt614.2.2.2 bt620.1 bt620.2.1 bt620.2.2.1 bt620.2.2.2).bind fun t626 => ((laws_toSenderGroup.f k a0_0 a0_1 a0_2 l0_3).bind fun bt627 => ((laws_toSenderGroup.f k a1_0 a1_1 a1_2 l1_3).bind fun bt634 => ((impl_EqualGroups.f k bt627.1 bt627.2.1 bt627.2.2.1 bt627.2.2.2 bt634.1 bt634.2.1 bt634.2.2.1 bt634.2.2.2).bind fun t641 => (if (t641 != t626) = true then (some false) else ((laws_toSenderGroup.f k a0_0 a0_1 a0_2 l0_3).bind fun bt642 => ((laws_eqSenderGroup.f k bt627.1 bt627.2.1 bt627.2.2.1 bt627.2.2.2 bt642.1 bt642.2.1 bt642.2.2.1 bt642.2.2.2).bind fun t648 => (if t648 = true then ((laws_toSenderGroup.f k a1_0 a1_1 a1_2 l1_3).bind fun bt649 => ((laws_eqSenderGroup.f k bt634.1 bt634.2.1 bt634.2.2.1 bt634.2.2.2 bt649.1 bt649.2.1 bt649.2.2.1 bt649.2.2.2).bind fun t655 => (if t655 = true then (some true) else (some false)))) else (some false))))))))))))))
theorem laws_FnExactEqualGroups.mono : ∀ a0 a1 a2 a3 a4 a5 a6 a7 k, LeO (laws_FnExactEqualGroups.f k a0 a1 a2 a3 a4 a5 a6 a7) (laws_FnExactEqualGroups.f (k + 1) a0 a1 a2 a3 a4 a5 a6 a7) := by
  intro a0 a1 a2 a3 a4 a5 a6 a7 k
  unfold laws_FnExactEqualGroups.f
  repeat' first
      | (with_reducible exact impl_EqualGroups.mono _ _ _ _ _ _ _ _ _)
      | (with_reducible exact laws_eqSenderGroup.mono _ _ _ _ _ _ _ _ _)
      | (with_reducible exact laws_toSenderGroup.mono _ _ _ _ _)
      | (with_reducible exact spec_EqualGroups.mono _ _ _ _ _ _ _ _ _)
      | (with_reducible exact LeO.refl _)
      | (with_reducible exact LeO.none _)
      | (with_reducible refine LeO.ite ?_ ?_)
      | (with_reducible refine LeO.bind ?_ (fun _ => ?_))
      | exact impl_EqualGroups.mono _ _ _ _ _ _ _ _ _
      | exact laws_eqSenderGroup.mono _ _ _ _ _ _ _ _ _
      | exact laws_toSenderGroup.mono _ _ _ _ _
      | exact spec_EqualGroups.mono _ _ _ _ _ _ _ _ _
      | exact LeO.none _
      | refine LeO.ite ?_ ?_
      | refine LeO.bind ?_ (fun _ => ?_)
set_option maxHeartbeats 8000000 in
set_option maxRecDepth 100000 in
theorem laws_FnExactEqualGroups.calls (k : Nat) (a0_0 : Int) (a0_1 : Int) (a0_2 : Int) (A0_3 : Option Addr) (c0_3 : Nat) (l0_3 : List Int) (a1_0 : Int) (a1_1 : Int) (a1_2 : Int) (A1_3 : Option Addr) (c1_3 : Nat) (l1_3 : List Int) (r : Bool) (w : World) (hr0_3 : Kd.C (Kd.int .i64) w A0_3 l0_3.length l0_3) (hc0_3 : l0_3.length ≤ c0_3) (hr1_3 : Kd.C (Kd.int .i64) w A1_3 l1_3.length l1_3) (hc1_3 : l1_3.length ≤ c1_3) (h : laws_FnExactEqualGroups.f k a0_0 a0_1 a0_2 l0_3 a1_0 a1_1 a1_2 l1_3 = some r) :
    Calls Try.prog 13 #[.agg #[.int .i64 a0_0, .int .i64 a0_1, .int .i64 a0_2, .slice A0_3 l0_3.length c0_3], .agg #[.int .i64 a1_0, .int .i64 a1_1, .int .i64 a1_2, .slice A1_3 l1_3.length c1_3]] w fun e w' => e = .returned (.bool r) ∧ Below w.heap.size w w' := by
  have hu64 := Try.underlying64
  have hu67 := Try.underlying67
  have HR0_3 := Xam hr0_3
  have HC0_3 := Xam hc0_3
  clear hr0_3 hc0_3
  have HR1_3 := Xam hr1_3
  have HC1_3 := Xam hc1_3
  clear hr1_3 hc1_3
  have HB := Xam (Below.refl w.heap.size w)
  have H : ((laws_szSenderGroup.f a0_0 a0_1 a0_2 l0_3 1048576).bind fun t612 => (if t612 < 0 then (some true) else ((laws_szSenderGroup.f a1_0 a1_1 a1_2 l1_3 t612).bind fun t613 => (if t613 < 0 then (some true) else ((laws_toSenderGroup.f k a0_0 a0_1 a0_2 l0_3).bind fun bt614 => ((laws_toSenderGroup.f k a1_0 a1_1 a1_2 l1_3).bind fun bt620 => ((spec_EqualGroups.f k bt614.1 bt614.2.1 bt614.2.2.1 bt614.2.2.2 bt620.1 bt620.2.1 bt620.2.2.1 bt620.2.2.2).bind fun t626 => ((laws_toSenderGroup.f k a0_0 a0_1 a0_2 l0_3).bind fun bt627 => ((laws_toSenderGroup.f k a1_0 a1_1 a1_2 l1_3).bind fun bt634 => ((impl_EqualGroups.f k bt627.1 bt627.2.1 bt627.2.2.1 bt627.2.2.2 bt634.1 bt634.2.1 bt634.2.2.1 bt634.2.2.2).bind fun t641 => (if (t641 != t626) = true then (some false) else ((laws_toSenderGroup.f k a0_0 a0_1 a0_2 l0_3).bind fun bt642 => ((laws_eqSenderGroup.f k bt627.1 bt627.2.1 bt627.2.2.1 bt627.2.2.2 bt642.1 bt642.2.1 bt642.2.2.1 bt642.2.2.2).bind fun t648 => (if t648 = true then ((laws_toSenderGroup.f k a1_0 a1_1 a1_2 l1_3).bind fun bt649 => ((laws_eqSenderGroup.f k bt634.1 bt634.2.1 bt634.2.2.1 bt634.2.2.2 bt649.1 bt649.2.1 bt649.2.2.1 bt649.2.2.2).bind fun t655 => (if t655 = true then (some true) else (some false)))) else (some false))))))))))))))) = some r := h
  clear h
  replace H := Option.bind_eq_some_iff.mp H
  obtain ⟨t612, A30, H⟩ := H
  replace H : (if t612 < 0 then (some true) else ((laws_szSenderGroup.f a1_0 a1_1 a1_2 l1_3 t612).bind fun t613 => (if t613 < 0 then (some true) else ((laws_toSenderGroup.f k a0_0 a0_1 a0_2 l0_3).bind fun bt614 => ((laws_toSenderGroup.f k a1_0 a1_1 a1_2 l1_3).bind fun bt620 => ((spec_EqualGroups.f k bt614.1 bt614.2.1 bt614.2.2.1 bt614.2.2.2 bt620.1 bt620.2.1 bt620.2.2.1 bt620.2.2.2).bind fun t626 => ((laws_toSenderGroup.f k a0_0 a0_1 a0_2 l0_3).bind fun bt627 => ((laws_toSenderGroup.f k a1_0 a1_1 a1_2 l1_3).bind fun bt634 => ((impl_EqualGroups.f k bt627.1 bt627.2.1 bt627.2.2.1 bt627.2.2.2 bt634.1 bt634.2.1 bt634.2.2.1 bt634.2.2.2).bind fun t641 => (if (t641 != t626) = true then (some false) else ((laws_toSenderGroup.f k a0_0 a0_1 a0_2 l0_3).bind fun bt642 => ((laws_eqSenderGroup.f k bt627.1 bt627.2.1 bt627.2.2.1 bt627.2.2.2 bt642.1 bt642.2.1 bt642.2.2.1 bt642.2.2.2).bind fun t648 => (if t648 = true then ((laws_toSenderGroup.f k a1_0 a1_1 a1_2 l1_3).bind fun bt649 => ((laws_eqSenderGroup.f k bt634.1 bt634.2.1 bt634.2.2.1 bt634.2.2.2 bt649.1 bt649.2.1 bt649.2.2.1 bt649.2.2.2).bind fun t655 => (if t655 = true then (some true) else (some false)))) else (some false)))))))))))))) = some r := H
  have A3 := Xam A30
  clear A30
  by_cases c4 : t612 < 0
  · rw [if_pos c4] at H
    have c4b0 : decide (t612 < 0) = true := decide_eq_true c4
    clear c4
    obtain rfl := Option.some.inj H
    go_enter Try.func13, Try.ntmps13
    go_wp2_with (first | ((with_reducible refine gate_dst (N := 2) rfl ?_); refine box_event ?hg (N := 2) ?hd (cs := #[.int .i64 a0_0, .int .i64 a0_1, .int .i64 a0_2, .slice A0_3 l0_3.length c0_3]) (t := 64) ?hr ?_; (case hd => rfl); (case hg => rfl); (case hr => first | (go_simp; done) | (go_simp; rfl)); intro gb610 hg w5 hbox hb; have n0_ := Xam (Xbt (by repeat (first | (with_reducible first | exact HB.out | apply Xba | apply Xbn | apply Xbd) | exact HB.out)) hb); have n1_ := Xam (hbox); have n2_ := Xam ((by rw [hg]; exact (Xbs (by repeat (first | (with_reducible first | exact HB.out | apply Xba | apply Xbn | apply Xbd) | exact HB.out))) : w.heap.size ≤ gb610)); have n3_ := Xam ((by rw [hg]; exact (Xbs (by repeat (first | (with_reducible first | exact HB.out | apply Xba | apply Xbn | apply Xbd) | exact HB.out))) : w.heap.size ≤ gb610)); clear HB; have HB := n0_; have BK610 := n1_; have GW610 := n2_; have GE610 := n3_; clear n0_ n1_ n2_ n3_; clear hb hbox hg) | ((with_reducible refine gate_dst (N := 3) rfl ?_); refine box_event ?hg (N := 3) ?hd (cs := #[.int .i64 a1_0, .int .i64 a1_1, .int .i64 a1_2, .slice A1_3 l1_3.length c1_3]) (t := 64) ?hr ?_; (case hd => rfl); (case hg => rfl); (case hr => first | (go_simp; done) | (go_simp; rfl)); intro gb611 hg w6 hbox hb; have n0_ := Xam (Xbb (g := gb610) (o := .cells #[.int .i64 a0_0, .int .i64 a0_1, .int .i64 a0_2, .slice A0_3 l0_3.length c0_3] 64 (0, 0)) (by (with_reducible repeat (first | refine Xkn ?_ _ | refine Xkd ?_ | refine Xka ?_ _)); exact BK610.out) hb); have n1_ := Xam (Xbt (by repeat (first | (with_reducible first | exact HB.out | apply Xba | apply Xbn | apply Xbd | refine Xbe ?_ GE610.out) | exact HB.out)) hb); have n2_ := Xam (hbox); have n3_ := Xam ((by rw [hg]; exact (Xbs (by repeat (first | (with_reducible first | exact HB.out | apply Xba | apply Xbn | apply Xbd | refine Xbe ?_ GE610.out) | exact HB.out))) : w.heap.size ≤ gb611)); have n4_ := Xam ((by rw [hg]; exact (Xbs (by repeat (first | (with_reducible first | exact HB.out | apply Xba | apply Xbn | apply Xbd | refine Xbe ?_ GE610.out) | exact HB.out))) : w.heap.size ≤ gb611)); have n5_ := Xam ((by rw [hg]; exact Nat.ne_of_lt (Xbl (g := gb610) (o := .cells #[.int .i64 a0_0, .int .i64 a0_1, .int .i64 a0_2, .slice A0_3 l0_3.length c0_3] 64 (0, 0)) (by (with_reducible repeat (first | refine Xkn ?_ _ | refine Xkd ?_ | refine Xka ?_ _)); exact BK610.out)) : gb610 ≠ gb611)); have n6_ := Xam ((by rw [hg]; exact Nat.ne_of_gt (Xbl (g := gb610) (o := .cells #[.int .i64 a0_0, .int .i64 a0_1, .int .i64 a0_2, .slice A0_3 l0_3.length c0_3] 64 (0, 0)) (by (with_reducible repeat (first | refine Xkn ?_ _ | refine Xkd ?_ | refine Xka ?_ _)); exact BK610.out)) : gb611 ≠ gb610)); clear BK610; clear HB; have BK610 := n0_; have HB := n1_; have BK611 := n2_; have GW611 := n3_; have GE611 := n4_; have NB610_611 := n5_; have NB611_610 := n6_; clear n0_ n1_ n2_ n3_ n4_ n5_ n6_; clear hb hbox hg; have hnb7 := NB610_611.out; have hnc7 := NB611_610.out; have hcz8_0 : w6.cell? ⟨gb610, 0, none⟩ = some (.int .i64 a0_0) := (Xbc BK610.out 0).trans rfl; have hcz8_1 : w6.cell? ⟨gb610, 1, none⟩ = some (.int .i64 a0_1) := (Xbc BK610.out 1).trans rfl; have hcz8_2 : w6.cell? ⟨gb610, 2, none⟩ = some (.int .i64 a0_2) := (Xbc BK610.out 2).trans rfl; have hcz8_3 : w6.cell? ⟨gb610, 3, none⟩ = some (.slice A0_3 l0_3.length c0_3) := (Xbc BK610.out 3).trans rfl; have hfz8_0 := Xbf BK610.out 0; have hfz8_1 := Xbf BK610.out 1; have hfz8_2 := Xbf BK610.out 2; have hfz8_3 := Xbf BK610.out 3) | ((with_reducible refine gate_callee (f := 47) rfl ?_); refine goesL_ (some 12) rfl rfl Try.func47 (by kernel_rfl) rfl #[.agg #[.int .i64 a0_0, .int .i64 a0_1, .int .i64 a0_2, .slice A0_3 l0_3.length c0_3], .int .i64 1048576] rfl (by (try simp only [List.map_toArray, List.map_cons, List.map_nil]); first | done | rfl | (simp only [List.length_drop, List.length_take]; rfl)) ?_; (with_reducible refine (laws_szSenderGroup.calls a0_0 a0_1 a0_2 _ _ l0_3 1048576 t612 _ ?side1 ?side2 A3.out).mono ?_); (case side1 => repeat (first | exact (Kd.C_below HR0_3.out HB.out) | (with_reducible refine Xca ?_ _) | (with_reducible refine Xcn ?_ _) | (with_reducible refine Xcd ?_))); (case side2 => exact HC0_3.out); rintro e w9 ⟨rfl, hb⟩; refine ⟨_, rfl, ?_⟩; have n0_ := Xam (Xbb (g := gb610) (o := .cells #[.int .i64 a0_0, .int .i64 a0_1, .int .i64 a0_2, .slice A0_3 l0_3.length c0_3] 64 (0, 0)) (by (with_reducible repeat (first | refine Xkn ?_ _ | refine Xkd ?_ | refine Xka ?_ _)); exact BK610.out) hb); have n1_ := Xam (Xbb (g := gb611) (o := .cells #[.int .i64 a1_0, .int .i64 a1_1, .int .i64 a1_2, .slice A1_3 l1_3.length c1_3] 64 (0, 0)) (by (with_reducible repeat (first | refine Xkn ?_ _ | refine Xkd ?_ | refine Xka ?_ _)); exact BK611.out) hb); have n2_ := Xam (Xbt (by repeat (first | (with_reducible first | exact HB.out | apply Xba | apply Xbn | apply Xbd | refine Xbe ?_ GE610.out | refine Xbe ?_ GE611.out) | exact HB.out)) hb); clear BK610; clear BK611; clear HB; have BK610 := n0_; have BK611 := n1_; have HB := n2_; clear n0_ n1_ n2_; (try clear hb); (try clear hb2); (try clear hk); (try clear hi)))
    go_ret
    exact ⟨by first | rfl | (simp [errW_none, errW_some] <;> rfl) | (simp [*, errW_none, errW_some] <;> rfl), by repeat (first | (with_reducible first | exact HB.out | apply Xba | apply Xbn | apply Xbd | refine Xbe ?_ GE610.out | refine Xbe ?_ GE611.out) | exact HB.out)⟩
  · rw [if_neg c4] at H
    have c4b0 : decide (t612 < 0) = false := decide_eq_false c4
    clear c4
    replace H := Option.bind_eq_some_iff.mp H
    obtain ⟨t613, A100, H⟩ := H
    replace H : (if t613 < 0 then (some true) else ((laws_toSenderGroup.f k a0_0 a0_1 a0_2 l0_3).bind fun bt614 => ((laws_toSenderGroup.f k a1_0 a1_1 a1_2 l1_3).bind fun bt620 => ((spec_EqualGroups.f k bt614.1 bt614.2.1 bt614.2.2.1 bt614.2.2.2 bt620.1 bt620.2.1 bt620.2.2.1 bt620.2.2.2).bind fun t626 => ((laws_toSenderGroup.f k a0_0 a0_1 a0_2 l0_3).bind fun bt627 => ((laws_toSenderGroup.f k a1_0 a1_1 a1_2 l1_3).bind fun bt634 => ((impl_EqualGroups.f k bt627.1 bt627.2.1 bt627.2.2.1 bt627.2.2.2 bt634.1 bt634.2.1 bt634.2.2.1 bt634.2.2.2).bind fun t641 => (if (t641 != t626) = true then (some false) else ((laws_toSenderGroup.f k a0_0 a0_1 a0_2 l0_3).bind fun bt642 => ((laws_eqSenderGroup.f k bt627.1 bt627.2.1 bt627.2.2.1 bt627.2.2.2 bt642.1 bt642.2.1 bt642.2.2.1 bt642.2.2.2).bind fun t648 => (if t648 = true then ((laws_toSenderGroup.f k a1_0 a1_1 a1_2 l1_3).bind fun bt649 => ((laws_eqSenderGroup.f k bt634.1 bt634.2.1 bt634.2.2.1 bt634.2.2.2 bt649.1 bt649.2.1 bt649.2.2.1 bt649.2.2.2).bind fun t655 => (if t655 = true then (some true) else (some false)))) else (some false)))))))))))) = some r := H
    have A10 := Xam A100
    clear A100
    by_cases c11 : t613 < 0
    · rw [if_pos c11] at H
      have c11b0 : decide (t613 < 0) = true := decide_eq_true c11
      clear c11
      obtain rfl := Option.some.inj H
      go_enter Try.func13, Try.ntmps13
      go_wp2_with (first | ((with_reducible refine gate_dst (N := 2) rfl ?_); refine box_event ?hg (N := 2) ?hd (cs := #[.int .i64 a0_0, .int .i64 a0_1, .int .i64 a0_2, .slice A0_3 l0_3.length c0_3]) (t := 64) ?hr ?_; (case hd => rfl); (case hg => rfl); (case hr => first | (go_simp; done) | (go_simp; rfl)); intro gb610 hg w12 hbox hb; have n0_ := Xam (Xbt (by repeat (first | (with_reducible first | exact HB.out | apply Xba | apply Xbn | apply Xbd) | exact HB.out)) hb); have n1_ := Xam (hbox); have n2_ := Xam ((by rw [hg]; exact (Xbs (by repeat (first | (with_reducible first | exact HB.out | apply Xba | apply Xbn | apply Xbd) | exact HB.out))) : w.heap.size ≤ gb610)); have n3_ := Xam ((by rw [hg]; exact (Xbs (by repeat (first | (with_reducible first | exact HB.out | apply Xba | apply Xbn | apply Xbd) | exact HB.out))) : w.heap.size ≤ gb610)); clear HB; have HB := n0_; have BK610 := n1_; have GW610 := n2_; have GE610 := n3_; clear n0_ n1_ n2_ n3_; clear hb hbox hg) | ((with_reducible refine gate_dst (N := 3) rfl ?_); refine box_event ?hg (N := 3) ?hd (cs := #[.int .i64 a1_0, .int .i64 a1_1, .int .i64 a1_2, .slice A1_3 l1_3.length c1_3]) (t := 64) ?hr ?_; (case hd => rfl); (case hg => rfl); (case hr => first | (go_simp; done) | (go_simp; rfl)); intro gb611 hg w13 hbox hb; have n0_ := Xam (Xbb (g := gb610) (o := .cells #[.int .i64 a0_0, .int .i64 a0_1, .int .i64 a0_2, .slice A0_3 l0_3.length c0_3] 64 (0, 0)) (by (with_reducible repeat (first | refine Xkn ?_ _ | refine Xkd ?_ | refine Xka ?_ _)); exact BK610.out) hb); have n1_ := Xam (Xbt (by repeat (first | (with_reducible first | exact HB.out | apply Xba | apply Xbn | apply Xbd | refine Xbe ?_ GE610.out) | exact HB.out)) hb); have n2_ := Xam (hbox); have n3_ := Xam ((by rw [hg]; exact (Xbs (by repeat (first | (with_reducible first | exact HB.out | apply Xba | apply Xbn | apply Xbd | refine Xbe ?_ GE610.out) | exact HB.out))) : w.heap.size ≤ gb611)); have n4_ := Xam ((by rw [hg]; exact (Xbs (by repeat (first | (with_reducible first | exact HB.out | apply Xba | apply Xbn | apply Xbd | refine Xbe ?_ GE610.out) | exact HB.out))) : w.heap.size ≤ gb611)); have n5_ := Xam ((by rw [hg]; exact Nat.ne_of_lt (Xbl (g := gb610) (o := .cells #[.int .i64 a0_0, .int .i64 a0_1, .int .i64 a0_2, .slice A0_3 l0_3.length c0_3] 64 (0, 0)) (by (with_reducible repeat (first | refine Xkn ?_ _ | refine Xkd ?_ | refine Xka ?_ _)); exact BK610.out)) : gb610 ≠ gb611)); have n6_ := Xam ((by rw [hg]; exact Nat.ne_of_gt (Xbl (g := gb610) (o := .cells #[.int .i64 a0_0, .int .i64 a0_1, .int .i64 a0_2, .slice A0_3 l0_3.length c0_3] 64 (0, 0)) (by (with_reducible repeat (first | refine Xkn ?_ _ | refine Xkd ?_ | refine Xka ?_ _)); exact BK610.out)) : gb611 ≠ gb610)); clear BK610; clear HB; have BK610 := n0_; have HB := n1_; have BK611 := n2_; have GW611 := n3_; have GE611 := n4_; have NB610_611 := n5_; have NB611_610 := n6_; clear n0_ n1_ n2_ n3_ n4_ n5_ n6_; clear hb hbox hg; have hnb14 := NB610_611.out; have hnc14 := NB611_610.out; have hcz15_0 : w13.cell? ⟨gb610, 0, none⟩ = some (.int .i64 a0_0) := (Xbc BK610.out 0).trans rfl; have hcz15_1 : w13.cell? ⟨gb610, 1, none⟩ = some (.int .i64 a0_1) := (Xbc BK610.out 1).trans rfl; have hcz15_2 : w13.cell? ⟨gb610, 2, none⟩ = some (.int .i64 a0_2) := (Xbc BK610.out 2).trans rfl; have hcz15_3 : w13.cell? ⟨gb610, 3, none⟩ = some (.slice A0_3 l0_3.length c0_3) := (Xbc BK610.out 3).trans rfl; have hfz15_0 := Xbf BK610.out 0; have hfz15_1 := Xbf BK610.out 1; have hfz15_2 := Xbf BK610.out 2; have hfz15_3 := Xbf BK610.out 3) | ((with_reducible refine gate_callee (f := 47) rfl ?_); refine goesL_ (some 12) rfl rfl Try.func47 (by kernel_rfl) rfl #[.agg #[.int .i64 a0_0, .int .i64 a0_1, .int .i64 a0_2, .slice A0_3 l0_3.length c0_3], .int .i64 1048576] rfl (by (try simp only [List.map_toArray, List.map_cons, List.map_nil]); first | done | rfl | (simp only [List.length_drop, List.length_take]; rfl)) ?_; (with_reducible refine (laws_szSenderGroup.calls a0_0 a0_1 a0_2 _ _ l0_3 1048576 t612 _ ?side1 ?side2 A3.out).mono ?_); (case side1 => repeat (first | exact (Kd.C_below HR0_3.out HB.out) | (with_reducible refine Xca ?_ _) | (with_reducible refine Xcn ?_ _) | (with_reducible refine Xcd ?_))); (case side2 => exact HC0_3.out); rintro e w16 ⟨rfl, hb⟩; refine ⟨_, rfl, ?_⟩; have n0_ := Xam (Xbb (g := gb610) (o := .cells #[.int .i64 a0_0, .int .i64 a0_1, .int .i64 a0_2, .slice A0_3 l0_3.length c0_3] 64 (0, 0)) (by (with_reducible repeat (first | refine Xkn ?_ _ | refine Xkd ?_ | refine Xka ?_ _)); exact BK610.out) hb); have n1_ := Xam (Xbb (g := gb611) (o := .cells #[.int .i64 a1_0, .int .i64 a1_1, .int .i64 a1_2, .slice A1_3 l1_3.length c1_3] 64 (0, 0)) (by (with_reducible repeat (first | refine Xkn ?_ _ | refine Xkd ?_ | refine Xka ?_ _)); exact BK611.out) hb); have n2_ := Xam (Xbt (by repeat (first | (with_reducible first | exact HB.out | apply Xba | apply Xbn | apply Xbd | refine Xbe ?_ GE610.out | refine Xbe ?_ GE611.out) | exact HB.out)) hb); clear BK610; clear BK611; clear HB; have BK610 := n0_; have BK611 := n1_; have HB := n2_; clear n0_ n1_ n2_; (try clear hb); (try clear hb2); (try clear hk); (try clear hi); have hcz17_0 : w16.cell? ⟨gb611, 0, none⟩ = some (.int .i64 a1_0) := (Xbc BK611.out 0).trans rfl; have hcz17_1 : w16.cell? ⟨gb611, 1, none⟩ = some (.int .i64 a1_1) := (Xbc BK611.out 1).trans rfl; have hcz17_2 : w16.cell? ⟨gb611, 2, none⟩ = some (.int .i64 a1_2) := (Xbc BK611.out 2).trans rfl; have hcz17_3 : w16.cell? ⟨gb611, 3, none⟩ = some (.slice A1_3 l1_3.length c1_3) := (Xbc BK611.out 3).trans rfl; have hfz17_0 := Xbf BK611.out 0; have hfz17_1 := Xbf BK611.out 1; have hfz17_2 := Xbf BK611.out 2; have hfz17_3 := Xbf BK611.out 3) | ((with_reducible refine gate_callee (f := 47) rfl ?_); refine goesL_ (some 17) rfl rfl Try.func47 (by kernel_rfl) rfl #[.agg #[.int .i64 a1_0, .int .i64 a1_1, .int .i64 a1_2, .slice A1_3 l1_3.length c1_3], .int .i64 t612] rfl (by (try simp only [List.map_toArray, List.map_cons, List.map_nil]); first | done | rfl | (simp only [List.length_drop, List.length_take]; rfl)) ?_; (with_reducible refine (laws_szSenderGroup.calls a1_0 a1_1 a1_2 _ _ l1_3 t612 t613 _ ?side1 ?side2 A10.out).mono ?_); (case side1 => repeat (first | exact (Kd.C_below HR1_3.out HB.out) | (with_reducible refine Xca ?_ _) | (with_reducible refine Xcn ?_ _) | (with_reducible refine Xcd ?_))); (case side2 => exact HC1_3.out); rintro e w18 ⟨rfl, hb⟩; refine ⟨_, rfl, ?_⟩; have n0_ := Xam (Xbb (g := gb610) (o := .cells #[.int .i64 a0_0, .int .i64 a0_1, .int .i64 a0_2, .slice A0_3 l0_3.length c0_3] 64 (0, 0)) (by (with_reducible repeat (first | refine Xkn ?_ _ | refine Xkd ?_ | refine Xka ?_ _)); exact BK610.out) hb); have n1_ := Xam (Xbb (g := gb611) (o := .cells #[.int .i64 a1_0, .int .i64 a1_1, .int .i64 a1_2, .slice A1_3 l1_3.length c1_3] 64 (0, 0)) (by (with_reducible repeat (first | refine Xkn ?_ _ | refine Xkd ?_ | refine Xka ?_ _)); exact BK611.out) hb); have n2_ := Xam (Xbt (by repeat (first | (with_reducible first | exact HB.out | apply Xba | apply Xbn | apply Xbd | refine Xbe ?_ GE610.out | refine Xbe ?_ GE611.out) | exact HB.out)) hb); clear BK610; clear BK611; clear HB; have BK610 := n0_; have BK611 := n1_; have HB := n2_; clear n0_ n1_ n2_; (try clear hb); (try clear hb2); (try clear hk); (try clear hi)))
      go_ret
      exact ⟨by first | rfl | (simp [errW_none, errW_some] <;> rfl) | (simp [*, errW_none, errW_some] <;> rfl), by repeat (first | (with_reducible first | exact HB.out | apply Xba | apply Xbn | apply Xbd | refine Xbe ?_ GE610.out | refine Xbe ?_ GE611.out) | exact HB.out)⟩
    · rw [if_neg c11] at H
      have c11b0 : decide (t613 < 0) = false := decide_eq_false c11
      clear c11
      replace H := Option.bind_eq_some_iff.mp H
      obtain ⟨⟨t614, t615, t616, t617⟩, A190, H⟩ := H
      replace H : ((laws_toSenderGroup.f k a1_0 a1_1 a1_2 l1_3).bind fun bt620 => ((spec_EqualGroups.f k t614 t615 t616 t617 bt620.1 bt620.2.1 bt620.2.2.1 bt620.2.2.2).bind fun t626 => ((laws_toSenderGroup.f k a0_0 a0_1 a0_2 l0_3).bind fun bt627 => ((laws_toSenderGroup.f k a1_0 a1_1 a1_2 l1_3).bind fun bt634 => ((impl_EqualGroups.f k bt627.1 bt627.2.1 bt627.2.2.1 bt627.2.2.2 bt634.1 bt634.2.1 bt634.2.2.1 bt634.2.2.2).bind fun t641 => (if (t641 != t626) = true then (some false) else ((laws_toSenderGroup.f k a0_0 a0_1 a0_2 l0_3).bind fun bt642 => ((laws_eqSenderGroup.f k bt627.1 bt627.2.1 bt627.2.2.1 bt627.2.2.2 bt642.1 bt642.2.1 bt642.2.2.1 bt642.2.2.2).bind fun t648 => (if t648 = true then ((laws_toSenderGroup.f k a1_0 a1_1 a1_2 l1_3).bind fun bt649 => ((laws_eqSenderGroup.f k bt634.1 bt634.2.1 bt634.2.2.1 bt634.2.2.2 bt649.1 bt649.2.1 bt649.2.2.1 bt649.2.2.2).bind fun t655 => (if t655 = true then (some true) else (some false)))) else (some false)))))))))) = some r := H
      have A19 := Xam A190
      clear A190
      replace H := Option.bind_eq_some_iff.mp H
      obtain ⟨⟨t620, t621, t622, t623⟩, A200, H⟩ := H
      replace H : ((spec_EqualGroups.f k t614 t615 t616 t617 t620 t621 t622 t623).bind fun t626 => ((laws_toSenderGroup.f k a0_0 a0_1 a0_2 l0_3).bind fun bt627 => ((laws_toSenderGroup.f k a1_0 a1_1 a1_2 l1_3).bind fun bt634 => ((impl_EqualGroups.f k bt627.1 bt627.2.1 bt627.2.2.1 bt627.2.2.2 bt634.1 bt634.2.1 bt634.2.2.1 bt634.2.2.2).bind fun t641 => (if (t641 != t626) = true then (some false) else ((laws_toSenderGroup.f k a0_0 a0_1 a0_2 l0_3).bind fun bt642 => ((laws_eqSenderGroup.f k bt627.1 bt627.2.1 bt627.2.2.1 bt627.2.2.2 bt642.1 bt642.2.1 bt642.2.2.1 bt642.2.2.2).bind fun t648 => (if t648 = true then ((laws_toSenderGroup.f k a1_0 a1_1 a1_2 l1_3).bind fun bt649 => ((laws_eqSenderGroup.f k bt634.1 bt634.2.1 bt634.2.2.1 bt634.2.2.2 bt649.1 bt649.2.1 bt649.2.2.1 bt649.2.2.2).bind fun t655 => (if t655 = true then (some true) else (some false)))) else (some false))))))))) = some r := H
      have A20 := Xam A200
      clear A200
      replace H := Option.bind_eq_some_iff.mp H
      obtain ⟨t626, A210, H⟩ := H
      replace H : ((laws_toSenderGroup.f k a0_0 a0_1 a0_2 l0_3).bind fun bt627 => ((laws_toSenderGroup.f k a1_0 a1_1 a1_2 l1_3).bind fun bt634 => ((impl_EqualGroups.f k bt627.1 bt627.2.1 bt627.2.2.1 bt627.2.2.2 bt634.1 bt634.2.1 bt634.2.2.1 bt634.2.2.2).bind fun t641 => (if (t641 != t626) = true then (some false) else ((laws_toSenderGroup.f k a0_0 a0_1 a0_2 l0_3).bind fun bt642 => ((laws_eqSenderGroup.f k bt627.1 bt627.2.1 bt627.2.2.1 bt627.2.2.2 bt642.1 bt642.2.1 bt642.2.2.1 bt642.2.2.2).bind fun t648 => (if t648 = true then ((laws_toSenderGroup.f k a1_0 a1_1 a1_2 l1_3).bind fun bt649 => ((laws_eqSenderGroup.f k bt634.1 bt634.2.1 bt634.2.2.1 bt634.2.2.2 bt649.1 bt649.2.1 bt649.2.2.1 bt649.2.2.2).bind fun t655 => (if t655 = true then (some true) else (some false)))) else (some false)))))))) = some r := H
      have A21 := Xam A210
      clear A210
      replace H := Option.bind_eq_some_iff.mp H
      obtain ⟨⟨t627, t628, t629, t630⟩, A220, H⟩ := H
      replace H : ((laws_toSenderGroup.f k a1_0 a1_1 a1_2 l1_3).bind fun bt634 => ((impl_EqualGroups.f k t627 t628 t629 t630 bt634.1 bt634.2.1 bt634.2.2.1 bt634.2.2.2).bind fun t641 => (if (t641 != t626) = true then (some false) else ((laws_toSenderGroup.f k a0_0 a0_1 a0_2 l0_3).bind fun bt642 => ((laws_eqSenderGroup.f k t627 t628 t629 t630 bt642.1 bt642.2.1 bt642.2.2.1 bt642.2.2.2).bind fun t648 => (if t648 = true then ((laws_toSenderGroup.f k a1_0 a1_1 a1_2 l1_3).bind fun bt649 => ((laws_eqSenderGroup.f k bt634.1 bt634.2.1 bt634.2.2.1 bt634.2.2.2 bt649.1 bt649.2.1 bt649.2.2.1 bt649.2.2.2).bind fun t655 => (if t655 = true then (some true) else (some false)))) else (some false))))))) = some r := H
      have A22 := Xam A220
      clear A220
      replace H := Option.bind_eq_some_iff.mp H
      obtain ⟨⟨t634, t635, t636, t637⟩, A230, H⟩ := H
      replace H : ((impl_EqualGroups.f k t627 t628 t629 t630 t634 t635 t636 t637).bind fun t641 => (if (t641 != t626) = true then (some false) else ((laws_toSenderGroup.f k a0_0 a0_1 a0_2 l0_3).bind fun bt642 => ((laws_eqSenderGroup.f k t627 t628 t629 t630 bt642.1 bt642.2.1 bt642.2.2.1 bt642.2.2.2).bind fun t648 => (if t648 = true then ((laws_toSenderGroup.f k a1_0 a1_1 a1_2 l1_3).bind fun bt649 => ((laws_eqSenderGroup.f k t634 t635 t636 t637 bt649.1 bt649.2.1 bt649.2.2.1 bt649.2.2.2).bind fun t655 => (if t655 = true then (some true) else (some false)))) else (some false)))))) = some r := H
      have A23 := Xam A230
      clear A230
      replace H := Option.bind_eq_some_iff.mp H
      obtain ⟨t641, A240, H⟩ := H
      replace H : (if (t641 != t626) = true then (some false) else ((laws_toSenderGroup.f k a0_0 a0_1 a0_2 l0_3).bind fun bt642 => ((laws_eqSenderGroup.f k t627 t628 t629 t630 bt642.1 bt642.2.1 bt642.2.2.1 bt642.2.2.2).bind fun t648 => (if t648 = true then ((laws_toSenderGroup.f k a1_0 a1_1 a1_2 l1_3).bind fun bt649 => ((laws_eqSenderGroup.f k t634 t635 t636 t637 bt649.1 bt649.2.1 bt649.2.2.1 bt649.2.2.2).bind fun t655 => (if t655 = true then (some true) else (some false)))) else (some false))))) = some r := H
      have A24 := Xam A240
      clear A240
      by_cases c25 : (t641 != t626) = true
      · rw [if_pos c25] at H
        have c25b0 : (t641 != t626) = true := c25
        (try (have c25b1 : decide (t641 = t626) = false := by simpa using c25))
        (try (have c25b2 : (t641 == t626) = false := by simpa using c25))
        (try (have c25b3 : ¬ (t641 = t626) := by simpa using c25))
        clear c25
        obtain rfl := Option.some.inj H
        go_enter Try.func13, Try.ntmps13
        try go_wp2_with (first | ((with_reducible refine gate_dst (N := 2) rfl ?_); refine box_event ?hg (N := 2) ?hd (cs := #[.int .i64 a0_0, .int .i64 a0_1, .int .i64 a0_2, .slice A0_3 l0_3.length c0_3]) (t := 64) ?hr ?_; (case hd => rfl); (case hg => rfl); (case hr => first | (go_simp; done) | (go_simp; rfl)); intro gb610 hg w26 hbox hb; have n0_ := Xam (Xbt (by repeat (first | (with_reducible first | exact HB.out | apply Xba | apply Xbn | apply Xbd) | exact HB.out)) hb); have n1_ := Xam (hbox); have n2_ := Xam ((by rw [hg]; exact (Xbs (by repeat (first | (with_reducible first | exact HB.out | apply Xba | apply Xbn | apply Xbd) | exact HB.out))) : w.heap.size ≤ gb610)); have n3_ := Xam ((by rw [hg]; exact (Xbs (by repeat (first | (with_reducible first | exact HB.out | apply Xba | apply Xbn | apply Xbd) | exact HB.out))) : w.heap.size ≤ gb610)); clear HB; have HB := n0_; have BK610 := n1_; have GW610 := n2_; have GE610 := n3_; clear n0_ n1_ n2_ n3_; clear hb hbox hg) | ((with_reducible refine gate_dst (N := 3) rfl ?_); refine box_event ?hg (N := 3) ?hd (cs := #[.int .i64 a1_0, .int .i64 a1_1, .int .i64 a1_2, .slice A1_3 l1_3.length c1_3]) (t := 64) ?hr ?_; (case hd => rfl); (case hg => rfl); (case hr => first | (go_simp; done) | (go_simp; rfl)); intro gb611 hg w27 hbox hb; have n0_ := Xam (Xbb (g := gb610) (o := .cells #[.int .i64 a0_0, .int .i64 a0_1, .int .i64 a0_2, .slice A0_3 l0_3.length c0_3] 64 (0, 0)) (by (with_reducible repeat (first | refine Xkn ?_ _ | refine Xkd ?_ | refine Xka ?_ _)); exact BK610.out) hb); have n1_ := Xam (Xbt (by repeat (first | (with_reducible first | exact HB.out | apply Xba | apply Xbn | apply Xbd | refine Xbe ?_ GE610.out) | exact HB.out)) hb); have n2_ := Xam (hbox); have n3_ := Xam ((by rw [hg]; exact (Xbs (by repeat (first | (with_reducible first | exact HB.out | apply Xba | apply Xbn | apply Xbd | refine Xbe ?_ GE610.out) | exact HB.out))) : w.heap.size ≤ gb611)); have n4_ := Xam ((by rw [hg]; exact (Xbs (by repeat (first | (with_reducible first | exact HB.out | apply Xba | apply Xbn | apply Xbd | refine Xbe ?_ GE610.out) | exact HB.out))) : w.heap.size ≤ gb611)); have n5_ := Xam ((by rw [hg]; exact Nat.ne_of_lt (Xbl (g := gb610) (o := .cells #[.int .i64 a0_0, .int .i64 a0_1, .int .i64 a0_2, .slice A0_3 l0_3.length c0_3] 64 (0, 0)) (by (with_reducible repeat (first | refine Xkn ?_ _ | refine Xkd ?_ | refine Xka ?_ _)); exact BK610.out)) : gb610 ≠ gb611)); have n6_ := Xam ((by rw [hg]; exact Nat.ne_of_gt (Xbl (g := gb610) (o := .cells #[.int .i64 a0_0, .int .i64 a0_1, .int .i64 a0_2, .slice A0_3 l0_3.length c0_3] 64 (0, 0)) (by (with_reducible repeat (first | refine Xkn ?_ _ | refine Xkd ?_ | refine Xka ?_ _)); exact BK610.out)) : gb611 ≠ gb610)); clear BK610; clear HB; have BK610 := n0_; have HB := n1_; have BK611 := n2_; have GW611 := n3_; have GE611 := n4_; have NB610_611 := n5_; have NB611_610 := n6_; clear n0_ n1_ n2_ n3_ n4_ n5_ n6_; clear hb hbox hg; have hnb28 := NB610_611.out; have hnc28 := NB611_610.out; have hcz29_0 : w27.cell? ⟨gb610, 0, none⟩ = some (.int .i64 a0_0) := (Xbc BK610.out 0).trans rfl; have hcz29_1 : w27.cell? ⟨gb610, 1, none⟩ = some (.int .i64 a0_1) := (Xbc BK610.out 1).trans rfl; have hcz29_2 : w27.cell? ⟨gb610, 2, none⟩ = some (.int .i64 a0_2) := (Xbc BK610.out 2).trans rfl; have hcz29_3 : w27.cell? ⟨gb610, 3, none⟩ = some (.slice A0_3 l0_3.length c0_3) := (Xbc BK610.out 3).trans rfl; have hfz29_0 := Xbf BK610.out 0; have hfz29_1 := Xbf BK610.out 1; have hfz29_2 := Xbf BK610.out 2; have hfz29_3 := Xbf BK610.out 3) | ((with_reducible refine gate_callee (f := 47) rfl ?_); refine goesL_ (some 12) rfl rfl Try.func47 (by kernel_rfl) rfl #[.agg #[.int .i64 a0_0, .int .i64 a0_1, .int .i64 a0_2, .slice A0_3 l0_3.length c0_3], .int .i64 1048576] rfl (by (try simp only [List.map_toArray, List.map_cons, List.map_nil]); first | done | rfl | (simp only [List.length_drop, List.length_take]; rfl)) ?_; (with_reducible refine (laws_szSenderGroup.calls a0_0 a0_1 a0_2 _ _ l0_3 1048576 t612 _ ?side1 ?side2 A3.out).mono ?_); (case side1 => repeat (first | exact (Kd.C_below HR0_3.out HB.out) | (with_reducible refine Xca ?_ _) | (with_reducible refine Xcn ?_ _) | (with_reducible refine Xcd ?_))); (case side2 => exact HC0_3.out); rintro e w30 ⟨rfl, hb⟩; refine ⟨_, rfl, ?_⟩; have n0_ := Xam (Xbb (g := gb610) (o := .cells #[.int .i64 a0_0, .int .i64 a0_1, .int .i64 a0_2, .slice A0_3 l0_3.length c0_3] 64 (0, 0)) (by (with_reducible repeat (first | refine Xkn ?_ _ | refine Xkd ?_ | refine Xka ?_ _)); exact BK610.out) hb); have n1_ := Xam (Xbb (g := gb611) (o := .cells #[.int .i64 a1_0, .int .i64 a1_1, .int .i64 a1_2, .slice A1_3 l1_3.length c1_3] 64 (0, 0)) (by (with_reducible repeat (first | refine Xkn ?_ _ | refine Xkd ?_ | refine Xka ?_ _)); exact BK611.out) hb); have n2_ := Xam (Xbt (by repeat (first | (with_reducible first | exact HB.out | apply Xba | apply Xbn | apply Xbd | refine Xbe ?_ GE610.out | refine Xbe ?_ GE611.out) | exact HB.out)) hb); clear BK610; clear BK611; clear HB; have BK610 := n0_; have BK611 := n1_; have HB := n2_; clear n0_ n1_ n2_; (try clear hb); (try clear hb2); (try clear hk); (try clear hi); have hcz31_0 : w30.cell? ⟨gb611, 0, none⟩ = some (.int .i64 a1_0) := (Xbc BK611.out 0).trans rfl; have hcz31_1 : w30.cell? ⟨gb611, 1, none⟩ = some (.int .i64 a1_1) := (Xbc BK611.out 1).trans rfl; have hcz31_2 : w30.cell? ⟨gb611, 2, none⟩ = some (.int .i64 a1_2) := (Xbc BK611.out 2).trans rfl; have hcz31_3 : w30.cell? ⟨gb611, 3, none⟩ = some (.slice A1_3 l1_3.length c1_3) := (Xbc BK611.out 3).trans rfl; have hfz31_0 := Xbf BK611.out 0; have hfz31_1 := Xbf BK611.out 1; have hfz31_2 := Xbf BK611.out 2; have hfz31_3 := Xbf BK611.out 3) | ((with_reducible refine gate_callee (f := 47) rfl ?_); refine goesL_ (some 17) rfl rfl Try.func47 (by kernel_rfl) rfl #[.agg #[.int .i64 a1_0, .int .i64 a1_1, .int .i64 a1_2, .slice A1_3 l1_3.length c1_3], .int .i64 t612] rfl (by (try simp only [List.map_toArray, List.map_cons, List.map_nil]); first | done | rfl | (simp only [List.length_drop, List.length_take]; rfl)) ?_; (with_reducible refine (laws_szSenderGroup.calls a1_0 a1_1 a1_2 _ _ l1_3 t612 t613 _ ?side1 ?side2 A10.out).mono ?_); (case side1 => repeat (first | exact (Kd.C_below HR1_3.out HB.out) | (with_reducible refine Xca ?_ _) | (with_reducible refine Xcn ?_ _) | (with_reducible refine Xcd ?_))); (case side2 => exact HC1_3.out); rintro e w32 ⟨rfl, hb⟩; refine ⟨_, rfl, ?_⟩; have n0_ := Xam (Xbb (g := gb610) (o := .cells #[.int .i64 a0_0, .int .i64 a0_1, .int .i64 a0_2, .slice A0_3 l0_3.length c0_3] 64 (0, 0)) (by (with_reducible repeat (first | refine Xkn ?_ _ | refine Xkd ?_ | refine Xka ?_ _)); exact BK610.out) hb); have n1_ := Xam (Xbb (g := gb611) (o := .cells #[.int .i64 a1_0, .int .i64 a1_1, .int .i64 a1_2, .slice A1_3 l1_3.length c1_3] 64 (0, 0)) (by (with_reducible repeat (first | refine Xkn ?_ _ | refine Xkd ?_ | refine Xka ?_ _)); exact BK611.out) hb); have n2_ := Xam (Xbt (by repeat (first | (with_reducible first | exact HB.out | apply Xba | apply Xbn | apply Xbd | refine Xbe ?_ GE610.out | refine Xbe ?_ GE611.out) | exact HB.out)) hb); clear BK610; clear BK611; clear HB; have BK610 := n0_; have BK611 := n1_; have HB := n2_; clear n0_ n1_ n2_; (try clear hb); (try clear hb2); (try clear hk); (try clear hi)))
        have n0_ := Xam (Xkd BK610.out)
        have n1_ := Xam (Xkd BK611.out)
        have n2_ := Xam (Xbd HB.out)
        clear BK610
        clear BK611
        clear HB
        have BK610 := n0_
        have BK611 := n1_
        have HB := n2_
        clear n0_ n1_ n2_
        refine start_ (n := 6) (S := fun w' => w'.cell? ⟨gb610, 0, none⟩ = some (.int .i64 a0_0) ∧ w'.cell? ⟨gb610, 1, none⟩ = some (.int .i64 a0_1) ∧ w'.cell? ⟨gb610, 2, none⟩ = some (.int .i64 a0_2) ∧ w'.cell? ⟨gb610, 3, none⟩ = some (.slice A0_3 l0_3.length c0_3) ∧ w'.cell? ⟨gb611, 0, none⟩ = some (.int .i64 a1_0) ∧ w'.cell? ⟨gb611, 1, none⟩ = some (.int .i64 a1_1) ∧ w'.cell? ⟨gb611, 2, none⟩ = some (.int .i64 a1_2) ∧ w'.cell? ⟨gb611, 3, none⟩ = some (.slice A1_3 l1_3.length c1_3)) (ds := []) #[false, false, false, false, false, false] (by kernel_rfl) rfl rfl ⟨(Xbc BK610.out 0).trans rfl, (Xbc BK610.out 1).trans rfl, (Xbc BK610.out 2).trans rfl, (Xbc BK610.out 3).trans rfl, (Xbc BK611.out 0).trans rfl, (Xbc BK611.out 1).trans rfl, (Xbc BK611.out 2).trans rfl, (Xbc BK611.out 3).trans rfl⟩ (fun hHeld => ?_)
        generalize w32.drew = w33 at BK610 BK611 HB hHeld ⊢
        refine take_ (i := 0) (N := some 20) (v := ?_) (a' := ?_) #[true, false, false, false, false, false] rfl rfl (by kernel_rfl) (fun _ _ _ h => h) (Or.inl ⟨by rfl, ?_⟩) hHeld ?_ ?_
        rotate_left
        · rintro w' ⟨s0, s1, s2, s3, s4, s5, s6, s7⟩
          go_simp
          with_reducible rfl
        rotate_left
        · simp only [Act.put, List.setIfInBounds_toArray, List.set_cons_zero, List.set_cons_succ, i64_w, i32_w]
          rfl
        refine take_ (i := 2) (N := some 22) (v := ?_) (a' := ?_) #[true, false, true, false, false, false] rfl rfl (by kernel_rfl) (fun _ _ _ h => h) (Or.inl ⟨by rfl, ?_⟩) hHeld ?_ ?_
        rotate_left
        · rintro w' ⟨s0, s1, s2, s3, s4, s5, s6, s7⟩
          go_simp
          with_reducible rfl
        rotate_left
        · simp only [Act.put, List.setIfInBounds_toArray, List.set_cons_zero, List.set_cons_succ, i64_w, i32_w]
          rfl
        refine one_ (i := 1) (N := some 21) #[true, true, true, false, false, false] rfl rfl (by kernel_rfl) (by decide) (fun K hK => ?_)
        refine goes_ Try.func49 (by kernel_rfl) rfl #[.agg #[.int .i64 a0_0, .int .i64 a0_1, .int .i64 a0_2, .slice A0_3 l0_3.length c0_3]] (by rfl) rfl rfl (by (try simp only [List.map_toArray, List.map_cons, List.map_nil]); first | done | rfl | (simp only [List.length_drop, List.length_take]; rfl)) ?_
        with_reducible refine (laws_toSenderGroup.calls k a0_0 a0_1 a0_2 _ _ l0_3 t614 t615 t616 t617 _ ?side1 ?side2 A19.out).mono ?_
        (case side1 => repeat (first | exact (Kd.C_below HR0_3.out HB.out) | (with_reducible refine Xca ?_ _) | (with_reducible refine Xcn ?_ _) | (with_reducible refine Xcd ?_)))
        (case side2 => exact HC0_3.out)
        rintro e w34 ⟨v618, rfl, ho0, hb⟩
        refine ⟨_, rfl, ?_⟩
        have n0_ := Xam (Kd.R_lower ho0 (Xbs (by repeat (first | (with_reducible first | exact HB.out | apply Xba | apply Xbn | apply Xbd | refine Xbe ?_ GE610.out | refine Xbe ?_ GE611.out) | exact HB.out))))
        have n1_ := Xam (Xbb (g := gb610) (o := .cells #[.int .i64 a0_0, .int .i64 a0_1, .int .i64 a0_2, .slice A0_3 l0_3.length c0_3] 64 (0, 0)) (by (with_reducible repeat (first | refine Xkn ?_ _ | refine Xkd ?_ | refine Xka ?_ _)); exact BK610.out) hb)
        have n2_ := Xam (Xbb (g := gb611) (o := .cells #[.int .i64 a1_0, .int .i64 a1_1, .int .i64 a1_2, .slice A1_3 l1_3.length c1_3] 64 (0, 0)) (by (with_reducible repeat (first | refine Xkn ?_ _ | refine Xkd ?_ | refine Xka ?_ _)); exact BK611.out) hb)
        have n3_ := Xam (Xbt (by repeat (first | (with_reducible first | exact HB.out | apply Xba | apply Xbn | apply Xbd | refine Xbe ?_ GE610.out | refine Xbe ?_ GE611.out) | exact HB.out)) hb)
        clear BK610
        clear BK611
        clear HB
        have HO619 := n0_
        have BK610 := n1_
        have BK611 := n2_
        have HB := n3_
        clear n0_ n1_ n2_ n3_
        (try clear hb)
        (try clear hb2)
        (try clear hk)
        (try clear hi)
        (try clear ho0)
        refine hK.out _ _ ⟨(Xbc BK610.out 0).trans rfl, (Xbc BK610.out 1).trans rfl, (Xbc BK610.out 2).trans rfl, (Xbc BK610.out 3).trans rfl, (Xbc BK611.out 0).trans rfl, (Xbc BK611.out 1).trans rfl, (Xbc BK611.out 2).trans rfl, (Xbc BK611.out 3).trans rfl⟩ (fun hHeld => ?_)
        clear hK K
        refine norm_ (a' := ?_) ?_ ?_
        rotate_left
        · show Act.put _ (some 21) _ = _
          simp only [Act.put, List.setIfInBounds_toArray, List.set_cons_zero, List.set_cons_succ, i64_w, i32_w]
          rfl
        refine one_ (i := 3) (N := some 23) #[true, true, true, true, false, false] rfl rfl (by kernel_rfl) (by decide) (fun K hK => ?_)
        refine goes_ Try.func49 (by kernel_rfl) rfl #[.agg #[.int .i64 a1_0, .int .i64 a1_1, .int .i64 a1_2, .slice A1_3 l1_3.length c1_3]] (by rfl) rfl rfl (by (try simp only [List.map_toArray, List.map_cons, List.map_nil]); first | done | rfl | (simp only [List.length_drop, List.length_take]; rfl)) ?_
        with_reducible refine (laws_toSenderGroup.calls k a1_0 a1_1 a1_2 _ _ l1_3 t620 t621 t622 t623 _ ?side1 ?side2 A20.out).mono ?_
        (case side1 => repeat (first | exact (Kd.C_below HR1_3.out HB.out) | (with_reducible refine Xca ?_ _) | (with_reducible refine Xcn ?_ _) | (with_reducible refine Xcd ?_)))
        (case side2 => exact HC1_3.out)
        rintro e w35 ⟨v624, rfl, ho0, hb⟩
        refine ⟨_, rfl, ?_⟩
        have n0_ := Xam (Kd.R_elder' (by (with_reducible repeat (first | apply Xra | apply Xrn | apply Xrd)); exact HO619.out) (Kd.R_base ho0) hb)
        have n1_ := Xam (Kd.R_lower (Kd.R_new' ho0 (Kd.R_lt (by (with_reducible repeat (first | apply Xra | apply Xrn | apply Xrd)); exact HO619.out))) (Xbs (by repeat (first | (with_reducible first | exact HB.out | apply Xba | apply Xbn | apply Xbd | refine Xbe ?_ GE610.out | refine Xbe ?_ GE611.out) | exact HB.out))))
        have n2_ := Xam (Xbb (g := gb610) (o := .cells #[.int .i64 a0_0, .int .i64 a0_1, .int .i64 a0_2, .slice A0_3 l0_3.length c0_3] 64 (0, 0)) (by (with_reducible repeat (first | refine Xkn ?_ _ | refine Xkd ?_ | refine Xka ?_ _)); exact BK610.out) hb)
        have n3_ := Xam (Xbb (g := gb611) (o := .cells #[.int .i64 a1_0, .int .i64 a1_1, .int .i64 a1_2, .slice A1_3 l1_3.length c1_3] 64 (0, 0)) (by (with_reducible repeat (first | refine Xkn ?_ _ | refine Xkd ?_ | refine Xka ?_ _)); exact BK611.out) hb)
        have n4_ := Xam (Xbt (by repeat (first | (with_reducible first | exact HB.out | apply Xba | apply Xbn | apply Xbd | refine Xbe ?_ GE610.out | refine Xbe ?_ GE611.out) | exact HB.out)) hb)
        clear HO619
        clear BK610
        clear BK611
        clear HB
        have HO619 := n0_
        have HO625 := n1_
        have BK610 := n2_
        have BK611 := n3_
        have HB := n4_
        clear n0_ n1_ n2_ n3_ n4_
        (try clear hb)
        (try clear hb2)
        (try clear hk)
        (try clear hi)
        (try clear ho0)
        obtain ⟨Ao36, co36, eo36⟩ := Kd.R_slice HO619.out
        (first | subst eo36 | (injection eo36 with f1_ f2_ f3_; have f4_ := f1_.symm; have f5_ := f3_.symm; clear f1_ f2_ f3_; subst f4_; subst f5_))
        obtain ⟨Ao37, co37, eo37⟩ := Kd.R_slice HO625.out
        (first | subst eo37 | (injection eo37 with f1_ f2_ f3_; have f4_ := f1_.symm; have f5_ := f3_.symm; clear f1_ f2_ f3_; subst f4_; subst f5_))
        refine hK.out _ _ ⟨(Xbc BK610.out 0).trans rfl, (Xbc BK610.out 1).trans rfl, (Xbc BK610.out 2).trans rfl, (Xbc BK610.out 3).trans rfl, (Xbc BK611.out 0).trans rfl, (Xbc BK611.out 1).trans rfl, (Xbc BK611.out 2).trans rfl, (Xbc BK611.out 3).trans rfl⟩ (fun hHeld => ?_)
        clear hK K
        refine norm_ (a' := ?_) ?_ ?_
        rotate_left
        · show Act.put _ (some 23) _ = _
          simp only [Act.put, List.setIfInBounds_toArray, List.set_cons_zero, List.set_cons_succ, i64_w, i32_w]
          rfl
        refine one_ (i := 4) (N := some 24) #[true, true, true, true, true, false] rfl rfl (by kernel_rfl) (by decide) (fun K hK => ?_)
        refine goes_ Try.func48 (by kernel_rfl) rfl #[.agg #[.int .i64 t614, .int .i64 t615, .int .i64 t616, .slice Ao36 t617.length co36], .agg #[.int .i64 t620, .int .i64 t621, .int .i64 t622, .slice Ao37 t623.length co37]] (by rfl) rfl rfl (by (try simp only [List.map_toArray, List.map_cons, List.map_nil]); first | done | rfl | (simp only [List.length_drop, List.length_take]; rfl)) ?_
        with_reducible refine (spec_EqualGroups.calls k t614 t615 t616 _ _ t617 t620 t621 t622 _ _ t623 t626 _ ?side1 ?side2 ?side3 ?side4 A21.out).mono ?_
        (case side1 => repeat (first | exact (Kd.R_reads' HO619.out).2.2 | (with_reducible refine Xca ?_ _) | (with_reducible refine Xcn ?_ _) | (with_reducible refine Xcd ?_)))
        (case side2 => exact (Kd.R_reads' HO619.out).2.1)
        (case side3 => repeat (first | exact (Kd.R_reads' HO625.out).2.2 | (with_reducible refine Xca ?_ _) | (with_reducible refine Xcn ?_ _) | (with_reducible refine Xcd ?_)))
        (case side4 => exact (Kd.R_reads' HO625.out).2.1)
        rintro e w38 ⟨rfl, hb⟩
        refine ⟨_, rfl, ?_⟩
        have n0_ := Xam (Kd.R_below (by (with_reducible repeat (first | apply Xra | apply Xrn | apply Xrd)); exact HO619.out) hb)
        have n1_ := Xam (Kd.R_below (by (with_reducible repeat (first | apply Xra | apply Xrn | apply Xrd)); exact HO625.out) hb)
        have n2_ := Xam (Xbb (g := gb610) (o := .cells #[.int .i64 a0_0, .int .i64 a0_1, .int .i64 a0_2, .slice A0_3 l0_3.length c0_3] 64 (0, 0)) (by (with_reducible repeat (first | refine Xkn ?_ _ | refine Xkd ?_ | refine Xka ?_ _)); exact BK610.out) hb)
        have n3_ := Xam (Xbb (g := gb611) (o := .cells #[.int .i64 a1_0, .int .i64 a1_1, .int .i64 a1_2, .slice A1_3 l1_3.length c1_3] 64 (0, 0)) (by (with_reducible repeat (first | refine Xkn ?_ _ | refine Xkd ?_ | refine Xka ?_ _)); exact BK611.out) hb)
        have n4_ := Xam (Xbt (by repeat (first | (with_reducible first | exact HB.out | apply Xba | apply Xbn | apply Xbd | refine Xbe ?_ GE610.out | refine Xbe ?_ GE611.out) | exact HB.out)) hb)
        clear HO619
        clear HO625
        clear BK610
        clear BK611
        clear HB
        have HO619 := n0_
        have HO625 := n1_
        have BK610 := n2_
        have BK611 := n3_
        have HB := n4_
        clear n0_ n1_ n2_ n3_ n4_
        (try clear hb)
        (try clear hb2)
        (try clear hk)
        (try clear hi)
        refine hK.out _ _ ⟨(Xbc BK610.out 0).trans rfl, (Xbc BK610.out 1).trans rfl, (Xbc BK610.out 2).trans rfl, (Xbc BK610.out 3).trans rfl, (Xbc BK611.out 0).trans rfl, (Xbc BK611.out 1).trans rfl, (Xbc BK611.out 2).trans rfl, (Xbc BK611.out 3).trans rfl⟩ (fun hHeld => ?_)
        clear hK K
        refine norm_ (a' := ?_) ?_ ?_
        rotate_left
        · show Act.put _ (some 24) _ = _
          simp only [Act.put, List.setIfInBounds_toArray, List.set_cons_zero, List.set_cons_succ, i64_w, i32_w]
          rfl
        refine pure_ (i := 5) (N := some 6) (v := ?_) (a' := ?_) #[true, true, true, true, true, true] rfl rfl (by kernel_rfl) (fun _ _ _ h => h) (Or.inl ⟨by rfl, ?_⟩) ?_ ?_
        rotate_left
        · intro w'
          go_simp
          with_reducible rfl
        rotate_left
        · simp only [Act.put, List.setIfInBounds_toArray, List.set_cons_zero, List.set_cons_succ, i64_w, i32_w]
          rfl
        refine done_ (by kernel_rfl) ?_
        have hcz39_0 : w38.cell? ⟨gb610, 0, none⟩ = some (.int .i64 a0_0) := (Xbc BK610.out 0).trans rfl
        have hcz39_1 : w38.cell? ⟨gb610, 1, none⟩ = some (.int .i64 a0_1) := (Xbc BK610.out 1).trans rfl
        have hcz39_2 : w38.cell? ⟨gb610, 2, none⟩ = some (.int .i64 a0_2) := (Xbc BK610.out 2).trans rfl
        have hcz39_3 : w38.cell? ⟨gb610, 3, none⟩ = some (.slice A0_3 l0_3.length c0_3) := (Xbc BK610.out 3).trans rfl
        have hfz39_0 := Xbf BK610.out 0
        have hfz39_1 := Xbf BK610.out 1
        have hfz39_2 := Xbf BK610.out 2
        have hfz39_3 := Xbf BK610.out 3
        try go_wp2_with (first | ((with_reducible refine gate_callee (f := 49) rfl ?_); refine goesL_ (some 26) rfl rfl Try.func49 (by kernel_rfl) rfl #[.agg #[.int .i64 a0_0, .int .i64 a0_1, .int .i64 a0_2, .slice A0_3 l0_3.length c0_3]] rfl (by (try simp only [List.map_toArray, List.map_cons, List.map_nil]); first | done | rfl | (simp only [List.length_drop, List.length_take]; rfl)) ?_; (with_reducible refine (laws_toSenderGroup.calls k a0_0 a0_1 a0_2 _ _ l0_3 t627 t628 t629 t630 _ ?side1 ?side2 A22.out).mono ?_); (case side1 => repeat (first | exact (Kd.C_below HR0_3.out HB.out) | (with_reducible refine Xca ?_ _) | (with_reducible refine Xcn ?_ _) | (with_reducible refine Xcd ?_))); (case side2 => exact HC0_3.out); rintro e w40 ⟨v631, rfl, ho0, hb⟩; refine ⟨_, rfl, ?_⟩; have n0_ := Xam (Kd.R_elder' (by (with_reducible repeat (first | apply Xra | apply Xrn | apply Xrd)); exact HO619.out) (Kd.R_base ho0) hb); have n1_ := Xam (Kd.R_elder' (by (with_reducible repeat (first | apply Xra | apply Xrn | apply Xrd)); exact HO625.out) (Kd.R_base ho0) hb); have n2_ := Xam (Kd.R_lower (Kd.R_new' (Kd.R_new' ho0 (Kd.R_lt (by (with_reducible repeat (first | apply Xra | apply Xrn | apply Xrd)); exact HO619.out))) (Kd.R_lt (by (with_reducible repeat (first | apply Xra | apply Xrn | apply Xrd)); exact HO625.out))) (Xbs (by repeat (first | (with_reducible first | exact HB.out | apply Xba | apply Xbn | apply Xbd | refine Xbe ?_ GE610.out | refine Xbe ?_ GE611.out) | exact HB.out)))); have n3_ := Xam (Xbb (g := gb610) (o := .cells #[.int .i64 a0_0, .int .i64 a0_1, .int .i64 a0_2, .slice A0_3 l0_3.length c0_3] 64 (0, 0)) (by (with_reducible repeat (first | refine Xkn ?_ _ | refine Xkd ?_ | refine Xka ?_ _)); exact BK610.out) hb); have n4_ := Xam (Xbb (g := gb611) (o := .cells #[.int .i64 a1_0, .int .i64 a1_1, .int .i64 a1_2, .slice A1_3 l1_3.length c1_3] 64 (0, 0)) (by (with_reducible repeat (first | refine Xkn ?_ _ | refine Xkd ?_ | refine Xka ?_ _)); exact BK611.out) hb); have n5_ := Xam (Xbt (by repeat (first | (with_reducible first | exact HB.out | apply Xba | apply Xbn | apply Xbd | refine Xbe ?_ GE610.out | refine Xbe ?_ GE611.out) | exact HB.out)) hb); clear HO619; clear HO625; clear BK610; clear BK611; clear HB; have HO619 := n0_; have HO625 := n1_; have HO632 := n2_; have BK610 := n3_; have BK611 := n4_; have HB := n5_; clear n0_ n1_ n2_ n3_ n4_ n5_; (try clear hb); (try clear hb2); (try clear hk); (try clear hi); (try clear ho0)) | ((with_reducible refine gate_dst (N := 7) rfl ?_); refine box_event ?hg (N := 7) ?hd (cs := #[.int .i64 0, .int .i64 0, .int .i64 0, .slice none 0 0]) (t := 67) ?hr ?_; (case hd => rfl); (case hg => rfl); (case hr => first | (go_simp; done) | (go_simp; rfl)); intro gb633 hg w41 hbox hb; have n0_ := Xam (Kd.R_below (by (with_reducible repeat (first | apply Xra | apply Xrn | apply Xrd)); exact HO619.out) hb); have n1_ := Xam (Kd.R_below (by (with_reducible repeat (first | apply Xra | apply Xrn | apply Xrd)); exact HO625.out) hb); have n2_ := Xam (Kd.R_below (by (with_reducible repeat (first | apply Xra | apply Xrn | apply Xrd)); exact HO632.out) hb); have n3_ := Xam (Xbb (g := gb610) (o := .cells #[.int .i64 a0_0, .int .i64 a0_1, .int .i64 a0_2, .slice A0_3 l0_3.length c0_3] 64 (0, 0)) (by (with_reducible repeat (first | refine Xkn ?_ _ | refine Xkd ?_ | refine Xka ?_ _)); exact BK610.out) hb); have n4_ := Xam (Xbb (g := gb611) (o := .cells #[.int .i64 a1_0, .int .i64 a1_1, .int .i64 a1_2, .slice A1_3 l1_3.length c1_3] 64 (0, 0)) (by (with_reducible repeat (first | refine Xkn ?_ _ | refine Xkd ?_ | refine Xka ?_ _)); exact BK611.out) hb); have n5_ := Xam (Xbt (by repeat (first | (with_reducible first | exact HB.out | apply Xba | apply Xbn | apply Xbd | refine Xbe ?_ GE610.out | refine Xbe ?_ GE611.out) | exact HB.out)) hb); have n6_ := Xam (hbox); have n7_ := Xam ((by rw [hg]; exact (Xbs (by repeat (first | (with_reducible first | exact HB.out | apply Xba | apply Xbn | apply Xbd | refine Xbe ?_ GE610.out | refine Xbe ?_ GE611.out) | exact HB.out))) : w.heap.size ≤ gb633)); have n8_ := Xam ((by rw [hg]; exact (Xbs (by repeat (first | (with_reducible first | exact HB.out | apply Xba | apply Xbn | apply Xbd | refine Xbe ?_ GE610.out | refine Xbe ?_ GE611.out) | exact HB.out))) : w.heap.size ≤ gb633)); have n9_ := Xam ((by rw [hg]; exact Nat.ne_of_lt (Xbl (g := gb610) (o := .cells #[.int .i64 a0_0, .int .i64 a0_1, .int .i64 a0_2, .slice A0_3 l0_3.length c0_3] 64 (0, 0)) (by (with_reducible repeat (first | refine Xkn ?_ _ | refine Xkd ?_ | refine Xka ?_ _)); exact BK610.out)) : gb610 ≠ gb633)); have n10_ := Xam ((by rw [hg]; exact Nat.ne_of_gt (Xbl (g := gb610) (o := .cells #[.int .i64 a0_0, .int .i64 a0_1, .int .i64 a0_2, .slice A0_3 l0_3.length c0_3] 64 (0, 0)) (by (with_reducible repeat (first | refine Xkn ?_ _ | refine Xkd ?_ | refine Xka ?_ _)); exact BK610.out)) : gb633 ≠ gb610)); have n11_ := Xam ((by rw [hg]; exact Nat.ne_of_lt (Xbl (g := gb611) (o := .cells #[.int .i64 a1_0, .int .i64 a1_1, .int .i64 a1_2, .slice A1_3 l1_3.length c1_3] 64 (0, 0)) (by (with_reducible repeat (first | refine Xkn ?_ _ | refine Xkd ?_ | refine Xka ?_ _)); exact BK611.out)) : gb611 ≠ gb633)); have n12_ := Xam ((by rw [hg]; exact Nat.ne_of_gt (Xbl (g := gb611) (o := .cells #[.int .i64 a1_0, .int .i64 a1_1, .int .i64 a1_2, .slice A1_3 l1_3.length c1_3] 64 (0, 0)) (by (with_reducible repeat (first | refine Xkn ?_ _ | refine Xkd ?_ | refine Xka ?_ _)); exact BK611.out)) : gb633 ≠ gb611)); clear HO619; clear HO625; clear HO632; clear BK610; clear BK611; clear HB; have HO619 := n0_; have HO625 := n1_; have HO632 := n2_; have BK610 := n3_; have BK611 := n4_; have HB := n5_; have BK633 := n6_; have GW633 := n7_; have GE633 := n8_; have NB610_633 := n9_; have NB633_610 := n10_; have NB611_633 := n11_; have NB633_611 := n12_; clear n0_ n1_ n2_ n3_ n4_ n5_ n6_ n7_ n8_ n9_ n10_ n11_ n12_; clear hb hbox hg; have hnb42 := NB633_610.out; have hnc42 := NB610_633.out; have hnb43 := NB633_611.out; have hnc43 := NB611_633.out; have hcz44_0 : w41.cell? ⟨gb633, 0, none⟩ = some (.int .i64 0) := (Xbc BK633.out 0).trans rfl; have hcz44_1 : w41.cell? ⟨gb633, 1, none⟩ = some (.int .i64 0) := (Xbc BK633.out 1).trans rfl; have hcz44_2 : w41.cell? ⟨gb633, 2, none⟩ = some (.int .i64 0) := (Xbc BK633.out 2).trans rfl; have hcz44_3 : w41.cell? ⟨gb633, 3, none⟩ = some (.slice none 0 0) := (Xbc BK633.out 3).trans rfl; have hfz44_0 := Xbf BK633.out 0; have hfz44_1 := Xbf BK633.out 1; have hfz44_2 := Xbf BK633.out 2; have hfz44_3 := Xbf BK633.out 3; obtain ⟨Ao45, co45, eo45⟩ := Kd.R_slice HO632.out; subst eo45; have hcz46_0 : w41.cell? ⟨gb611, 0, none⟩ = some (.int .i64 a1_0) := (Xbc BK611.out 0).trans rfl; have hcz46_1 : w41.cell? ⟨gb611, 1, none⟩ = some (.int .i64 a1_1) := (Xbc BK611.out 1).trans rfl; have hcz46_2 : w41.cell? ⟨gb611, 2, none⟩ = some (.int .i64 a1_2) := (Xbc BK611.out 2).trans rfl; have hcz46_3 : w41.cell? ⟨gb611, 3, none⟩ = some (.slice A1_3 l1_3.length c1_3) := (Xbc BK611.out 3).trans rfl; have hfz46_0 := Xbf BK611.out 0; have hfz46_1 := Xbf BK611.out 1; have hfz46_2 := Xbf BK611.out 2; have hfz46_3 := Xbf BK611.out 3) | ((with_reducible refine gate_callee (f := 49) rfl ?_); refine goesL_ (some 28) rfl rfl Try.func49 (by kernel_rfl) rfl #[.agg #[.int .i64 a1_0, .int .i64 a1_1, .int .i64 a1_2, .slice A1_3 l1_3.length c1_3]] rfl (by (try simp only [List.map_toArray, List.map_cons, List.map_nil]); first | done | rfl | (simp only [List.length_drop, List.length_take]; rfl)) ?_; (with_reducible refine (laws_toSenderGroup.calls k a1_0 a1_1 a1_2 _ _ l1_3 t634 t635 t636 t637 _ ?side1 ?side2 A23.out).mono ?_); (case side1 => exact Kd.C_below HR1_3.out (by repeat (first | (with_reducible first | exact HB.out | apply Xba | apply Xbn | apply Xbd | refine Xbe ?_ GE610.out | refine Xbe ?_ GE611.out | refine Xbe ?_ GE633.out) | exact HB.out))); (case side2 => exact HC1_3.out); rintro e w47 ⟨v638, rfl, ho0, hb⟩; refine ⟨_, rfl, ?_⟩; have n0_ := Xam (Kd.R_elder' (by (with_reducible repeat (first | apply Xra | apply Xrn | apply Xrd)); exact (Kd.R_mono (Kd.R_far (p := ⟨gb633, 3, none⟩) (Kd.R_far (p := ⟨gb633, 2, none⟩) (Kd.R_far (p := ⟨gb633, 1, none⟩) (Kd.R_far (p := ⟨gb633, 0, none⟩) (Kd.R_types HO619.out BK633.out (by decide)) (fun _ hk => hk.2) (.int .i64 t627)) (fun _ hk => hk.2) (.int .i64 t628)) (fun _ hk => hk.2) (.int .i64 t629)) (fun _ hk => hk.2) (.slice Ao45 t630.length co45)) (fun _ h_ => h_.1))) (Kd.R_base ho0) hb); have n1_ := Xam (Kd.R_elder' (by (with_reducible repeat (first | apply Xra | apply Xrn | apply Xrd)); exact (Kd.R_mono (Kd.R_far (p := ⟨gb633, 3, none⟩) (Kd.R_far (p := ⟨gb633, 2, none⟩) (Kd.R_far (p := ⟨gb633, 1, none⟩) (Kd.R_far (p := ⟨gb633, 0, none⟩) (Kd.R_types HO625.out BK633.out (by decide)) (fun _ hk => hk.2) (.int .i64 t627)) (fun _ hk => hk.2) (.int .i64 t628)) (fun _ hk => hk.2) (.int .i64 t629)) (fun _ hk => hk.2) (.slice Ao45 t630.length co45)) (fun _ h_ => h_.1))) (Kd.R_base ho0) hb); have n2_ := Xam (Kd.R_elder' (by (with_reducible repeat (first | apply Xra | apply Xrn | apply Xrd)); exact (Kd.R_mono (Kd.R_far (p := ⟨gb633, 3, none⟩) (Kd.R_far (p := ⟨gb633, 2, none⟩) (Kd.R_far (p := ⟨gb633, 1, none⟩) (Kd.R_far (p := ⟨gb633, 0, none⟩) (Kd.R_types HO632.out BK633.out (by decide)) (fun _ hk => hk.2) (.int .i64 t627)) (fun _ hk => hk.2) (.int .i64 t628)) (fun _ hk => hk.2) (.int .i64 t629)) (fun _ hk => hk.2) (.slice Ao45 t630.length co45)) (fun _ h_ => h_.1))) (Kd.R_base ho0) hb); have n3_ := Xam (Kd.R_lower (Kd.R_new' (Kd.R_new' (Kd.R_new' ho0 (Kd.R_lt (by (with_reducible repeat (first | apply Xra | apply Xrn | apply Xrd)); exact (Kd.R_mono (Kd.R_far (p := ⟨gb633, 3, none⟩) (Kd.R_far (p := ⟨gb633, 2, none⟩) (Kd.R_far (p := ⟨gb633, 1, none⟩) (Kd.R_far (p := ⟨gb633, 0, none⟩) (Kd.R_types HO619.out BK633.out (by decide)) (fun _ hk => hk.2) (.int .i64 t627)) (fun _ hk => hk.2) (.int .i64 t628)) (fun _ hk => hk.2) (.int .i64 t629)) (fun _ hk => hk.2) (.slice Ao45 t630.length co45)) (fun _ h_ => h_.1))))) (Kd.R_lt (by (with_reducible repeat (first | apply Xra | apply Xrn | apply Xrd)); exact (Kd.R_mono (Kd.R_far (p := ⟨gb633, 3, none⟩) (Kd.R_far (p := ⟨gb633, 2, none⟩) (Kd.R_far (p := ⟨gb633, 1, none⟩) (Kd.R_far (p := ⟨gb633, 0, none⟩) (Kd.R_types HO625.out BK633.out (by decide)) (fun _ hk => hk.2) (.int .i64 t627)) (fun _ hk => hk.2) (.int .i64 t628)) (fun _ hk => hk.2) (.int .i64 t629)) (fun _ hk => hk.2) (.slice Ao45 t630.length co45)) (fun _ h_ => h_.1))))) (Kd.R_lt (by (with_reducible repeat (first | apply Xra | apply Xrn | apply Xrd)); exact (Kd.R_mono (Kd.R_far (p := ⟨gb633, 3, none⟩) (Kd.R_far (p := ⟨gb633, 2, none⟩) (Kd.R_far (p := ⟨gb633, 1, none⟩) (Kd.R_far (p := ⟨gb633, 0, none⟩) (Kd.R_types HO632.out BK633.out (by decide)) (fun _ hk => hk.2) (.int .i64 t627)) (fun _ hk => hk.2) (.int .i64 t628)) (fun _ hk => hk.2) (.int .i64 t629)) (fun _ hk => hk.2) (.slice Ao45 t630.length co45)) (fun _ h_ => h_.1))))) (Xbs (by repeat (first | (with_reducible first | exact HB.out | apply Xba | apply Xbn | apply Xbd | refine Xbe ?_ GE610.out | refine Xbe ?_ GE611.out | refine Xbe ?_ GE633.out) | exact HB.out)))); have n4_ := Xam (Xbb (g := gb610) (o := .cells #[.int .i64 a0_0, .int .i64 a0_1, .int .i64 a0_2, .slice A0_3 l0_3.length c0_3] 64 (0, 0)) (by (with_reducible repeat (first | refine Xkn ?_ _ | refine Xkd ?_ | refine Xka ?_ _)); refine blk_far ?_ NB610_633.out _; (with_reducible repeat (first | refine Xkn ?_ _ | refine Xkd ?_ | refine Xka ?_ _)); refine blk_far ?_ NB610_633.out _; (with_reducible repeat (first | refine Xkn ?_ _ | refine Xkd ?_ | refine Xka ?_ _)); refine blk_far ?_ NB610_633.out _; (with_reducible repeat (first | refine Xkn ?_ _ | refine Xkd ?_ | refine Xka ?_ _)); refine blk_far ?_ NB610_633.out _; (with_reducible repeat (first | refine Xkn ?_ _ | refine Xkd ?_ | refine Xka ?_ _)); exact BK610.out) hb); have n5_ := Xam (Xbb (g := gb611) (o := .cells #[.int .i64 a1_0, .int .i64 a1_1, .int .i64 a1_2, .slice A1_3 l1_3.length c1_3] 64 (0, 0)) (by (with_reducible repeat (first | refine Xkn ?_ _ | refine Xkd ?_ | refine Xka ?_ _)); refine blk_far ?_ NB611_633.out _; (with_reducible repeat (first | refine Xkn ?_ _ | refine Xkd ?_ | refine Xka ?_ _)); refine blk_far ?_ NB611_633.out _; (with_reducible repeat (first | refine Xkn ?_ _ | refine Xkd ?_ | refine Xka ?_ _)); refine blk_far ?_ NB611_633.out _; (with_reducible repeat (first | refine Xkn ?_ _ | refine Xkd ?_ | refine Xka ?_ _)); refine blk_far ?_ NB611_633.out _; (with_reducible repeat (first | refine Xkn ?_ _ | refine Xkd ?_ | refine Xka ?_ _)); exact BK611.out) hb); have n6_ := Xam (Xbb (g := gb633) (o := .cells #[.int .i64 t627, .int .i64 t628, .int .i64 t629, .slice Ao45 t630.length co45] 67 (0, 0)) (by (with_reducible repeat (first | refine Xkn ?_ _ | refine Xkd ?_ | refine Xka ?_ _)); refine blk_put (cs := #[.int .i64 t627, .int .i64 t628, .int .i64 t629, .slice none 0 0]) ?_ 3 _ rfl; (with_reducible repeat (first | refine Xkn ?_ _ | refine Xkd ?_ | refine Xka ?_ _)); refine blk_put (cs := #[.int .i64 t627, .int .i64 t628, .int .i64 0, .slice none 0 0]) ?_ 2 _ rfl; (with_reducible repeat (first | refine Xkn ?_ _ | refine Xkd ?_ | refine Xka ?_ _)); refine blk_put (cs := #[.int .i64 t627, .int .i64 0, .int .i64 0, .slice none 0 0]) ?_ 1 _ rfl; (with_reducible repeat (first | refine Xkn ?_ _ | refine Xkd ?_ | refine Xka ?_ _)); refine blk_put (cs := #[.int .i64 0, .int .i64 0, .int .i64 0, .slice none 0 0]) ?_ 0 _ rfl; (with_reducible repeat (first | refine Xkn ?_ _ | refine Xkd ?_ | refine Xka ?_ _)); exact BK633.out) hb); have n7_ := Xam (Xbt (by repeat (first | (with_reducible first | exact HB.out | apply Xba | apply Xbn | apply Xbd | refine Xbe ?_ GE610.out | refine Xbe ?_ GE611.out | refine Xbe ?_ GE633.out) | exact HB.out)) hb); clear HO619; clear HO625; clear HO632; clear BK610; clear BK611; clear BK633; clear HB; have HO619 := n0_; have HO625 := n1_; have HO632 := n2_; have HO639 := n3_; have BK610 := n4_; have BK611 := n5_; have BK633 := n6_; have HB := n7_; clear n0_ n1_ n2_ n3_ n4_ n5_ n6_ n7_; (try clear hb); (try clear hb2); (try clear hk); (try clear hi); (try clear ho0)) | ((with_reducible refine gate_dst (N := 8) rfl ?_); refine box_event ?hg (N := 8) ?hd (cs := #[.int .i64 0, .int .i64 0, .int .i64 0, .slice none 0 0]) (t := 67) ?hr ?_; (case hd => rfl); (case hg => rfl); (case hr => first | (go_simp; done) | (go_simp; rfl)); intro gb640 hg w48 hbox hb; have n0_ := Xam (Kd.R_below (by (with_reducible repeat (first | apply Xra | apply Xrn | apply Xrd)); exact HO619.out) hb); have n1_ := Xam (Kd.R_below (by (with_reducible repeat (first | apply Xra | apply Xrn | apply Xrd)); exact HO625.out) hb); have n2_ := Xam (Kd.R_below (by (with_reducible repeat (first | apply Xra | apply Xrn | apply Xrd)); exact HO632.out) hb); have n3_ := Xam (Kd.R_below (by (with_reducible repeat (first | apply Xra | apply Xrn | apply Xrd)); exact HO639.out) hb); have n4_ := Xam (Xbb (g := gb610) (o := .cells #[.int .i64 a0_0, .int .i64 a0_1, .int .i64 a0_2, .slice A0_3 l0_3.length c0_3] 64 (0, 0)) (by (with_reducible repeat (first | refine Xkn ?_ _ | refine Xkd ?_ | refine Xka ?_ _)); exact BK610.out) hb); have n5_ := Xam (Xbb (g := gb611) (o := .cells #[.int .i64 a1_0, .int .i64 a1_1, .int .i64 a1_2, .slice A1_3 l1_3.length c1_3] 64 (0, 0)) (by (with_reducible repeat (first | refine Xkn ?_ _ | refine Xkd ?_ | refine Xka ?_ _)); exact BK611.out) hb); have n6_ := Xam (Xbb (g := gb633) (o := .cells #[.int .i64 t627, .int .i64 t628, .int .i64 t629, .slice Ao45 t630.length co45] 67 (0, 0)) (by (with_reducible repeat (first | refine Xkn ?_ _ | refine Xkd ?_ | refine Xka ?_ _)); exact BK633.out) hb); have n7_ := Xam (Xbt (by repeat (first | (with_reducible first | exact HB.out | apply Xba | apply Xbn | apply Xbd | refine Xbe ?_ GE610.out | refine Xbe ?_ GE611.out | refine Xbe ?_ GE633.out) | exact HB.out)) hb); have n8_ := Xam (hbox); have n9_ := Xam ((by rw [hg]; exact (Xbs (by repeat (first | (with_reducible first | exact HB.out | apply Xba | apply Xbn | apply Xbd | refine Xbe ?_ GE610.out | refine Xbe ?_ GE611.out | refine Xbe ?_ GE633.out) | exact HB.out))) : w.heap.size ≤ gb640)); have n10_ := Xam ((by rw [hg]; exact (Xbs (by repeat (first | (with_reducible first | exact HB.out | apply Xba | apply Xbn | apply Xbd | refine Xbe ?_ GE610.out | refine Xbe ?_ GE611.out | refine Xbe ?_ GE633.out) | exact HB.out))) : w.heap.size ≤ gb640)); have n11_ := Xam ((by rw [hg]; exact Nat.ne_of_lt (Xbl (g := gb610) (o := .cells #[.int .i64 a0_0, .int .i64 a0_1, .int .i64 a0_2, .slice A0_3 l0_3.length c0_3] 64 (0, 0)) (by (with_reducible repeat (first | refine Xkn ?_ _ | refine Xkd ?_ | refine Xka ?_ _)); exact BK610.out)) : gb610 ≠ gb640)); have n12_ := Xam ((by rw [hg]; exact Nat.ne_of_gt (Xbl (g := gb610) (o := .cells #[.int .i64 a0_0, .int .i64 a0_1, .int .i64 a0_2, .slice A0_3 l0_3.length c0_3] 64 (0, 0)) (by (with_reducible repeat (first | refine Xkn ?_ _ | refine Xkd ?_ | refine Xka ?_ _)); exact BK610.out)) : gb640 ≠ gb610)); have n13_ := Xam ((by rw [hg]; exact Nat.ne_of_lt (Xbl (g := gb611) (o := .cells #[.int .i64 a1_0, .int .i64 a1_1, .int .i64 a1_2, .slice A1_3 l1_3.length c1_3] 64 (0, 0)) (by (with_reducible repeat (first | refine Xkn ?_ _ | refine Xkd ?_ | refine Xka ?_ _)); exact BK611.out)) : gb611 ≠ gb640)); have n14_ := Xam ((by rw [hg]; exact Nat.ne_of_gt (Xbl (g := gb611) (o := .cells #[.int .i64 a1_0, .int .i64 a1_1, .int .i64 a1_2, .slice A1_3 l1_3.length c1_3] 64 (0, 0)) (by (with_reducible repeat (first | refine Xkn ?_ _ | refine Xkd ?_ | refine Xka ?_ _)); exact BK611.out)) : gb640 ≠ gb611)); have n15_ := Xam ((by rw [hg]; exact Nat.ne_of_lt (Xbl (g := gb633) (o := .cells #[.int .i64 t627, .int .i64 t628, .int .i64 t629, .slice Ao45 t630.length co45] 67 (0, 0)) (by (with_reducible repeat (first | refine Xkn ?_ _ | refine Xkd ?_ | refine Xka ?_ _)); exact BK633.out)) : gb633 ≠ gb640)); have n16_ := Xam ((by rw [hg]; exact Nat.ne_of_gt (Xbl (g := gb633) (o := .cells #[.int .i64 t627, .int .i64 t628, .int .i64 t629, .slice Ao45 t630.length co45] 67 (0, 0)) (by (with_reducible repeat (first | refine Xkn ?_ _ | refine Xkd ?_ | refine Xka ?_ _)); exact BK633.out)) : gb640 ≠ gb633)); clear HO619; clear HO625; clear HO632; clear HO639; clear BK610; clear BK611; clear BK633; clear HB; have HO619 := n0_; have HO625 := n1_; have HO632 := n2_; have HO639 := n3_; have BK610 := n4_; have BK611 := n5_; have BK633 := n6_; have HB := n7_; have BK640 := n8_; have GW640 := n9_; have GE640 := n10_; have NB610_640 := n11_; have NB640_610 := n12_; have NB611_640 := n13_; have NB640_611 := n14_; have NB633_640 := n15_; have NB640_633 := n16_; clear n0_ n1_ n2_ n3_ n4_ n5_ n6_ n7_ n8_ n9_ n10_ n11_ n12_ n13_ n14_ n15_ n16_; clear hb hbox hg; have hnb49 := NB640_610.out; have hnc49 := NB610_640.out; have hnb50 := NB640_611.out; have hnc50 := NB611_640.out; have hnb51 := NB640_633.out; have hnc51 := NB633_640.out; have hcz52_0 : w48.cell? ⟨gb640, 0, none⟩ = some (.int .i64 0) := (Xbc BK640.out 0).trans rfl; have hcz52_1 : w48.cell? ⟨gb640, 1, none⟩ = some (.int .i64 0) := (Xbc BK640.out 1).trans rfl; have hcz52_2 : w48.cell? ⟨gb640, 2, none⟩ = some (.int .i64 0) := (Xbc BK640.out 2).trans rfl; have hcz52_3 : w48.cell? ⟨gb640, 3, none⟩ = some (.slice none 0 0) := (Xbc BK640.out 3).trans rfl; have hfz52_0 := Xbf BK640.out 0; have hfz52_1 := Xbf BK640.out 1; have hfz52_2 := Xbf BK640.out 2; have hfz52_3 := Xbf BK640.out 3; obtain ⟨Ao53, co53, eo53⟩ := Kd.R_slice HO639.out; subst eo53; have hcz54_0 : w48.cell? ⟨gb633, 0, none⟩ = some (.int .i64 t627) := (Xbc BK633.out 0).trans rfl; have hcz54_1 : w48.cell? ⟨gb633, 1, none⟩ = some (.int .i64 t628) := (Xbc BK633.out 1).trans rfl; have hcz54_2 : w48.cell? ⟨gb633, 2, none⟩ = some (.int .i64 t629) := (Xbc BK633.out 2).trans rfl; have hcz54_3 : w48.cell? ⟨gb633, 3, none⟩ = some (.slice Ao45 t630.length co45) := (Xbc BK633.out 3).trans rfl; have hfz54_0 := Xbf BK633.out 0; have hfz54_1 := Xbf BK633.out 1; have hfz54_2 := Xbf BK633.out 2; have hfz54_3 := Xbf BK633.out 3) | ((with_reducible refine gate_callee (f := 50) rfl ?_); refine goesL_ (some 31) rfl rfl Try.func50 (by kernel_rfl) rfl #[.agg #[.int .i64 t627, .int .i64 t628, .int .i64 t629, .slice Ao45 t630.length co45], .agg #[.int .i64 t634, .int .i64 t635, .int .i64 t636, .slice Ao53 t637.length co53]] rfl (by (try simp only [List.map_toArray, List.map_cons, List.map_nil]); first | done | rfl | (simp only [List.length_drop, List.length_take]; rfl)) ?_; (with_reducible refine (impl_EqualGroups.calls k t627 t628 t629 _ _ t630 t634 t635 t636 _ _ t637 t641 _ ?side1 ?side2 ?side3 ?side4 A24.out).mono ?_); (case side1 => refine (Kd.R_reads' (e := 3) (base := w.heap.size) (ok := fun k_ => (((True ∧ some k_ ≠ (.slice Ao36 t617.length co36 : Value).ownBlock) ∧ some k_ ≠ (.slice Ao37 t623.length co37 : Value).ownBlock) ∧ some k_ ≠ (.slice Ao53 t637.length co53 : Value).ownBlock)) (n := t630.length) (c := co45) ?_).2.2; exact (by (with_reducible repeat (first | apply Xra | apply Xrn | apply Xrd)); exact (Kd.R_mono (Kd.R_far (p := ⟨gb640, 3, none⟩) (Kd.R_far (p := ⟨gb640, 2, none⟩) (Kd.R_far (p := ⟨gb640, 1, none⟩) (Kd.R_far (p := ⟨gb640, 0, none⟩) (Kd.R_types HO632.out BK640.out (by decide)) (fun _ hk => hk.2) (.int .i64 t634)) (fun _ hk => hk.2) (.int .i64 t635)) (fun _ hk => hk.2) (.int .i64 t636)) (fun _ hk => hk.2) (.slice Ao53 t637.length co53)) (fun _ h_ => h_.1)))); (case side2 => exact (Kd.R_reads' HO632.out).2.1); (case side3 => refine (Kd.R_reads' (e := 3) (base := w.heap.size) (ok := fun k_ => (((True ∧ some k_ ≠ (.slice Ao36 t617.length co36 : Value).ownBlock) ∧ some k_ ≠ (.slice Ao37 t623.length co37 : Value).ownBlock) ∧ some k_ ≠ (.slice Ao45 t630.length co45 : Value).ownBlock)) (n := t637.length) (c := co53) ?_).2.2; exact (by (with_reducible repeat (first | apply Xra | apply Xrn | apply Xrd)); exact (Kd.R_mono (Kd.R_far (p := ⟨gb640, 3, none⟩) (Kd.R_far (p := ⟨gb640, 2, none⟩) (Kd.R_far (p := ⟨gb640, 1, none⟩) (Kd.R_far (p := ⟨gb640, 0, none⟩) (Kd.R_types HO639.out BK640.out (by decide)) (fun _ hk => hk.2) (.int .i64 t634)) (fun _ hk => hk.2) (.int .i64 t635)) (fun _ hk => hk.2) (.int .i64 t636)) (fun _ hk => hk.2) (.slice Ao53 t637.length co53)) (fun _ h_ => h_.1)))); (case side4 => exact (Kd.R_reads' HO639.out).2.1); rintro e w55 ⟨rfl, hb⟩; refine ⟨_, rfl, ?_⟩; have n0_ := Xam (Kd.R_below (by (with_reducible repeat (first | apply Xra | apply Xrn | apply Xrd)); exact (Kd.R_mono (Kd.R_far (p := ⟨gb640, 3, none⟩) (Kd.R_far (p := ⟨gb640, 2, none⟩) (Kd.R_far (p := ⟨gb640, 1, none⟩) (Kd.R_far (p := ⟨gb640, 0, none⟩) (Kd.R_types HO619.out BK640.out (by decide)) (fun _ hk => hk.2) (.int .i64 t634)) (fun _ hk => hk.2) (.int .i64 t635)) (fun _ hk => hk.2) (.int .i64 t636)) (fun _ hk => hk.2) (.slice Ao53 t637.length co53)) (fun _ h_ => h_.1))) hb); have n1_ := Xam (Kd.R_below (by (with_reducible repeat (first | apply Xra | apply Xrn | apply Xrd)); exact (Kd.R_mono (Kd.R_far (p := ⟨gb640, 3, none⟩) (Kd.R_far (p := ⟨gb640, 2, none⟩) (Kd.R_far (p := ⟨gb640, 1, none⟩) (Kd.R_far (p := ⟨gb640, 0, none⟩) (Kd.R_types HO625.out BK640.out (by decide)) (fun _ hk => hk.2) (.int .i64 t634)) (fun _ hk => hk.2) (.int .i64 t635)) (fun _ hk => hk.2) (.int .i64 t636)) (fun _ hk => hk.2) (.slice Ao53 t637.length co53)) (fun _ h_ => h_.1))) hb); have n2_ := Xam (Kd.R_below (by (with_reducible repeat (first | apply Xra | apply Xrn | apply Xrd)); exact (Kd.R_mono (Kd.R_far (p := ⟨gb640, 3, none⟩) (Kd.R_far (p := ⟨gb640, 2, none⟩) (Kd.R_far (p := ⟨gb640, 1, none⟩) (Kd.R_far (p := ⟨gb640, 0, none⟩) (Kd.R_types HO632.out BK640.out (by decide)) (fun _ hk => hk.2) (.int .i64 t634)) (fun _ hk => hk.2) (.int .i64 t635)) (fun _ hk => hk.2) (.int .i64 t636)) (fun _ hk => hk.2) (.slice Ao53 t637.length co53)) (fun _ h_ => h_.1))) hb); have n3_ := Xam (Kd.R_below (by (with_reducible repeat (first | apply Xra | apply Xrn | apply Xrd)); exact (Kd.R_mono (Kd.R_far (p := ⟨gb640, 3, none⟩) (Kd.R_far (p := ⟨gb640, 2, none⟩) (Kd.R_far (p := ⟨gb640, 1, none⟩) (Kd.R_far (p := ⟨gb640, 0, none⟩) (Kd.R_types HO639.out BK640.out (by decide)) (fun _ hk => hk.2) (.int .i64 t634)) (fun _ hk => hk.2) (.int .i64 t635)) (fun _ hk => hk.2) (.int .i64 t636)) (fun _ hk => hk.2) (.slice Ao53 t637.length co53)) (fun _ h_ => h_.1))) hb); have n4_ := Xam (Xbb (g := gb610) (o := .cells #[.int .i64 a0_0, .int .i64 a0_1, .int .i64 a0_2, .slice A0_3 l0_3.length c0_3] 64 (0, 0)) (by (with_reducible repeat (first | refine Xkn ?_ _ | refine Xkd ?_ | refine Xka ?_ _)); refine blk_far ?_ NB610_640.out _; (with_reducible repeat (first | refine Xkn ?_ _ | refine Xkd ?_ | refine Xka ?_ _)); refine blk_far ?_ NB610_640.out _; (with_reducible repeat (first | refine Xkn ?_ _ | refine Xkd ?_ | refine Xka ?_ _)); refine blk_far ?_ NB610_640.out _; (with_reducible repeat (first | refine Xkn ?_ _ | refine Xkd ?_ | refine Xka ?_ _)); refine blk_far ?_ NB610_640.out _; (with_reducible repeat (first | refine Xkn ?_ _ | refine Xkd ?_ | refine Xka ?_ _)); exact BK610.out) hb); have n5_ := Xam (Xbb (g := gb611) (o := .cells #[.int .i64 a1_0, .int .i64 a1_1, .int .i64 a1_2, .slice A1_3 l1_3.length c1_3] 64 (0, 0)) (by (with_reducible repeat (first | refine Xkn ?_ _ | refine Xkd ?_ | refine Xka ?_ _)); refine blk_far ?_ NB611_640.out _; (with_reducible repeat (first | refine Xkn ?_ _ | refine Xkd ?_ | refine Xka ?_ _)); refine blk_far ?_ NB611_640.out _; (with_reducible repeat (first | refine Xkn ?_ _ | refine Xkd ?_ | refine Xka ?_ _)); refine blk_far ?_ NB611_640.out _; (with_reducible repeat (first | refine Xkn ?_ _ | refine Xkd ?_ | refine Xka ?_ _)); refine blk_far ?_ NB611_640.out _; (with_reducible repeat (first | refine Xkn ?_ _ | refine Xkd ?_ | refine Xka ?_ _)); exact BK611.out) hb); have n6_ := Xam (Xbb (g := gb633) (o := .cells #[.int .i64 t627, .int .i64 t628, .int .i64 t629, .slice Ao45 t630.length co45] 67 (0, 0)) (by (with_reducible repeat (first | refine Xkn ?_ _ | refine Xkd ?_ | refine Xka ?_ _)); refine blk_far ?_ NB633_640.out _; (with_reducible repeat (first | refine Xkn ?_ _ | refine Xkd ?_ | refine Xka ?_ _)); refine blk_far ?_ NB633_640.out _; (with_reducible repeat (first | refine Xkn ?_ _ | refine Xkd ?_ | refine Xka ?_ _)); refine blk_far ?_ NB633_640.out _; (with_reducible repeat (first | refine Xkn ?_ _ | refine Xkd ?_ | refine Xka ?_ _)); refine blk_far ?_ NB633_640.out _; (with_reducible repeat (first | refine Xkn ?_ _ | refine Xkd ?_ | refine Xka ?_ _)); exact BK633.out) hb); have n7_ := Xam (Xbb (g := gb640) (o := .cells #[.int .i64 t634, .int .i64 t635, .int .i64 t636, .slice Ao53 t637.length co53] 67 (0, 0)) (by (with_reducible repeat (first | refine Xkn ?_ _ | refine Xkd ?_ | refine Xka ?_ _)); refine blk_put (cs := #[.int .i64 t634, .int .i64 t635, .int .i64 t636, .slice none 0 0]) ?_ 3 _ rfl; (with_reducible repeat (first | refine Xkn ?_ _ | refine Xkd ?_ | refine Xka ?_ _)); refine blk_put (cs := #[.int .i64 t634, .int .i64 t635, .int .i64 0, .slice none 0 0]) ?_ 2 _ rfl; (with_reducible repeat (first | refine Xkn ?_ _ | refine Xkd ?_ | refine Xka ?_ _)); refine blk_put (cs := #[.int .i64 t634, .int .i64 0, .int .i64 0, .slice none 0 0]) ?_ 1 _ rfl; (with_reducible repeat (first | refine Xkn ?_ _ | refine Xkd ?_ | refine Xka ?_ _)); refine blk_put (cs := #[.int .i64 0, .int .i64 0, .int .i64 0, .slice none 0 0]) ?_ 0 _ rfl; (with_reducible repeat (first | refine Xkn ?_ _ | refine Xkd ?_ | refine Xka ?_ _)); exact BK640.out) hb); have n8_ := Xam (Xbt (by repeat (first | (with_reducible first | exact HB.out | apply Xba | apply Xbn | apply Xbd | refine Xbe ?_ GE610.out | refine Xbe ?_ GE611.out | refine Xbe ?_ GE633.out | refine Xbe ?_ GE640.out) | exact HB.out)) hb); clear HO619; clear HO625; clear HO632; clear HO639; clear BK610; clear BK611; clear BK633; clear BK640; clear HB; have HO619 := n0_; have HO625 := n1_; have HO632 := n2_; have HO639 := n3_; have BK610 := n4_; have BK611 := n5_; have BK633 := n6_; have BK640 := n7_; have HB := n8_; clear n0_ n1_ n2_ n3_ n4_ n5_ n6_ n7_ n8_; (try clear hb); (try clear hb2); (try clear hk); (try clear hi)))
        go_ret
        exact ⟨by first | rfl | (simp [errW_none, errW_some] <;> rfl) | (simp [*, errW_none, errW_some] <;> rfl), by repeat (first | (with_reducible first | exact HB.out | apply Xba | apply Xbn | apply Xbd | refine Xbe ?_ GE610.out | refine Xbe ?_ GE611.out | refine Xbe ?_ GE633.out | refine Xbe ?_ GE640.out) | exact HB.out)⟩
      · rw [if_neg c25] at H
        have c25b0 : (t641 != t626) = false := by simpa using c25
        (try (have c25b1 : decide (t641 = t626) = true := by simpa using c25))
        (try (have c25b2 : (t641 == t626) = true := by simpa using c25))
        clear c25
        replace H := Option.bind_eq_some_iff.mp H
        obtain ⟨⟨t642, t643, t644, t645⟩, A560, H⟩ := H
        replace H : ((laws_eqSenderGroup.f k t627 t628 t629 t630 t642 t643 t644 t645).bind fun t648 => (if t648 = true then ((laws_toSenderGroup.f k a1_0 a1_1 a1_2 l1_3).bind fun bt649 => ((laws_eqSenderGroup.f k t634 t635 t636 t637 bt649.1 bt649.2.1 bt649.2.2.1 bt649.2.2.2).bind fun t655 => (if t655 = true then (some true) else (some false)))) else (some false))) = some r := H
        have A56 := Xam A560
        clear A560
        replace H := Option.bind_eq_some_iff.mp H
        obtain ⟨t648, A570, H⟩ := H
        replace H : (if t648 = true then ((laws_toSenderGroup.f k a1_0 a1_1 a1_2 l1_3).bind fun bt649 => ((laws_eqSenderGroup.f k t634 t635 t636 t637 bt649.1 bt649.2.1 bt649.2.2.1 bt649.2.2.2).bind fun t655 => (if t655 = true then (some true) else (some false)))) else (some false)) = some r := H
        have A57 := Xam A570
        clear A570
        by_cases c58 : t648 = true
        · subst c58
          have H1 : ((laws_toSenderGroup.f k a1_0 a1_1 a1_2 l1_3).bind fun bt649 => ((laws_eqSenderGroup.f k t634 t635 t636 t637 bt649.1 bt649.2.1 bt649.2.2.1 bt649.2.2.2).bind fun t655 => (if t655 = true then (some true) else (some false)))) = some r := by rw [if_pos rfl] at H; exact H
          clear H
          have H := H1
          clear H1
          replace H := Option.bind_eq_some_iff.mp H
          obtain ⟨⟨t649, t650, t651, t652⟩, A590, H⟩ := H
          replace H : ((laws_eqSenderGroup.f k t634 t635 t636 t637 t649 t650 t651 t652).bind fun t655 => (if t655 = true then (some true) else (some false))) = some r := H
          have A59 := Xam A590
          clear A590
          replace H := Option.bind_eq_some_iff.mp H
          obtain ⟨t655, A600, H⟩ := H
          replace H : (if t655 = true then (some true) else (some false)) = some r := H
          have A60 := Xam A600
          clear A600
          by_cases c61 : t655 = true
          · subst c61
            have H1 : (some true) = some r := by rw [if_pos rfl] at H; exact H
            clear H
            have H := H1
            clear H1
            obtain rfl := Option.some.inj H
            go_enter Try.func13, Try.ntmps13
            try go_wp2_with (first | ((with_reducible refine gate_dst (N := 2) rfl ?_); refine box_event ?hg (N := 2) ?hd (cs := #[.int .i64 a0_0, .int .i64 a0_1, .int .i64 a0_2, .slice A0_3 l0_3.length c0_3]) (t := 64) ?hr ?_; (case hd => rfl); (case hg => rfl); (case hr => first | (go_simp; done) | (go_simp; rfl)); intro gb610 hg w62 hbox hb; have n0_ := Xam (Xbt (by repeat (first | (with_reducible first | exact HB.out | apply Xba | apply Xbn | apply Xbd) | exact HB.out)) hb); have n1_ := Xam (hbox); have n2_ := Xam ((by rw [hg]; exact (Xbs (by repeat (first | (with_reducible first | exact HB.out | apply Xba | apply Xbn | apply Xbd) | exact HB.out))) : w.heap.size ≤ gb610)); have n3_ := Xam ((by rw [hg]; exact (Xbs (by repeat (first | (with_reducible first | exact HB.out | apply Xba | apply Xbn | apply Xbd) | exact HB.out))) : w.heap.size ≤ gb610)); clear HB; have HB := n0_; have BK610 := n1_; have GW610 := n2_; have GE610 := n3_; clear n0_ n1_ n2_ n3_; clear hb hbox hg) | ((with_reducible refine gate_dst (N := 3) rfl ?_); refine box_event ?hg (N := 3) ?hd (cs := #[.int .i64 a1_0, .int .i64 a1_1, .int .i64 a1_2, .slice A1_3 l1_3.length c1_3]) (t := 64) ?hr ?_; (case hd => rfl); (case hg => rfl); (case hr => first | (go_simp; done) | (go_simp; rfl)); intro gb611 hg w63 hbox hb; have n0_ := Xam (Xbb (g := gb610) (o := .cells #[.int .i64 a0_0, .int .i64 a0_1, .int .i64 a0_2, .slice A0_3 l0_3.length c0_3] 64 (0, 0)) (by (with_reducible repeat (first | refine Xkn ?_ _ | refine Xkd ?_ | refine Xka ?_ _)); exact BK610.out) hb); have n1_ := Xam (Xbt (by repeat (first | (with_reducible first | exact HB.out | apply Xba | apply Xbn | apply Xbd | refine Xbe ?_ GE610.out) | exact HB.out)) hb); have n2_ := Xam (hbox); have n3_ := Xam ((by rw [hg]; exact (Xbs (by repeat (first | (with_reducible first | exact HB.out | apply Xba | apply Xbn | apply Xbd | refine Xbe ?_ GE610.out) | exact HB.out))) : w.heap.size ≤ gb611)); have n4_ := Xam ((by rw [hg]; exact (Xbs (by repeat (first | (with_reducible first | exact HB.out | apply Xba | apply Xbn | apply Xbd | refine Xbe ?_ GE610.out) | exact HB.out))) : w.heap.size ≤ gb611)); have n5_ := Xam ((by rw [hg]; exact Nat.ne_of_lt (Xbl (g := gb610) (o := .cells #[.int .i64 a0_0, .int .i64 a0_1, .int .i64 a0_2, .slice A0_3 l0_3.length c0_3] 64 (0, 0)) (by (with_reducible repeat (first | refine Xkn ?_ _ | refine Xkd ?_ | refine Xka ?_ _)); exact BK610.out)) : gb610 ≠ gb611)); have n6_ := Xam ((by rw [hg]; exact Nat.ne_of_gt (Xbl (g := gb610) (o := .cells #[.int .i64 a0_0, .int .i64 a0_1, .int .i64 a0_2, .slice A0_3 l0_3.length c0_3] 64 (0, 0)) (by (with_reducible repeat (first | refine Xkn ?_ _ | refine Xkd ?_ | refine Xka ?_ _)); exact BK610.out)) : gb611 ≠ gb610)); clear BK610; clear HB; have BK610 := n0_; have HB := n1_; have BK611 := n2_; have GW611 := n3_; have GE611 := n4_; have NB610_611 := n5_; have NB611_610 := n6_; clear n0_ n1_ n2_ n3_ n4_ n5_ n6_; clear hb hbox hg; have hnb64 := NB610_611.out; have hnc64 := NB611_610.out; have hcz65_0 : w63.cell? ⟨gb610, 0, none⟩ = some (.int .i64 a0_0) := (Xbc BK610.out 0).trans rfl; have hcz65_1 : w63.cell? ⟨gb610, 1, none⟩ = some (.int .i64 a0_1) := (Xbc BK610.out 1).trans rfl; have hcz65_2 : w63.cell? ⟨gb610, 2, none⟩ = some (.int .i64 a0_2) := (Xbc BK610.out 2).trans rfl; have hcz65_3 : w63.cell? ⟨gb610, 3, none⟩ = some (.slice A0_3 l0_3.length c0_3) := (Xbc BK610.out 3).trans rfl; have hfz65_0 := Xbf BK610.out 0; have hfz65_1 := Xbf BK610.out 1; have hfz65_2 := Xbf BK610.out 2; have hfz65_3 := Xbf BK610.out 3) | ((with_reducible refine gate_callee (f := 47) rfl ?_); refine goesL_ (some 12) rfl rfl Try.func47 (by kernel_rfl) rfl #[.agg #[.int .i64 a0_0, .int .i64 a0_1, .int .i64 a0_2, .slice A0_3 l0_3.length c0_3], .int .i64 1048576] rfl (by (try simp only [List.map_toArray, List.map_cons, List.map_nil]); first | done | rfl | (simp only [List.length_drop, List.length_take]; rfl)) ?_; (with_reducible refine (laws_szSenderGroup.calls a0_0 a0_1 a0_2 _ _ l0_3 1048576 t612 _ ?side1 ?side2 A3.out).mono ?_); (case side1 => repeat (first | exact (Kd.C_below HR0_3.out HB.out) | (with_reducible refine Xca ?_ _) | (with_reducible refine Xcn ?_ _) | (with_reducible refine Xcd ?_))); (case side2 => exact HC0_3.out); rintro e w66 ⟨rfl, hb⟩; refine ⟨_, rfl, ?_⟩; have n0_ := Xam (Xbb (g := gb610) (o := .cells #[.int .i64 a0_0, .int .i64 a0_1, .int .i64 a0_2, .slice A0_3 l0_3.length c0_3] 64 (0, 0)) (by (with_reducible repeat (first | refine Xkn ?_ _ | refine Xkd ?_ | refine Xka ?_ _)); exact BK610.out) hb); have n1_ := Xam (Xbb (g := gb611) (o := .cells #[.int .i64 a1_0, .int .i64 a1_1, .int .i64 a1_2, .slice A1_3 l1_3.length c1_3] 64 (0, 0)) (by (with_reducible repeat (first | refine Xkn ?_ _ | refine Xkd ?_ | refine Xka ?_ _)); exact BK611.out) hb); have n2_ := Xam (Xbt (by repeat (first | (with_reducible first | exact HB.out | apply Xba | apply Xbn | apply Xbd | refine Xbe ?_ GE610.out | refine Xbe ?_ GE611.out) | exact HB.out)) hb); clear BK610; clear BK611; clear HB; have BK610 := n0_; have BK611 := n1_; have HB := n2_; clear n0_ n1_ n2_; (try clear hb); (try clear hb2); (try clear hk); (try clear hi); have hcz67_0 : w66.cell? ⟨gb611, 0, none⟩ = some (.int .i64 a1_0) := (Xbc BK611.out 0).trans rfl; have hcz67_1 : w66.cell? ⟨gb611, 1, none⟩ = some (.int .i64 a1_1) := (Xbc BK611.out 1).trans rfl; have hcz67_2 : w66.cell? ⟨gb611, 2, none⟩ = some (.int .i64 a1_2) := (Xbc BK611.out 2).trans rfl; have hcz67_3 : w66.cell? ⟨gb611, 3, none⟩ = some (.slice A1_3 l1_3.length c1_3) := (Xbc BK611.out 3).trans rfl; have hfz67_0 := Xbf BK611.out 0; have hfz67_1 := Xbf BK611.out 1; have hfz67_2 := Xbf BK611.out 2; have hfz67_3 := Xbf BK611.out 3) | ((with_reducible refine gate_callee (f := 47) rfl ?_); refine goesL_ (some 17) rfl rfl Try.func47 (by kernel_rfl) rfl #[.agg #[.int .i64 a1_0, .int .i64 a1_1, .int .i64 a1_2, .slice A1_3 l1_3.length c1_3], .int .i64 t612] rfl (by (try simp only [List.map_toArray, List.map_cons, List.map_nil]); first | done | rfl | (simp only [List.length_drop, List.length_take]; rfl)) ?_; (with_reducible refine (laws_szSenderGroup.calls a1_0 a1_1 a1_2 _ _ l1_3 t612 t613 _ ?side1 ?side2 A10.out).mono ?_); (case side1 => repeat (first | exact (Kd.C_below HR1_3.out HB.out) | (with_reducible refine Xca ?_ _) | (with_reducible refine Xcn ?_ _) | (with_reducible refine Xcd ?_))); (case side2 => exact HC1_3.out); rintro e w68 ⟨rfl, hb⟩; refine ⟨_, rfl, ?_⟩; have n0_ := Xam (Xbb (g := gb610) (o := .cells #[.int .i64 a0_0, .int .i64 a0_1, .int .i64 a0_2, .slice A0_3 l0_3.length c0_3] 64 (0, 0)) (by (with_reducible repeat (first | refine Xkn ?_ _ | refine Xkd ?_ | refine Xka ?_ _)); exact BK610.out) hb); have n1_ := Xam (Xbb (g := gb611) (o := .cells #[.int .i64 a1_0, .int .i64 a1_1, .int .i64 a1_2, .slice A1_3 l1_3.length c1_3] 64 (0, 0)) (by (with_reducible repeat (first | refine Xkn ?_ _ | refine Xkd ?_ | refine Xka ?_ _)); exact BK611.out) hb); have n2_ := Xam (Xbt (by repeat (first | (with_reducible first | exact HB.out | apply Xba | apply Xbn | apply Xbd | refine Xbe ?_ GE610.out | refine Xbe ?_ GE611.out) | exact HB.out)) hb); clear BK610; clear BK611; clear HB; have BK610 := n0_; have BK611 := n1_; have HB := n2_; clear n0_ n1_ n2_; (try clear hb); (try clear hb2); (try clear hk); (try clear hi)))
            have n0_ := Xam (Xkd BK610.out)
            have n1_ := Xam (Xkd BK611.out)
            have n2_ := Xam (Xbd HB.out)
            clear BK610
            clear BK611
            clear HB
            have BK610 := n0_
            have BK611 := n1_
            have HB := n2_
            clear n0_ n1_ n2_
            refine start_ (n := 6) (S := fun w' => w'.cell? ⟨gb610, 0, none⟩ = some (.int .i64 a0_0) ∧ w'.cell? ⟨gb610, 1, none⟩ = some (.int .i64 a0_1) ∧ w'.cell? ⟨gb610, 2, none⟩ = some (.int .i64 a0_2) ∧ w'.cell? ⟨gb610, 3, none⟩ = some (.slice A0_3 l0_3.length c0_3) ∧ w'.cell? ⟨gb611, 0, none⟩ = some (.int .i64 a1_0) ∧ w'.cell? ⟨gb611, 1, none⟩ = some (.int .i64 a1_1) ∧ w'.cell? ⟨gb611, 2, none⟩ = some (.int .i64 a1_2) ∧ w'.cell? ⟨gb611, 3, none⟩ = some (.slice A1_3 l1_3.length c1_3)) (ds := []) #[false, false, false, false, false, false] (by kernel_rfl) rfl rfl ⟨(Xbc BK610.out 0).trans rfl, (Xbc BK610.out 1).trans rfl, (Xbc BK610.out 2).trans rfl, (Xbc BK610.out 3).trans rfl, (Xbc BK611.out 0).trans rfl, (Xbc BK611.out 1).trans rfl, (Xbc BK611.out 2).trans rfl, (Xbc BK611.out 3).trans rfl⟩ (fun hHeld => ?_)
            generalize w68.drew = w69 at BK610 BK611 HB hHeld ⊢
            refine take_ (i := 0) (N := some 20) (v := ?_) (a' := ?_) #[true, false, false, false, false, false] rfl rfl (by kernel_rfl) (fun _ _ _ h => h) (Or.inl ⟨by rfl, ?_⟩) hHeld ?_ ?_
            rotate_left
            · rintro w' ⟨s0, s1, s2, s3, s4, s5, s6, s7⟩
              go_simp
              with_reducible rfl
            rotate_left
            · simp only [Act.put, List.setIfInBounds_toArray, List.set_cons_zero, List.set_cons_succ, i64_w, i32_w]
              rfl
            refine take_ (i := 2) (N := some 22) (v := ?_) (a' := ?_) #[true, false, true, false, false, false] rfl rfl (by kernel_rfl) (fun _ _ _ h => h) (Or.inl ⟨by rfl, ?_⟩) hHeld ?_ ?_
            rotate_left
            · rintro w' ⟨s0, s1, s2, s3, s4, s5, s6, s7⟩
              go_simp
              with_reducible rfl
            rotate_left
            · simp only [Act.put, List.setIfInBounds_toArray, List.set_cons_zero, List.set_cons_succ, i64_w, i32_w]
              rfl
            refine one_ (i := 1) (N := some 21) #[true, true, true, false, false, false] rfl rfl (by kernel_rfl) (by decide) (fun K hK => ?_)
            refine goes_ Try.func49 (by kernel_rfl) rfl #[.agg #[.int .i64 a0_0, .int .i64 a0_1, .int .i64 a0_2, .slice A0_3 l0_3.length c0_3]] (by rfl) rfl rfl (by (try simp only [List.map_toArray, List.map_cons, List.map_nil]); first | done | rfl | (simp only [List.length_drop, List.length_take]; rfl)) ?_
            with_reducible refine (laws_toSenderGroup.calls k a0_0 a0_1 a0_2 _ _ l0_3 t614 t615 t616 t617 _ ?side1 ?side2 A19.out).mono ?_
            (case side1 => repeat (first | exact (Kd.C_below HR0_3.out HB.out) | (with_reducible refine Xca ?_ _) | (with_reducible refine Xcn ?_ _) | (with_reducible refine Xcd ?_)))
            (case side2 => exact HC0_3.out)
            rintro e w70 ⟨v618, rfl, ho0, hb⟩
            refine ⟨_, rfl, ?_⟩
            have n0_ := Xam (Kd.R_lower ho0 (Xbs (by repeat (first | (with_reducible first | exact HB.out | apply Xba | apply Xbn | apply Xbd | refine Xbe ?_ GE610.out | refine Xbe ?_ GE611.out) | exact HB.out))))
            have n1_ := Xam (Xbb (g := gb610) (o := .cells #[.int .i64 a0_0, .int .i64 a0_1, .int .i64 a0_2, .slice A0_3 l0_3.length c0_3] 64 (0, 0)) (by (with_reducible repeat (first | refine Xkn ?_ _ | refine Xkd ?_ | refine Xka ?_ _)); exact BK610.out) hb)
            have n2_ := Xam (Xbb (g := gb611) (o := .cells #[.int .i64 a1_0, .int .i64 a1_1, .int .i64 a1_2, .slice A1_3 l1_3.length c1_3] 64 (0, 0)) (by (with_reducible repeat (first | refine Xkn ?_ _ | refine Xkd ?_ | refine Xka ?_ _)); exact BK611.out) hb)
            have n3_ := Xam (Xbt (by repeat (first | (with_reducible first | exact HB.out | apply Xba | apply Xbn | apply Xbd | refine Xbe ?_ GE610.out | refine Xbe ?_ GE611.out) | exact HB.out)) hb)
            clear BK610
            clear BK611
            clear HB
            have HO619 := n0_
            have BK610 := n1_
            have BK611 := n2_
            have HB := n3_
            clear n0_ n1_ n2_ n3_
            (try clear hb)
            (try clear hb2)
            (try clear hk)
            (try clear hi)
            (try clear ho0)
            refine hK.out _ _ ⟨(Xbc BK610.out 0).trans rfl, (Xbc BK610.out 1).trans rfl, (Xbc BK610.out 2).trans rfl, (Xbc BK610.out 3).trans rfl, (Xbc BK611.out 0).trans rfl, (Xbc BK611.out 1).trans rfl, (Xbc BK611.out 2).trans rfl, (Xbc BK611.out 3).trans rfl⟩ (fun hHeld => ?_)
            clear hK K
            refine norm_ (a' := ?_) ?_ ?_
            rotate_left
            · show Act.put _ (some 21) _ = _
              simp only [Act.put, List.setIfInBounds_toArray, List.set_cons_zero, List.set_cons_succ, i64_w, i32_w]
              rfl
            refine one_ (i := 3) (N := some 23) #[true, true, true, true, false, false] rfl rfl (by kernel_rfl) (by decide) (fun K hK => ?_)
            refine goes_ Try.func49 (by kernel_rfl) rfl #[.agg #[.int .i64 a1_0, .int .i64 a1_1, .int .i64 a1_2, .slice A1_3 l1_3.length c1_3]] (by rfl) rfl rfl (by (try simp only [List.map_toArray, List.map_cons, List.map_nil]); first | done | rfl | (simp only [List.length_drop, List.length_take]; rfl)) ?_
            with_reducible refine (laws_toSenderGroup.calls k a1_0 a1_1 a1_2 _ _ l1_3 t620 t621 t622 t623 _ ?side1 ?side2 A20.out).mono ?_
            (case side1 => repeat (first | exact (Kd.C_below HR1_3.out HB.out) | (with_reducible refine Xca ?_ _) | (with_reducible refine Xcn ?_ _) | (with_reducible refine Xcd ?_)))
            (case side2 => exact HC1_3.out)
            rintro e w71 ⟨v624, rfl, ho0, hb⟩
            refine ⟨_, rfl, ?_⟩
            have n0_ := Xam (Kd.R_elder' (by (with_reducible repeat (first | apply Xra | apply Xrn | apply Xrd)); exact HO619.out) (Kd.R_base ho0) hb)
            have n1_ := Xam (Kd.R_lower (Kd.R_new' ho0 (Kd.R_lt (by (with_reducible repeat (first | apply Xra | apply Xrn | apply Xrd)); exact HO619.out))) (Xbs (by repeat (first | (with_reducible first | exact HB.out | apply Xba | apply Xbn | apply Xbd | refine Xbe ?_ GE610.out | refine Xbe ?_ GE611.out) | exact HB.out))))
            have n2_ := Xam (Xbb (g := gb610) (o := .cells #[.int .i64 a0_0, .int .i64 a0_1, .int .i64 a0_2, .slice A0_3 l0_3.length c0_3] 64 (0, 0)) (by (with_reducible repeat (first | refine Xkn ?_ _ | refine Xkd ?_ | refine Xka ?_ _)); exact BK610.out) hb)
            have n3_ := Xam (Xbb (g := gb611) (o := .cells #[.int .i64 a1_0, .int .i64 a1_1, .int .i64 a1_2, .slice A1_3 l1_3.length c1_3] 64 (0, 0)) (by (with_reducible repeat (first | refine Xkn ?_ _ | refine Xkd ?_ | refine Xka ?_ _)); exact BK611.out) hb)
            have n4_ := Xam (Xbt (by repeat (first | (with_reducible first | exact HB.out | apply Xba | apply Xbn | apply Xbd | refine Xbe ?_ GE610.out | refine Xbe ?_ GE611.out) | exact HB.out)) hb)
            clear HO619
            clear BK610
            clear BK611
            clear HB
            have HO619 := n0_
            have HO625 := n1_
            have BK610 := n2_
            have BK611 := n3_
            have HB := n4_
            clear n0_ n1_ n2_ n3_ n4_
            (try clear hb)
            (try clear hb2)
            (try clear hk)
            (try clear hi)
            (try clear ho0)
            obtain ⟨Ao72, co72, eo72⟩ := Kd.R_slice HO619.out
            (first | subst eo72 | (injection eo72 with f1_ f2_ f3_; have f4_ := f1_.symm; have f5_ := f3_.symm; clear f1_ f2_ f3_; subst f4_; subst f5_))
            obtain ⟨Ao73, co73, eo73⟩ := Kd.R_slice HO625.out
            (first | subst eo73 | (injection eo73 with f1_ f2_ f3_; have f4_ := f1_.symm; have f5_ := f3_.symm; clear f1_ f2_ f3_; subst f4_; subst f5_))
            refine hK.out _ _ ⟨(Xbc BK610.out 0).trans rfl, (Xbc BK610.out 1).trans rfl, (Xbc BK610.out 2).trans rfl, (Xbc BK610.out 3).trans rfl, (Xbc BK611.out 0).trans rfl, (Xbc BK611.out 1).trans rfl, (Xbc BK611.out 2).trans rfl, (Xbc BK611.out 3).trans rfl⟩ (fun hHeld => ?_)
            clear hK K
            refine norm_ (a' := ?_) ?_ ?_
            rotate_left
            · show Act.put _ (some 23) _ = _
              simp only [Act.put, List.setIfInBounds_toArray, List.set_cons_zero, List.set_cons_succ, i64_w, i32_w]
              rfl
            refine one_ (i := 4) (N := some 24) #[true, true, true, true, true, false] rfl rfl (by kernel_rfl) (by decide) (fun K hK => ?_)
            refine goes_ Try.func48 (by kernel_rfl) rfl #[.agg #[.int .i64 t614, .int .i64 t615, .int .i64 t616, .slice Ao72 t617.length co72], .agg #[.int .i64 t620, .int .i64 t621, .int .i64 t622, .slice Ao73 t623.length co73]] (by rfl) rfl rfl (by (try simp only [List.map_toArray, List.map_cons, List.map_nil]); first | done | rfl | (simp only [List.length_drop, List.length_take]; rfl)) ?_
            with_reducible refine (spec_EqualGroups.calls k t614 t615 t616 _ _ t617 t620 t621 t622 _ _ t623 t626 _ ?side1 ?side2 ?side3 ?side4 A21.out).mono ?_
            (case side1 => repeat (first | exact (Kd.R_reads' HO619.out).2.2 | (with_reducible refine Xca ?_ _) | (with_reducible refine Xcn ?_ _) | (with_reducible refine Xcd ?_)))
            (case side2 => exact (Kd.R_reads' HO619.out).2.1)
            (case side3 => repeat (first | exact (Kd.R_reads' HO625.out).2.2 | (with_reducible refine Xca ?_ _) | (with_reducible refine Xcn ?_ _) | (with_reducible refine Xcd ?_)))
            (case side4 => exact (Kd.R_reads' HO625.out).2.1)
            rintro e w74 ⟨rfl, hb⟩
            refine ⟨_, rfl, ?_⟩
            have n0_ := Xam (Kd.R_below (by (with_reducible repeat (first | apply Xra | apply Xrn | apply Xrd)); exact HO619.out) hb)
            have n1_ := Xam (Kd.R_below (by (with_reducible repeat (first | apply Xra | apply Xrn | apply Xrd)); exact HO625.out) hb)
            have n2_ := Xam (Xbb (g := gb610) (o := .cells #[.int .i64 a0_0, .int .i64 a0_1, .int .i64 a0_2, .slice A0_3 l0_3.length c0_3] 64 (0, 0)) (by (with_reducible repeat (first | refine Xkn ?_ _ | refine Xkd ?_ | refine Xka ?_ _)); exact BK610.out) hb)
            have n3_ := Xam (Xbb (g := gb611) (o := .cells #[.int .i64 a1_0, .int .i64 a1_1, .int .i64 a1_2, .slice A1_3 l1_3.length c1_3] 64 (0, 0)) (by (with_reducible repeat (first | refine Xkn ?_ _ | refine Xkd ?_ | refine Xka ?_ _)); exact BK611.out) hb)
            have n4_ := Xam (Xbt (by repeat (first | (with_reducible first | exact HB.out | apply Xba | apply Xbn | apply Xbd | refine Xbe ?_ GE610.out | refine Xbe ?_ GE611.out) | exact HB.out)) hb)
            clear HO619
            clear HO625
            clear BK610
            clear BK611
            clear HB
            have HO619 := n0_
            have HO625 := n1_
            have BK610 := n2_
            have BK611 := n3_
            have HB := n4_
            clear n0_ n1_ n2_ n3_ n4_
            (try clear hb)
            (try clear hb2)
            (try clear hk)
            (try clear hi)
            refine hK.out _ _ ⟨(Xbc BK610.out 0).trans rfl, (Xbc BK610.out 1).trans rfl, (Xbc BK610.out 2).trans rfl, (Xbc BK610.out 3).trans rfl, (Xbc BK611.out 0).trans rfl, (Xbc BK611.out 1).trans rfl, (Xbc BK611.out 2).trans rfl, (Xbc BK611.out 3).trans rfl⟩ (fun hHeld => ?_)
            clear hK K
            refine norm_ (a' := ?_) ?_ ?_
            rotate_left
            · show Act.put _ (some 24) _ = _
              simp only [Act.put, List.setIfInBounds_toArray, List.set_cons_zero, List.set_cons_succ, i64_w, i32_w]
              rfl
            refine pure_ (i := 5) (N := some 6) (v := ?_) (a' := ?_) #[true, true, true, true, true, true] rfl rfl (by kernel_rfl) (fun _ _ _ h => h) (Or.inl ⟨by rfl, ?_⟩) ?_ ?_
            rotate_left
            · intro w'
              go_simp
              with_reducible rfl
            rotate_left
            · simp only [Act.put, List.setIfInBounds_toArray, List.set_cons_zero, List.set_cons_succ, i64_w, i32_w]
              rfl
            refine done_ (by kernel_rfl) ?_
            have hcz75_0 : w74.cell? ⟨gb610, 0, none⟩ = some (.int .i64 a0_0) := (Xbc BK610.out 0).trans rfl
            have hcz75_1 : w74.cell? ⟨gb610, 1, none⟩ = some (.int .i64 a0_1) := (Xbc BK610.out 1).trans rfl
            have hcz75_2 : w74.cell? ⟨gb610, 2, none⟩ = some (.int .i64 a0_2) := (Xbc BK610.out 2).trans rfl
            have hcz75_3 : w74.cell? ⟨gb610, 3, none⟩ = some (.slice A0_3 l0_3.length c0_3) := (Xbc BK610.out 3).trans rfl
            have hfz75_0 := Xbf BK610.out 0
            have hfz75_1 := Xbf BK610.out 1
            have hfz75_2 := Xbf BK610.out 2
            have hfz75_3 := Xbf BK610.out 3
            try go_wp2_with (first | ((with_reducible refine gate_callee (f := 49) rfl ?_); refine goesL_ (some 26) rfl rfl Try.func49 (by kernel_rfl) rfl #[.agg #[.int .i64 a0_0, .int .i64 a0_1, .int .i64 a0_2, .slice A0_3 l0_3.length c0_3]] rfl (by (try simp only [List.map_toArray, List.map_cons, List.map_nil]); first | done | rfl | (simp only [List.length_drop, List.length_take]; rfl)) ?_; (with_reducible refine (laws_toSenderGroup.calls k a0_0 a0_1 a0_2 _ _ l0_3 t627 t628 t629 t630 _ ?side1 ?side2 A22.out).mono ?_); (case side1 => repeat (first | exact (Kd.C_below HR0_3.out HB.out) | (with_reducible refine Xca ?_ _) | (with_reducible refine Xcn ?_ _) | (with_reducible refine Xcd ?_))); (case side2 => exact HC0_3.out); rintro e w76 ⟨v631, rfl, ho0, hb⟩; refine ⟨_, rfl, ?_⟩; have n0_ := Xam (Kd.R_elder' (by (with_reducible repeat (first | apply Xra | apply Xrn | apply Xrd)); exact HO619.out) (Kd.R_base ho0) hb); have n1_ := Xam (Kd.R_elder' (by (with_reducible repeat (first | apply Xra | apply Xrn | apply Xrd)); exact HO625.out) (Kd.R_base ho0) hb); have n2_ := Xam (Kd.R_lower (Kd.R_new' (Kd.R_new' ho0 (Kd.R_lt (by (with_reducible repeat (first | apply Xra | apply Xrn | apply Xrd)); exact HO619.out))) (Kd.R_lt (by (with_reducible repeat (first | apply Xra | apply Xrn | apply Xrd)); exact HO625.out))) (Xbs (by repeat (first | (with_reducible first | exact HB.out | apply Xba | apply Xbn | apply Xbd | refine Xbe ?_ GE610.out | refine Xbe ?_ GE611.out) | exact HB.out)))); have n3_ := Xam (Xbb (g := gb610) (o := .cells #[.int .i64 a0_0, .int .i64 a0_1, .int .i64 a0_2, .slice A0_3 l0_3.length c0_3] 64 (0, 0)) (by (with_reducible repeat (first | refine Xkn ?_ _ | refine Xkd ?_ | refine Xka ?_ _)); exact BK610.out) hb); have n4_ := Xam (Xbb (g := gb611) (o := .cells #[.int .i64 a1_0, .int .i64 a1_1, .int .i64 a1_2, .slice A1_3 l1_3.length c1_3] 64 (0, 0)) (by (with_reducible repeat (first | refine Xkn ?_ _ | refine Xkd ?_ | refine Xka ?_ _)); exact BK611.out) hb); have n5_ := Xam (Xbt (by repeat (first | (with_reducible first | exact HB.out | apply Xba | apply Xbn | apply Xbd | refine Xbe ?_ GE610.out | refine Xbe ?_ GE611.out) | exact HB.out)) hb); clear HO619; clear HO625; clear BK610; clear BK611; clear HB; have HO619 := n0_; have HO625 := n1_; have HO632 := n2_; have BK610 := n3_; have BK611 := n4_; have HB := n5_; clear n0_ n1_ n2_ n3_ n4_ n5_; (try clear hb); (try clear hb2); (try clear hk); (try clear hi); (try clear ho0)) | ((with_reducible refine gate_dst (N := 7) rfl ?_); refine box_event ?hg (N := 7) ?hd (cs := #[.int .i64 0, .int .i64 0, .int .i64 0, .slice none 0 0]) (t := 67) ?hr ?_; (case hd => rfl); (case hg => rfl); (case hr => first | (go_simp; done) | (go_simp; rfl)); intro gb633 hg w77 hbox hb; have n0_ := Xam (Kd.R_below (by (with_reducible repeat (first | apply Xra | apply Xrn | apply Xrd)); exact HO619.out) hb); have n1_ := Xam (Kd.R_below (by (with_reducible repeat (first | apply Xra | apply Xrn | apply Xrd)); exact HO625.out) hb); have n2_ := Xam (Kd.R_below (by (with_reducible repeat (first | apply Xra | apply Xrn | apply Xrd)); exact HO632.out) hb); have n3_ := Xam (Xbb (g := gb610) (o := .cells #[.int .i64 a0_0, .int .i64 a0_1, .int .i64 a0_2, .slice A0_3 l0_3.length c0_3] 64 (0, 0)) (by (with_reducible repeat (first | refine Xkn ?_ _ | refine Xkd ?_ | refine Xka ?_ _)); exact BK610.out) hb); have n4_ := Xam (Xbb (g := gb611) (o := .cells #[.int .i64 a1_0, .int .i64 a1_1, .int .i64 a1_2, .slice A1_3 l1_3.length c1_3] 64 (0, 0)) (by (with_reducible repeat (first | refine Xkn ?_ _ | refine Xkd ?_ | refine Xka ?_ _)); exact BK611.out) hb); have n5_ := Xam (Xbt (by repeat (first | (with_reducible first | exact HB.out | apply Xba | apply Xbn | apply Xbd | refine Xbe ?_ GE610.out | refine Xbe ?_ GE611.out) | exact HB.out)) hb); have n6_ := Xam (hbox); have n7_ := Xam ((by rw [hg]; exact (Xbs (by repeat (first | (with_reducible first | exact HB.out | apply Xba | apply Xbn | apply Xbd | refine Xbe ?_ GE610.out | refine Xbe ?_ GE611.out) | exact HB.out))) : w.heap.size ≤ gb633)); have n8_ := Xam ((by rw [hg]; exact (Xbs (by repeat (first | (with_reducible first | exact HB.out | apply Xba | apply Xbn | apply Xbd | refine Xbe ?_ GE610.out | refine Xbe ?_ GE611.out) | exact HB.out))) : w.heap.size ≤ gb633)); have n9_ := Xam ((by rw [hg]; exact Nat.ne_of_lt (Xbl (g := gb610) (o := .cells #[.int .i64 a0_0, .int .i64 a0_1, .int .i64 a0_2, .slice A0_3 l0_3.length c0_3] 64 (0, 0)) (by (with_reducible repeat (first | refine Xkn ?_ _ | refine Xkd ?_ | refine Xka ?_ _)); exact BK610.out)) : gb610 ≠ gb633)); have n10_ := Xam ((by rw [hg]; exact Nat.ne_of_gt (Xbl (g := gb610) (o := .cells #[.int .i64 a0_0, .int .i64 a0_1, .int .i64 a0_2, .slice A0_3 l0_3.length c0_3] 64 (0, 0)) (by (with_reducible repeat (first | refine Xkn ?_ _ | refine Xkd ?_ | refine Xka ?_ _)); exact BK610.out)) : gb633 ≠ gb610)); have n11_ := Xam ((by rw [hg]; exact Nat.ne_of_lt (Xbl (g := gb611) (o := .cells #[.int .i64 a1_0, .int .i64 a1_1, .int .i64 a1_2, .slice A1_3 l1_3.length c1_3] 64 (0, 0)) (by (with_reducible repeat (first | refine Xkn ?_ _ | refine Xkd ?_ | refine Xka ?_ _)); exact BK611.out)) : gb611 ≠ gb633)); have n12_ := Xam ((by rw [hg]; exact Nat.ne_of_gt (Xbl (g := gb611) (o := .cells #[.int .i64 a1_0, .int .i64 a1_1, .int .i64 a1_2, .slice A1_3 l1_3.length c1_3] 64 (0, 0)) (by (with_reducible repeat (first | refine Xkn ?_ _ | refine Xkd ?_ | refine Xka ?_ _)); exact BK611.out)) : gb633 ≠ gb611)); clear HO619; clear HO625; clear HO632; clear BK610; clear BK611; clear HB; have HO619 := n0_; have HO625 := n1_; have HO632 := n2_; have BK610 := n3_; have BK611 := n4_; have HB := n5_; have BK633 := n6_; have GW633 := n7_; have GE633 := n8_; have NB610_633 := n9_; have NB633_610 := n10_; have NB611_633 := n11_; have NB633_611 := n12_; clear n0_ n1_ n2_ n3_ n4_ n5_ n6_ n7_ n8_ n9_ n10_ n11_ n12_; clear hb hbox hg; have hnb78 := NB633_610.out; have hnc78 := NB610_633.out; have hnb79 := NB633_611.out; have hnc79 := NB611_633.out; have hcz80_0 : w77.cell? ⟨gb633, 0, none⟩ = some (.int .i64 0) := (Xbc BK633.out 0).trans rfl; have hcz80_1 : w77.cell? ⟨gb633, 1, none⟩ = some (.int .i64 0) := (Xbc BK633.out 1).trans rfl; have hcz80_2 : w77.cell? ⟨gb633, 2, none⟩ = some (.int .i64 0) := (Xbc BK633.out 2).trans rfl; have hcz80_3 : w77.cell? ⟨gb633, 3, none⟩ = some (.slice none 0 0) := (Xbc BK633.out 3).trans rfl; have hfz80_0 := Xbf BK633.out 0; have hfz80_1 := Xbf BK633.out 1; have hfz80_2 := Xbf BK633.out 2; have hfz80_3 := Xbf BK633.out 3; obtain ⟨Ao81, co81, eo81⟩ := Kd.R_slice HO632.out; subst eo81; have hcz82_0 : w77.cell? ⟨gb611, 0, none⟩ = some (.int .i64 a1_0) := (Xbc BK611.out 0).trans rfl; have hcz82_1 : w77.cell? ⟨gb611, 1, none⟩ = some (.int .i64 a1_1) := (Xbc BK611.out 1).trans rfl; have hcz82_2 : w77.cell? ⟨gb611, 2, none⟩ = some (.int .i64 a1_2) := (Xbc BK611.out 2).trans rfl; have hcz82_3 : w77.cell? ⟨gb611, 3, none⟩ = some (.slice A1_3 l1_3.length c1_3) := (Xbc BK611.out 3).trans rfl; have hfz82_0 := Xbf BK611.out 0; have hfz82_1 := Xbf BK611.out 1; have hfz82_2 := Xbf BK611.out 2; have hfz82_3 := Xbf BK611.out 3) | ((with_reducible refine gate_callee (f := 49) rfl ?_); refine goesL_ (some 28) rfl rfl Try.func49 (by kernel_rfl) rfl #[.agg #[.int .i64 a1_0, .int .i64 a1_1, .int .i64 a1_2, .slice A1_3 l1_3.length c1_3]] rfl (by (try simp only [List.map_toArray, List.map_cons, List.map_nil]); first | done | rfl | (simp only [List.length_drop, List.length_take]; rfl)) ?_; (with_reducible refine (laws_toSenderGroup.calls k a1_0 a1_1 a1_2 _ _ l1_3 t634 t635 t636 t637 _ ?side1 ?side2 A23.out).mono ?_); (case side1 => exact Kd.C_below HR1_3.out (by repeat (first | (with_reducible first | exact HB.out | apply Xba | apply Xbn | apply Xbd | refine Xbe ?_ GE610.out | refine Xbe ?_ GE611.out | refine Xbe ?_ GE633.out) | exact HB.out))); (case side2 => exact HC1_3.out); rintro e w83 ⟨v638, rfl, ho0, hb⟩; refine ⟨_, rfl, ?_⟩; have n0_ := Xam (Kd.R_elder' (by (with_reducible repeat (first | apply Xra | apply Xrn | apply Xrd)); exact (Kd.R_mono (Kd.R_far (p := ⟨gb633, 3, none⟩) (Kd.R_far (p := ⟨gb633, 2, none⟩) (Kd.R_far (p := ⟨gb633, 1, none⟩) (Kd.R_far (p := ⟨gb633, 0, none⟩) (Kd.R_types HO619.out BK633.out (by decide)) (fun _ hk => hk.2) (.int .i64 t627)) (fun _ hk => hk.2) (.int .i64 t628)) (fun _ hk => hk.2) (.int .i64 t629)) (fun _ hk => hk.2) (.slice Ao81 t630.length co81)) (fun _ h_ => h_.1))) (Kd.R_base ho0) hb); have n1_ := Xam (Kd.R_elder' (by (with_reducible repeat (first | apply Xra | apply Xrn | apply Xrd)); exact (Kd.R_mono (Kd.R_far (p := ⟨gb633, 3, none⟩) (Kd.R_far (p := ⟨gb633, 2, none⟩) (Kd.R_far (p := ⟨gb633, 1, none⟩) (Kd.R_far (p := ⟨gb633, 0, none⟩) (Kd.R_types HO625.out BK633.out (by decide)) (fun _ hk => hk.2) (.int .i64 t627)) (fun _ hk => hk.2) (.int .i64 t628)) (fun _ hk => hk.2) (.int .i64 t629)) (fun _ hk => hk.2) (.slice Ao81 t630.length co81)) (fun _ h_ => h_.1))) (Kd.R_base ho0) hb); have n2_ := Xam (Kd.R_elder' (by (with_reducible repeat (first | apply Xra | apply Xrn | apply Xrd)); exact (Kd.R_mono (Kd.R_far (p := ⟨gb633, 3, none⟩) (Kd.R_far (p := ⟨gb633, 2, none⟩) (Kd.R_far (p := ⟨gb633, 1, none⟩) (Kd.R_far (p := ⟨gb633, 0, none⟩) (Kd.R_types HO632.out BK633.out (by decide)) (fun _ hk => hk.2) (.int .i64 t627)) (fun _ hk => hk.2) (.int .i64 t628)) (fun _ hk => hk.2) (.int .i64 t629)) (fun _ hk => hk.2) (.slice Ao81 t630.length co81)) (fun _ h_ => h_.1))) (Kd.R_base ho0) hb); have n3_ := Xam (Kd.R_lower (Kd.R_new' (Kd.R_new' (Kd.R_new' ho0 (Kd.R_lt (by (with_reducible repeat (first | apply Xra | apply Xrn | apply Xrd)); exact (Kd.R_mono (Kd.R_far (p := ⟨gb633, 3, none⟩) (Kd.R_far (p := ⟨gb633, 2, none⟩) (Kd.R_far (p := ⟨gb633, 1, none⟩) (Kd.R_far (p := ⟨gb633, 0, none⟩) (Kd.R_types HO619.out BK633.out (by decide)) (fun _ hk => hk.2) (.int .i64 t627)) (fun _ hk => hk.2) (.int .i64 t628)) (fun _ hk => hk.2) (.int .i64 t629)) (fun _ hk => hk.2) (.slice Ao81 t630.length co81)) (fun _ h_ => h_.1))))) (Kd.R_lt (by (with_reducible repeat (first | apply Xra | apply Xrn | apply Xrd)); exact (Kd.R_mono (Kd.R_far (p := ⟨gb633, 3, none⟩) (Kd.R_far (p := ⟨gb633, 2, none⟩) (Kd.R_far (p := ⟨gb633, 1, none⟩) (Kd.R_far (p := ⟨gb633, 0, none⟩) (Kd.R_types HO625.out BK633.out (by decide)) (fun _ hk => hk.2) (.int .i64 t627)) (fun _ hk => hk.2) (.int .i64 t628)) (fun _ hk => hk.2) (.int .i64 t629)) (fun _ hk => hk.2) (.slice Ao81 t630.length co81)) (fun _ h_ => h_.1))))) (Kd.R_lt (by (with_reducible repeat (first | apply Xra | apply Xrn | apply Xrd)); exact (Kd.R_mono (Kd.R_far (p := ⟨gb633, 3, none⟩) (Kd.R_far (p := ⟨gb633, 2, none⟩) (Kd.R_far (p := ⟨gb633, 1, none⟩) (Kd.R_far (p := ⟨gb633, 0, none⟩) (Kd.R_types HO632.out BK633.out (by decide)) (fun _ hk => hk.2) (.int .i64 t627)) (fun _ hk => hk.2) (.int .i64 t628)) (fun _ hk => hk.2) (.int .i64 t629)) (fun _ hk => hk.2) (.slice Ao81 t630.length co81)) (fun _ h_ => h_.1))))) (Xbs (by repeat (first | (with_reducible first | exact HB.out | apply Xba | apply Xbn | apply Xbd | refine Xbe ?_ GE610.out | refine Xbe ?_ GE611.out | refine Xbe ?_ GE633.out) | exact HB.out)))); have n4_ := Xam (Xbb (g := gb610) (o := .cells #[.int .i64 a0_0, .int .i64 a0_1, .int .i64 a0_2, .slice A0_3 l0_3.length c0_3] 64 (0, 0)) (by (with_reducible repeat (first | refine Xkn ?_ _ | refine Xkd ?_ | refine Xka ?_ _)); refine blk_far ?_ NB610_633.out _; (with_reducible repeat (first | refine Xkn ?_ _ | refine Xkd ?_ | refine Xka ?_ _)); refine blk_far ?_ NB610_633.out _; (with_reducible repeat (first | refine Xkn ?_ _ | refine Xkd ?_ | refine Xka ?_ _)); refine blk_far ?_ NB610_633.out _; (with_reducible repeat (first | refine Xkn ?_ _ | refine Xkd ?_ | refine Xka ?_ _)); refine blk_far ?_ NB610_633.out _; (with_reducible repeat (first | refine Xkn ?_ _ | refine Xkd ?_ | refine Xka ?_ _)); exact BK610.out) hb); have n5_ := Xam (Xbb (g := gb611) (o := .cells #[.int .i64 a1_0, .int .i64 a1_1, .int .i64 a1_2, .slice A1_3 l1_3.length c1_3] 64 (0, 0)) (by (with_reducible repeat (first | refine Xkn ?_ _ | refine Xkd ?_ | refine Xka ?_ _)); refine blk_far ?_ NB611_633.out _; (with_reducible repeat (first | refine Xkn ?_ _ | refine Xkd ?_ | refine Xka ?_ _)); refine blk_far ?_ NB611_633.out _; (with_reducible repeat (first | refine Xkn ?_ _ | refine Xkd ?_ | refine Xka ?_ _)); refine blk_far ?_ NB611_633.out _; (with_reducible repeat (first | refine Xkn ?_ _ | refine Xkd ?_ | refine Xka ?_ _)); refine blk_far ?_ NB611_633.out _; (with_reducible repeat (first | refine Xkn ?_ _ | refine Xkd ?_ | refine Xka ?_ _)); exact BK611.out) hb); have n6_ := Xam (Xbb (g := gb633) (o := .cells #[.int .i64 t627, .int .i64 t628, .int .i64 t629, .slice Ao81 t630.length co81] 67 (0, 0)) (by (with_reducible repeat (first | refine Xkn ?_ _ | refine Xkd ?_ | refine Xka ?_ _)); refine blk_put (cs := #[.int .i64 t627, .int .i64 t628, .int .i64 t629, .slice none 0 0]) ?_ 3 _ rfl; (with_reducible repeat (first | refine Xkn ?_ _ | refine Xkd ?_ | refine Xka ?_ _)); refine blk_put (cs := #[.int .i64 t627, .int .i64 t628, .int .i64 0, .slice none 0 0]) ?_ 2 _ rfl; (with_reducible repeat (first | refine Xkn ?_ _ | refine Xkd ?_ | refine Xka ?_ _)); refine blk_put (cs := #[.int .i64 t627, .int .i64 0, .int .i64 0, .slice none 0 0]) ?_ 1 _ rfl; (with_reducible repeat (first | refine Xkn ?_ _ | refine Xkd ?_ | refine Xka ?_ _)); refine blk_put (cs := #[.int .i64 0, .int .i64 0, .int .i64 0, .slice none 0 0]) ?_ 0 _ rfl; (with_reducible repeat (first | refine Xkn ?_ _ | refine Xkd ?_ | refine Xka ?_ _)); exact BK633.out) hb); have n7_ := Xam (Xbt (by repeat (first | (with_reducible first | exact HB.out | apply Xba | apply Xbn | apply Xbd | refine Xbe ?_ GE610.out | refine Xbe ?_ GE611.out | refine Xbe ?_ GE633.out) | exact HB.out)) hb); clear HO619; clear HO625; clear HO632; clear BK610; clear BK611; clear BK633; clear HB; have HO619 := n0_; have HO625 := n1_; have HO632 := n2_; have HO639 := n3_; have BK610 := n4_; have BK611 := n5_; have BK633 := n6_; have HB := n7_; clear n0_ n1_ n2_ n3_ n4_ n5_ n6_ n7_; (try clear hb); (try clear hb2); (try clear hk); (try clear hi); (try clear ho0)) | ((with_reducible refine gate_dst (N := 8) rfl ?_); refine box_event ?hg (N := 8) ?hd (cs := #[.int .i64 0, .int .i64 0, .int .i64 0, .slice none 0 0]) (t := 67) ?hr ?_; (case hd => rfl); (case hg => rfl); (case hr => first | (go_simp; done) | (go_simp; rfl)); intro gb640 hg w84 hbox hb; have n0_ := Xam (Kd.R_below (by (with_reducible repeat (first | apply Xra | apply Xrn | apply Xrd)); exact HO619.out) hb); have n1_ := Xam (Kd.R_below (by (with_reducible repeat (first | apply Xra | apply Xrn | apply Xrd)); exact HO625.out) hb); have n2_ := Xam (Kd.R_below (by (with_reducible repeat (first | apply Xra | apply Xrn | apply Xrd)); exact HO632.out) hb); have n3_ := Xam (Kd.R_below (by (with_reducible repeat (first | apply Xra | apply Xrn | apply Xrd)); exact HO639.out) hb); have n4_ := Xam (Xbb (g := gb610) (o := .cells #[.int .i64 a0_0, .int .i64 a0_1, .int .i64 a0_2, .slice A0_3 l0_3.length c0_3] 64 (0, 0)) (by (with_reducible repeat (first | refine Xkn ?_ _ | refine Xkd ?_ | refine Xka ?_ _)); exact BK610.out) hb); have n5_ := Xam (Xbb (g := gb611) (o := .cells #[.int .i64 a1_0, .int .i64 a1_1, .int .i64 a1_2, .slice A1_3 l1_3.length c1_3] 64 (0, 0)) (by (with_reducible repeat (first | refine Xkn ?_ _ | refine Xkd ?_ | refine Xka ?_ _)); exact BK611.out) hb); have n6_ := Xam (Xbb (g := gb633) (o := .cells #[.int .i64 t627, .int .i64 t628, .int .i64 t629, .slice Ao81 t630.length co81] 67 (0, 0)) (by (with_reducible repeat (first | refine Xkn ?_ _ | refine Xkd ?_ | refine Xka ?_ _)); exact BK633.out) hb); have n7_ := Xam (Xbt (by repeat (first | (with_reducible first | exact HB.out | apply Xba | apply Xbn | apply Xbd | refine Xbe ?_ GE610.out | refine Xbe ?_ GE611.out | refine Xbe ?_ GE633.out) | exact HB.out)) hb); have n8_ := Xam (hbox); have n9_ := Xam ((by rw [hg]; exact (Xbs (by repeat (first | (with_reducible first | exact HB.out | apply Xba | apply Xbn | apply Xbd | refine Xbe ?_ GE610.out | refine Xbe ?_ GE611.out | refine Xbe ?_ GE633.out) | exact HB.out))) : w.heap.size ≤ gb640)); have n10_ := Xam ((by rw [hg]; exact (Xbs (by repeat (first | (with_reducible first | exact HB.out | apply Xba | apply Xbn | apply Xbd | refine Xbe ?_ GE610.out | refine Xbe ?_ GE611.out | refine Xbe ?_ GE633.out) | exact HB.out))) : w.heap.size ≤ gb640)); have n11_ := Xam ((by rw [hg]; exact Nat.ne_of_lt (Xbl (g := gb610) (o := .cells #[.int .i64 a0_0, .int .i64 a0_1, .int .i64 a0_2, .slice A0_3 l0_3.length c0_3] 64 (0, 0)) (by (with_reducible repeat (first | refine Xkn ?_ _ | refine Xkd ?_ | refine Xka ?_ _)); exact BK610.out)) : gb610 ≠ gb640)); have n12_ := Xam ((by rw [hg]; exact Nat.ne_of_gt (Xbl (g := gb610) (o := .cells #[.int .i64 a0_0, .int .i64 a0_1, .int .i64 a0_2, .slice A0_3 l0_3.length c0_3] 64 (0, 0)) (by (with_reducible repeat (first | refine Xkn ?_ _ | refine Xkd ?_ | refine Xka ?_ _)); exact BK610.out)) : gb640 ≠ gb610)); have n13_ := Xam ((by rw [hg]; exact Nat.ne_of_lt (Xbl (g := gb611) (o := .cells #[.int .i64 a1_0, .int .i64 a1_1, .int .i64 a1_2, .slice A1_3 l1_3.length c1_3] 64 (0, 0)) (by (with_reducible repeat (first | refine Xkn ?_ _ | refine Xkd ?_ | refine Xka ?_ _)); exact BK611.out)) : gb611 ≠ gb640)); have n14_ := Xam ((by rw [hg]; exact Nat.ne_of_gt (Xbl (g := gb611) (o := .cells #[.int .i64 a1_0, .int .i64 a1_1, .int .i64 a1_2, .slice A1_3 l1_3.length c1_3] 64 (0, 0)) (by (with_reducible repeat (first | refine Xkn ?_ _ | refine Xkd ?_ | refine Xka ?_ _)); exact BK611.out)) : gb640 ≠ gb611)); have n15_ := Xam ((by rw [hg]; exact Nat.ne_of_lt (Xbl (g := gb633) (o := .cells #[.int .i64 t627, .int .i64 t628, .int .i64 t629, .slice Ao81 t630.length co81] 67 (0, 0)) (by (with_reducible repeat (first | refine Xkn ?_ _ | refine Xkd ?_ | refine Xka ?_ _)); exact BK633.out)) : gb633 ≠ gb640)); have n16_ := Xam ((by rw [hg]; exact Nat.ne_of_gt (Xbl (g := gb633) (o := .cells #[.int .i64 t627, .int .i64 t628, .int .i64 t629, .slice Ao81 t630.length co81] 67 (0, 0)) (by (with_reducible repeat (first | refine Xkn ?_ _ | refine Xkd ?_ | refine Xka ?_ _)); exact BK633.out)) : gb640 ≠ gb633)); clear HO619; clear HO625; clear HO632; clear HO639; clear BK610; clear BK611; clear BK633; clear HB; have HO619 := n0_; have HO625 := n1_; have HO632 := n2_; have HO639 := n3_; have BK610 := n4_; have BK611 := n5_; have BK633 := n6_; have HB := n7_; have BK640 := n8_; have GW640 := n9_; have GE640 := n10_; have NB610_640 := n11_; have NB640_610 := n12_; have NB611_640 := n13_; have NB640_611 := n14_; have NB633_640 := n15_; have NB640_633 := n16_; clear n0_ n1_ n2_ n3_ n4_ n5_ n6_ n7_ n8_ n9_ n10_ n11_ n12_ n13_ n14_ n15_ n16_; clear hb hbox hg; have hnb85 := NB640_610.out; have hnc85 := NB610_640.out; have hnb86 := NB640_611.out; have hnc86 := NB611_640.out; have hnb87 := NB640_633.out; have hnc87 := NB633_640.out; have hcz88_0 : w84.cell? ⟨gb640, 0, none⟩ = some (.int .i64 0) := (Xbc BK640.out 0).trans rfl; have hcz88_1 : w84.cell? ⟨gb640, 1, none⟩ = some (.int .i64 0) := (Xbc BK640.out 1).trans rfl; have hcz88_2 : w84.cell? ⟨gb640, 2, none⟩ = some (.int .i64 0) := (Xbc BK640.out 2).trans rfl; have hcz88_3 : w84.cell? ⟨gb640, 3, none⟩ = some (.slice none 0 0) := (Xbc BK640.out 3).trans rfl; have hfz88_0 := Xbf BK640.out 0; have hfz88_1 := Xbf BK640.out 1; have hfz88_2 := Xbf BK640.out 2; have hfz88_3 := Xbf BK640.out 3; obtain ⟨Ao89, co89, eo89⟩ := Kd.R_slice HO639.out; subst eo89; have hcz90_0 : w84.cell? ⟨gb633, 0, none⟩ = some (.int .i64 t627) := (Xbc BK633.out 0).trans rfl; have hcz90_1 : w84.cell? ⟨gb633, 1, none⟩ = some (.int .i64 t628) := (Xbc BK633.out 1).trans rfl; have hcz90_2 : w84.cell? ⟨gb633, 2, none⟩ = some (.int .i64 t629) := (Xbc BK633.out 2).trans rfl; have hcz90_3 : w84.cell? ⟨gb633, 3, none⟩ = some (.slice Ao81 t630.length co81) := (Xbc BK633.out 3).trans rfl; have hfz90_0 := Xbf BK633.out 0; have hfz90_1 := Xbf BK633.out 1; have hfz90_2 := Xbf BK633.out 2; have hfz90_3 := Xbf BK633.out 3) | ((with_reducible refine gate_callee (f := 50) rfl ?_); refine goesL_ (some 31) rfl rfl Try.func50 (by kernel_rfl) rfl #[.agg #[.int .i64 t627, .int .i64 t628, .int .i64 t629, .slice Ao81 t630.length co81], .agg #[.int .i64 t634, .int .i64 t635, .int .i64 t636, .slice Ao89 t637.length co89]] rfl (by (try simp only [List.map_toArray, List.map_cons, List.map_nil]); first | done | rfl | (simp only [List.length_drop, List.length_take]; rfl)) ?_; (with_reducible refine (impl_EqualGroups.calls k t627 t628 t629 _ _ t630 t634 t635 t636 _ _ t637 t641 _ ?side1 ?side2 ?side3 ?side4 A24.out).mono ?_); (case side1 => refine (Kd.R_reads' (e := 3) (base := w.heap.size) (ok := fun k_ => (((True ∧ some k_ ≠ (.slice Ao72 t617.length co72 : Value).ownBlock) ∧ some k_ ≠ (.slice Ao73 t623.length co73 : Value).ownBlock) ∧ some k_ ≠ (.slice Ao89 t637.length co89 : Value).ownBlock)) (n := t630.length) (c := co81) ?_).2.2; exact (by (with_reducible repeat (first | apply Xra | apply Xrn | apply Xrd)); exact (Kd.R_mono (Kd.R_far (p := ⟨gb640, 3, none⟩) (Kd.R_far (p := ⟨gb640, 2, none⟩) (Kd.R_far (p := ⟨gb640, 1, none⟩) (Kd.R_far (p := ⟨gb640, 0, none⟩) (Kd.R_types HO632.out BK640.out (by decide)) (fun _ hk => hk.2) (.int .i64 t634)) (fun _ hk => hk.2) (.int .i64 t635)) (fun _ hk => hk.2) (.int .i64 t636)) (fun _ hk => hk.2) (.slice Ao89 t637.length co89)) (fun _ h_ => h_.1)))); (case side2 => exact (Kd.R_reads' HO632.out).2.1); (case side3 => refine (Kd.R_reads' (e := 3) (base := w.heap.size) (ok := fun k_ => (((True ∧ some k_ ≠ (.slice Ao72 t617.length co72 : Value).ownBlock) ∧ some k_ ≠ (.slice Ao73 t623.length co73 : Value).ownBlock) ∧ some k_ ≠ (.slice Ao81 t630.length co81 : Value).ownBlock)) (n := t637.length) (c := co89) ?_).2.2; exact (by (with_reducible repeat (first | apply Xra | apply Xrn | apply Xrd)); exact (Kd.R_mono (Kd.R_far (p := ⟨gb640, 3, none⟩) (Kd.R_far (p := ⟨gb640, 2, none⟩) (Kd.R_far (p := ⟨gb640, 1, none⟩) (Kd.R_far (p := ⟨gb640, 0, none⟩) (Kd.R_types HO639.out BK640.out (by decide)) (fun _ hk => hk.2) (.int .i64 t634)) (fun _ hk => hk.2) (.int .i64 t635)) (fun _ hk => hk.2) (.int .i64 t636)) (fun _ hk => hk.2) (.slice Ao89 t637.length co89)) (fun _ h_ => h_.1)))); (case side4 => exact (Kd.R_reads' HO639.out).2.1); rintro e w91 ⟨rfl, hb⟩; refine ⟨_, rfl, ?_⟩; have n0_ := Xam (Kd.R_below (by (with_reducible repeat (first | apply Xra | apply Xrn | apply Xrd)); exact (Kd.R_mono (Kd.R_far (p := ⟨gb640, 3, none⟩) (Kd.R_far (p := ⟨gb640, 2, none⟩) (Kd.R_far (p := ⟨gb640, 1, none⟩) (Kd.R_far (p := ⟨gb640, 0, none⟩) (Kd.R_types HO619.out BK640.out (by decide)) (fun _ hk => hk.2) (.int .i64 t634)) (fun _ hk => hk.2) (.int .i64 t635)) (fun _ hk => hk.2) (.int .i64 t636)) (fun _ hk => hk.2) (.slice Ao89 t637.length co89)) (fun _ h_ => h_.1))) hb); have n1_ := Xam (Kd.R_below (by (with_reducible repeat (first | apply Xra | apply Xrn | apply Xrd)); exact (Kd.R_mono (Kd.R_far (p := ⟨gb640, 3, none⟩) (Kd.R_far (p := ⟨gb640, 2, none⟩) (Kd.R_far (p := ⟨gb640, 1, none⟩) (Kd.R_far (p := ⟨gb640, 0, none⟩) (Kd.R_types HO625.out BK640.out (by decide)) (fun _ hk => hk.2) (.int .i64 t634)) (fun _ hk => hk.2) (.int .i64 t635)) (fun _ hk => hk.2) (.int .i64 t636)) (fun _ hk => hk.2) (.slice Ao89 t637.length co89)) (fun _ h_ => h_.1))) hb); have n2_ := Xam (Kd.R_below (by (with_reducible repeat (first | apply Xra | apply Xrn | apply Xrd)); exact (Kd.R_mono (Kd.R_far (p := ⟨gb640, 3, none⟩) (Kd.R_far (p := ⟨gb640, 2, none⟩) (Kd.R_far (p := ⟨gb640, 1, none⟩) (Kd.R_far (p := ⟨gb640, 0, none⟩) (Kd.R_types HO632.out BK640.out (by decide)) (fun _ hk => hk.2) (.int .i64 t634)) (fun _ hk => hk.2) (.int .i64 t635)) (fun _ hk => hk.2) (.int .i64 t636)) (fun _ hk => hk.2) (.slice Ao89 t637.length co89)) (fun _ h_ => h_.1))) hb); have n3_ := Xam (Kd.R_below (by (with_reducible repeat (first | apply Xra | apply Xrn | apply Xrd)); exact (Kd.R_mono (Kd.R_far (p := ⟨gb640, 3, none⟩) (Kd.R_far (p := ⟨gb640, 2, none⟩) (Kd.R_far (p := ⟨gb640, 1, none⟩) (Kd.R_far (p := ⟨gb640, 0, none⟩) (Kd.R_types HO639.out BK640.out (by decide)) (fun _ hk => hk.2) (.int .i64 t634)) (fun _ hk => hk.2) (.int .i64 t635)) (fun _ hk => hk.2) (.int .i64 t636)) (fun _ hk => hk.2) (.slice Ao89 t637.length co89)) (fun _ h_ => h_.1))) hb); have n4_ := Xam (Xbb (g := gb610) (o := .cells #[.int .i64 a0_0, .int .i64 a0_1, .int .i64 a0_2, .slice A0_3 l0_3.length c0_3] 64 (0, 0)) (by (with_reducible repeat (first | refine Xkn ?_ _ | refine Xkd ?_ | refine Xka ?_ _)); refine blk_far ?_ NB610_640.out _; (with_reducible repeat (first | refine Xkn ?_ _ | refine Xkd ?_ | refine Xka ?_ _)); refine blk_far ?_ NB610_640.out _; (with_reducible repeat (first | refine Xkn ?_ _ | refine Xkd ?_ | refine Xka ?_ _)); refine blk_far ?_ NB610_640.out _; (with_reducible repeat (first | refine Xkn ?_ _ | refine Xkd ?_ | refine Xka ?_ _)); refine blk_far ?_ NB610_640.out _; (with_reducible repeat (first | refine Xkn ?_ _ | refine Xkd ?_ | refine Xka ?_ _)); exact BK610.out) hb); have n5_ := Xam (Xbb (g := gb611) (o := .cells #[.int .i64 a1_0, .int .i64 a1_1, .int .i64 a1_2, .slice A1_3 l1_3.length c1_3] 64 (0, 0)) (by (with_reducible repeat (first | refine Xkn ?_ _ | refine Xkd ?_ | refine Xka ?_ _)); refine blk_far ?_ NB611_640.out _; (with_reducible repeat (first | refine Xkn ?_ _ | refine Xkd ?_ | refine Xka ?_ _)); refine blk_far ?_ NB611_640.out _; (with_reducible repeat (first | refine Xkn ?_ _ | refine Xkd ?_ | refine Xka ?_ _)); refine blk_far ?_ NB611_640.out _; (with_reducible repeat (first | refine Xkn ?_ _ | refine Xkd ?_ | refine Xka ?_ _)); refine blk_far ?_ NB611_640.out _; (with_reducible repeat (first | refine Xkn ?_ _ | refine Xkd ?_ | refine Xka ?_ _)); exact BK611.out) hb); have n6_ := Xam (Xbb (g := gb633) (o := .cells #[.int .i64 t627, .int .i64 t628, .int .i64 t629, .slice Ao81 t630.length co81] 67 (0, 0)) (by (with_reducible repeat (first | refine Xkn ?_ _ | refine Xkd ?_ | refine Xka ?_ _)); refine blk_far ?_ NB633_640.out _; (with_reducible repeat (first | refine Xkn ?_ _ | refine Xkd ?_ | refine Xka ?_ _)); refine blk_far ?_ NB633_640.out _; (with_reducible repeat (first | refine Xkn ?_ _ | refine Xkd ?_ | refine Xka ?_ _)); refine blk_far ?_ NB633_640.out _; (with_reducible repeat (first | refine Xkn ?_ _ | refine Xkd ?_ | refine Xka ?_ _)); refine blk_far ?_ NB633_640.out _; (with_reducible repeat (first | refine Xkn ?_ _ | refine Xkd ?_ | refine Xka ?_ _)); exact BK633.out) hb); have n7_ := Xam (Xbb (g := gb640) (o := .cells #[.int .i64 t634, .int .i64 t635, .int .i64 t636, .slice Ao89 t637.length co89] 67 (0, 0)) (by (with_reducible repeat (first | refine Xkn ?_ _ | refine Xkd ?_ | refine Xka ?_ _)); refine blk_put (cs := #[.int .i64 t634, .int .i64 t635, .int .i64 t636, .slice none 0 0]) ?_ 3 _ rfl; (with_reducible repeat (first | refine Xkn ?_ _ | refine Xkd ?_ | refine Xka ?_ _)); refine blk_put (cs := #[.int .i64 t634, .int .i64 t635, .int .i64 0, .slice none 0 0]) ?_ 2 _ rfl; (with_reducible repeat (first | refine Xkn ?_ _ | refine Xkd ?_ | refine Xka ?_ _)); refine blk_put (cs := #[.int .i64 t634, .int .i64 0, .int .i64 0, .slice none 0 0]) ?_ 1 _ rfl; (with_reducible repeat (first | refine Xkn ?_ _ | refine Xkd ?_ | refine Xka ?_ _)); refine blk_put (cs := #[.int .i64 0, .int .i64 0, .int .i64 0, .slice none 0 0]) ?_ 0 _ rfl; (with_reducible repeat (first | refine Xkn ?_ _ | refine Xkd ?_ | refine Xka ?_ _)); exact BK640.out) hb); have n8_ := Xam (Xbt (by repeat (first | (with_reducible first | exact HB.out | apply Xba | apply Xbn | apply Xbd | refine Xbe ?_ GE610.out | refine Xbe ?_ GE611.out | refine Xbe ?_ GE633.out | refine Xbe ?_ GE640.out) | exact HB.out)) hb); clear HO619; clear HO625; clear HO632; clear HO639; clear BK610; clear BK611; clear BK633; clear BK640; clear HB; have HO619 := n0_; have HO625 := n1_; have HO632 := n2_; have HO639 := n3_; have BK610 := n4_; have BK611 := n5_; have BK633 := n6_; have BK640 := n7_; have HB := n8_; clear n0_ n1_ n2_ n3_ n4_ n5_ n6_ n7_ n8_; (try clear hb); (try clear hb2); (try clear hk); (try clear hi)))
            have n0_ := Xam (Xrd HO619.out)
            have n1_ := Xam (Xrd HO625.out)
            have n2_ := Xam (Xrd HO632.out)
            have n3_ := Xam (Xrd HO639.out)
            have n4_ := Xam (Xkd BK610.out)
            have n5_ := Xam (Xkd BK611.out)
            have n6_ := Xam (Xkd BK633.out)
            have n7_ := Xam (Xkd BK640.out)
            have n8_ := Xam (Xbd HB.out)
            clear HO619
            clear HO625
            clear HO632
            clear HO639
            clear BK610
            clear BK611
            clear BK633
            clear BK640
            clear HB
            have HO619 := n0_
            have HO625 := n1_
            have HO632 := n2_
            have HO639 := n3_
            have BK610 := n4_
            have BK611 := n5_
            have BK633 := n6_
            have BK640 := n7_
            have HB := n8_
            clear n0_ n1_ n2_ n3_ n4_ n5_ n6_ n7_ n8_
            refine start_ (n := 5) (S := fun w' => w'.cell? ⟨gb633, 0, none⟩ = some (.int .i64 t627) ∧ w'.cell? ⟨gb633, 1, none⟩ = some (.int .i64 t628) ∧ w'.cell? ⟨gb633, 2, none⟩ = some (.int .i64 t629) ∧ w'.cell? ⟨gb633, 3, none⟩ = some (.slice Ao81 t630.length co81) ∧ w'.cell? ⟨gb610, 0, none⟩ = some (.int .i64 a0_0) ∧ w'.cell? ⟨gb610, 1, none⟩ = some (.int .i64 a0_1) ∧ w'.cell? ⟨gb610, 2, none⟩ = some (.int .i64 a0_2) ∧ w'.cell? ⟨gb610, 3, none⟩ = some (.slice A0_3 l0_3.length c0_3)) (ds := []) #[false, false, false, false, false] (by kernel_rfl) rfl rfl ⟨(Xbc BK633.out 0).trans rfl, (Xbc BK633.out 1).trans rfl, (Xbc BK633.out 2).trans rfl, (Xbc BK633.out 3).trans rfl, (Xbc BK610.out 0).trans rfl, (Xbc BK610.out 1).trans rfl, (Xbc BK610.out 2).trans rfl, (Xbc BK610.out 3).trans rfl⟩ (fun hHeld => ?_)
            generalize w91.drew = w92 at HO619 HO625 HO632 HO639 BK610 BK611 BK633 BK640 HB hHeld ⊢
            refine take_ (i := 0) (N := some 35) (v := ?_) (a' := ?_) #[true, false, false, false, false] rfl rfl (by kernel_rfl) (fun _ _ _ h => h) (Or.inl ⟨by rfl, ?_⟩) hHeld ?_ ?_
            rotate_left
            · rintro w' ⟨s0, s1, s2, s3, s4, s5, s6, s7⟩
              go_simp
              with_reducible rfl
            rotate_left
            · simp only [Act.put, List.setIfInBounds_toArray, List.set_cons_zero, List.set_cons_succ, i64_w, i32_w]
              rfl
            refine take_ (i := 1) (N := some 36) (v := ?_) (a' := ?_) #[true, true, false, false, false] rfl rfl (by kernel_rfl) (fun _ _ _ h => h) (Or.inl ⟨by rfl, ?_⟩) hHeld ?_ ?_
            rotate_left
            · rintro w' ⟨s0, s1, s2, s3, s4, s5, s6, s7⟩
              go_simp
              with_reducible rfl
            rotate_left
            · simp only [Act.put, List.setIfInBounds_toArray, List.set_cons_zero, List.set_cons_succ, i64_w, i32_w]
              rfl
            refine one_ (i := 2) (N := some 37) #[true, true, true, false, false] rfl rfl (by kernel_rfl) (by decide) (fun K hK => ?_)
            refine goes_ Try.func49 (by kernel_rfl) rfl #[.agg #[.int .i64 a0_0, .int .i64 a0_1, .int .i64 a0_2, .slice A0_3 l0_3.length c0_3]] (by rfl) rfl rfl (by (try simp only [List.map_toArray, List.map_cons, List.map_nil]); first | done | rfl | (simp only [List.length_drop, List.length_take]; rfl)) ?_
            with_reducible refine (laws_toSenderGroup.calls k a0_0 a0_1 a0_2 _ _ l0_3 t642 t643 t644 t645 _ ?side1 ?side2 A56.out).mono ?_
            (case side1 => repeat (first | exact (Kd.C_below HR0_3.out HB.out) | (with_reducible refine Xca ?_ _) | (with_reducible refine Xcn ?_ _) | (with_reducible refine Xcd ?_)))
            (case side2 => exact HC0_3.out)
            rintro e w93 ⟨v646, rfl, ho0, hb⟩
            refine ⟨_, rfl, ?_⟩
            have n0_ := Xam (Kd.R_elder' (by (with_reducible repeat (first | apply Xra | apply Xrn | apply Xrd)); exact HO619.out) (Kd.R_base ho0) hb)
            have n1_ := Xam (Kd.R_elder' (by (with_reducible repeat (first | apply Xra | apply Xrn | apply Xrd)); exact HO625.out) (Kd.R_base ho0) hb)
            have n2_ := Xam (Kd.R_elder' (by (with_reducible repeat (first | apply Xra | apply Xrn | apply Xrd)); exact HO632.out) (Kd.R_base ho0) hb)
            have n3_ := Xam (Kd.R_elder' (by (with_reducible repeat (first | apply Xra | apply Xrn | apply Xrd)); exact HO639.out) (Kd.R_base ho0) hb)
            have n4_ := Xam (Kd.R_lower (Kd.R_new' (Kd.R_new' (Kd.R_new' (Kd.R_new' ho0 (Kd.R_lt (by (with_reducible repeat (first | apply Xra | apply Xrn | apply Xrd)); exact HO619.out))) (Kd.R_lt (by (with_reducible repeat (first | apply Xra | apply Xrn | apply Xrd)); exact HO625.out))) (Kd.R_lt (by (with_reducible repeat (first | apply Xra | apply Xrn | apply Xrd)); exact HO632.out))) (Kd.R_lt (by (with_reducible repeat (first | apply Xra | apply Xrn | apply Xrd)); exact HO639.out))) (Xbs (by repeat (first | (with_reducible first | exact HB.out | apply Xba | apply Xbn | apply Xbd | refine Xbe ?_ GE610.out | refine Xbe ?_ GE611.out | refine Xbe ?_ GE633.out | refine Xbe ?_ GE640.out) | exact HB.out))))
            have n5_ := Xam (Xbb (g := gb610) (o := .cells #[.int .i64 a0_0, .int .i64 a0_1, .int .i64 a0_2, .slice A0_3 l0_3.length c0_3] 64 (0, 0)) (by (with_reducible repeat (first | refine Xkn ?_ _ | refine Xkd ?_ | refine Xka ?_ _)); exact BK610.out) hb)
            have n6_ := Xam (Xbb (g := gb611) (o := .cells #[.int .i64 a1_0, .int .i64 a1_1, .int .i64 a1_2, .slice A1_3 l1_3.length c1_3] 64 (0, 0)) (by (with_reducible repeat (first | refine Xkn ?_ _ | refine Xkd ?_ | refine Xka ?_ _)); exact BK611.out) hb)
            have n7_ := Xam (Xbb (g := gb633) (o := .cells #[.int .i64 t627, .int .i64 t628, .int .i64 t629, .slice Ao81 t630.length co81] 67 (0, 0)) (by (with_reducible repeat (first | refine Xkn ?_ _ | refine Xkd ?_ | refine Xka ?_ _)); exact BK633.out) hb)
            have n8_ := Xam (Xbb (g := gb640) (o := .cells #[.int .i64 t634, .int .i64 t635, .int .i64 t636, .slice Ao89 t637.length co89] 67 (0, 0)) (by (with_reducible repeat (first | refine Xkn ?_ _ | refine Xkd ?_ | refine Xka ?_ _)); exact BK640.out) hb)
            have n9_ := Xam (Xbt (by repeat (first | (with_reducible first | exact HB.out | apply Xba | apply Xbn | apply Xbd | refine Xbe ?_ GE610.out | refine Xbe ?_ GE611.out | refine Xbe ?_ GE633.out | refine Xbe ?_ GE640.out) | exact HB.out)) hb)
            clear HO619
            clear HO625
            clear HO632
            clear HO639
            clear BK610
            clear BK611
            clear BK633
            clear BK640
            clear HB
            have HO619 := n0_
            have HO625 := n1_
            have HO632 := n2_
            have HO639 := n3_
            have HO647 := n4_
            have BK610 := n5_
            have BK611 := n6_
            have BK633 := n7_
            have BK640 := n8_
            have HB := n9_
            clear n0_ n1_ n2_ n3_ n4_ n5_ n6_ n7_ n8_ n9_
            (try clear hb)
            (try clear hb2)
            (try clear hk)
            (try clear hi)
            (try clear ho0)
            obtain ⟨Ao94, co94, eo94⟩ := Kd.R_slice HO647.out
            (first | subst eo94 | (injection eo94 with f1_ f2_ f3_; have f4_ := f1_.symm; have f5_ := f3_.symm; clear f1_ f2_ f3_; subst f4_; subst f5_))
            refine hK.out _ _ ⟨(Xbc BK633.out 0).trans rfl, (Xbc BK633.out 1).trans rfl, (Xbc BK633.out 2).trans rfl, (Xbc BK633.out 3).trans rfl, (Xbc BK610.out 0).trans rfl, (Xbc BK610.out 1).trans rfl, (Xbc BK610.out 2).trans rfl, (Xbc BK610.out 3).trans rfl⟩ (fun hHeld => ?_)
            clear hK K
            refine norm_ (a' := ?_) ?_ ?_
            rotate_left
            · show Act.put _ (some 37) _ = _
              simp only [Act.put, List.setIfInBounds_toArray, List.set_cons_zero, List.set_cons_succ, i64_w, i32_w]
              rfl
            refine one_ (i := 3) (N := some 38) #[true, true, true, true, false] rfl rfl (by kernel_rfl) (by decide) (fun K hK => ?_)
            refine goes_ Try.func51 (by kernel_rfl) rfl #[.agg #[.int .i64 t627, .int .i64 t628, .int .i64 t629, .slice Ao81 t630.length co81], .agg #[.int .i64 t642, .int .i64 t643, .int .i64 t644, .slice Ao94 t645.length co94]] (by rfl) rfl rfl (by (try simp only [List.map_toArray, List.map_cons, List.map_nil]); first | done | rfl | (simp only [List.length_drop, List.length_take]; rfl)) ?_
            with_reducible refine (laws_eqSenderGroup.calls k t627 t628 t629 _ _ t630 t642 t643 t644 _ _ t645 true _ ?side1 ?side2 ?side3 ?side4 A57.out).mono ?_
            (case side1 => repeat (first | exact (Kd.R_reads' HO632.out).2.2 | (with_reducible refine Xca ?_ _) | (with_reducible refine Xcn ?_ _) | (with_reducible refine Xcd ?_)))
            (case side2 => exact (Kd.R_reads' HO632.out).2.1)
            (case side3 => repeat (first | exact (Kd.R_reads' HO647.out).2.2 | (with_reducible refine Xca ?_ _) | (with_reducible refine Xcn ?_ _) | (with_reducible refine Xcd ?_)))
            (case side4 => exact (Kd.R_reads' HO647.out).2.1)
            rintro e w95 ⟨rfl, hb⟩
            refine ⟨_, rfl, ?_⟩
            have n0_ := Xam (Kd.R_below (by (with_reducible repeat (first | apply Xra | apply Xrn | apply Xrd)); exact HO619.out) hb)
            have n1_ := Xam (Kd.R_below (by (with_reducible repeat (first | apply Xra | apply Xrn | apply Xrd)); exact HO625.out) hb)
            have n2_ := Xam (Kd.R_below (by (with_reducible repeat (first | apply Xra | apply Xrn | apply Xrd)); exact HO632.out) hb)
            have n3_ := Xam (Kd.R_below (by (with_reducible repeat (first | apply Xra | apply Xrn | apply Xrd)); exact HO639.out) hb)
            have n4_ := Xam (Kd.R_below (by (with_reducible repeat (first | apply Xra | apply Xrn | apply Xrd)); exact HO647.out) hb)
            have n5_ := Xam (Xbb (g := gb610) (o := .cells #[.int .i64 a0_0, .int .i64 a0_1, .int .i64 a0_2, .slice A0_3 l0_3.length c0_3] 64 (0, 0)) (by (with_reducible repeat (first | refine Xkn ?_ _ | refine Xkd ?_ | refine Xka ?_ _)); exact BK610.out) hb)
            have n6_ := Xam (Xbb (g := gb611) (o := .cells #[.int .i64 a1_0, .int .i64 a1_1, .int .i64 a1_2, .slice A1_3 l1_3.length c1_3] 64 (0, 0)) (by (with_reducible repeat (first | refine Xkn ?_ _ | refine Xkd ?_ | refine Xka ?_ _)); exact BK611.out) hb)
            have n7_ := Xam (Xbb (g := gb633) (o := .cells #[.int .i64 t627, .int .i64 t628, .int .i64 t629, .slice Ao81 t630.length co81] 67 (0, 0)) (by (with_reducible repeat (first | refine Xkn ?_ _ | refine Xkd ?_ | refine Xka ?_ _)); exact BK633.out) hb)
            have n8_ := Xam (Xbb (g := gb640) (o := .cells #[.int .i64 t634, .int .i64 t635, .int .i64 t636, .slice Ao89 t637.length co89] 67 (0, 0)) (by (with_reducible repeat (first | refine Xkn ?_ _ | refine Xkd ?_ | refine Xka ?_ _)); exact BK640.out) hb)
            have n9_ := Xam (Xbt (by repeat (first | (with_reducible first | exact HB.out | apply Xba | apply Xbn | apply Xbd | refine Xbe ?_ GE610.out | refine Xbe ?_ GE611.out | refine Xbe ?_ GE633.out | refine Xbe ?_ GE640.out) | exact HB.out)) hb)
            clear HO619
            clear HO625
            clear HO632
            clear HO639
            clear HO647
            clear BK610
            clear BK611
            clear BK633
            clear BK640
            clear HB
            have HO619 := n0_
            have HO625 := n1_
            have HO632 := n2_
            have HO639 := n3_
            have HO647 := n4_
            have BK610 := n5_
            have BK611 := n6_
            have BK633 := n7_
            have BK640 := n8_
            have HB := n9_
            clear n0_ n1_ n2_ n3_ n4_ n5_ n6_ n7_ n8_ n9_
            (try clear hb)
            (try clear hb2)
            (try clear hk)
            (try clear hi)
            refine hK.out _ _ ⟨(Xbc BK633.out 0).trans rfl, (Xbc BK633.out 1).trans rfl, (Xbc BK633.out 2).trans rfl, (Xbc BK633.out 3).trans rfl, (Xbc BK610.out 0).trans rfl, (Xbc BK610.out 1).trans rfl, (Xbc BK610.out 2).trans rfl, (Xbc BK610.out 3).trans rfl⟩ (fun hHeld => ?_)
            clear hK K
            refine norm_ (a' := ?_) ?_ ?_
            rotate_left
            · show Act.put _ (some 38) _ = _
              simp only [Act.put, List.setIfInBounds_toArray, List.set_cons_zero, List.set_cons_succ, i64_w, i32_w]
              rfl
            refine pure_ (i := 4) (N := some 39) (v := ?_) (a' := ?_) #[true, true, true, true, true] rfl rfl (by kernel_rfl) (fun _ _ _ h => h) (Or.inl ⟨by rfl, ?_⟩) ?_ ?_
            rotate_left
            · intro w'
              go_simp
              with_reducible rfl
            rotate_left
            · simp only [Act.put, List.setIfInBounds_toArray, List.set_cons_zero, List.set_cons_succ, i64_w, i32_w]
              rfl
            refine done_ (by kernel_rfl) ?_
            try go_wp2
            have n0_ := Xam (Xrd HO619.out)
            have n1_ := Xam (Xrd HO625.out)
            have n2_ := Xam (Xrd HO632.out)
            have n3_ := Xam (Xrd HO639.out)
            have n4_ := Xam (Xrd HO647.out)
            have n5_ := Xam (Xkd BK610.out)
            have n6_ := Xam (Xkd BK611.out)
            have n7_ := Xam (Xkd BK633.out)
            have n8_ := Xam (Xkd BK640.out)
            have n9_ := Xam (Xbd HB.out)
            clear HO619
            clear HO625
            clear HO632
            clear HO639
            clear HO647
            clear BK610
            clear BK611
            clear BK633
            clear BK640
            clear HB
            have HO619 := n0_
            have HO625 := n1_
            have HO632 := n2_
            have HO639 := n3_
            have HO647 := n4_
            have BK610 := n5_
            have BK611 := n6_
            have BK633 := n7_
            have BK640 := n8_
            have HB := n9_
            clear n0_ n1_ n2_ n3_ n4_ n5_ n6_ n7_ n8_ n9_
            refine start_ (n := 5) (S := fun w' => w'.cell? ⟨gb640, 0, none⟩ = some (.int .i64 t634) ∧ w'.cell? ⟨gb640, 1, none⟩ = some (.int .i64 t635) ∧ w'.cell? ⟨gb640, 2, none⟩ = some (.int .i64 t636) ∧ w'.cell? ⟨gb640, 3, none⟩ = some (.slice Ao89 t637.length co89) ∧ w'.cell? ⟨gb611, 0, none⟩ = some (.int .i64 a1_0) ∧ w'.cell? ⟨gb611, 1, none⟩ = some (.int .i64 a1_1) ∧ w'.cell? ⟨gb611, 2, none⟩ = some (.int .i64 a1_2) ∧ w'.cell? ⟨gb611, 3, none⟩ = some (.slice A1_3 l1_3.length c1_3)) (ds := []) #[false, false, false, false, false] (by kernel_rfl) rfl rfl ⟨(Xbc BK640.out 0).trans rfl, (Xbc BK640.out 1).trans rfl, (Xbc BK640.out 2).trans rfl, (Xbc BK640.out 3).trans rfl, (Xbc BK611.out 0).trans rfl, (Xbc BK611.out 1).trans rfl, (Xbc BK611.out 2).trans rfl, (Xbc BK611.out 3).trans rfl⟩ (fun hHeld => ?_)
            generalize w95.drew = w96 at HO619 HO625 HO632 HO639 HO647 BK610 BK611 BK633 BK640 HB hHeld ⊢
            refine take_ (i := 0) (N := some 40) (v := ?_) (a' := ?_) #[true, false, false, false, false] rfl rfl (by kernel_rfl) (fun _ _ _ h => h) (Or.inl ⟨by rfl, ?_⟩) hHeld ?_ ?_
            rotate_left
            · rintro w' ⟨s0, s1, s2, s3, s4, s5, s6, s7⟩
              go_simp
              with_reducible rfl
            rotate_left
            · simp only [Act.put, List.setIfInBounds_toArray, List.set_cons_zero, List.set_cons_succ, i64_w, i32_w]
              rfl
            refine take_ (i := 1) (N := some 41) (v := ?_) (a' := ?_) #[true, true, false, false, false] rfl rfl (by kernel_rfl) (fun _ _ _ h => h) (Or.inl ⟨by rfl, ?_⟩) hHeld ?_ ?_
            rotate_left
            · rintro w' ⟨s0, s1, s2, s3, s4, s5, s6, s7⟩
              go_simp
              with_reducible rfl
            rotate_left
            · simp only [Act.put, List.setIfInBounds_toArray, List.set_cons_zero, List.set_cons_succ, i64_w, i32_w]
              rfl
            refine one_ (i := 2) (N := some 42) #[true, true, true, false, false] rfl rfl (by kernel_rfl) (by decide) (fun K hK => ?_)
            refine goes_ Try.func49 (by kernel_rfl) rfl #[.agg #[.int .i64 a1_0, .int .i64 a1_1, .int .i64 a1_2, .slice A1_3 l1_3.length c1_3]] (by rfl) rfl rfl (by (try simp only [List.map_toArray, List.map_cons, List.map_nil]); first | done | rfl | (simp only [List.length_drop, List.length_take]; rfl)) ?_
            with_reducible refine (laws_toSenderGroup.calls k a1_0 a1_1 a1_2 _ _ l1_3 t649 t650 t651 t652 _ ?side1 ?side2 A59.out).mono ?_
            (case side1 => repeat (first | exact (Kd.C_below HR1_3.out HB.out) | (with_reducible refine Xca ?_ _) | (with_reducible refine Xcn ?_ _) | (with_reducible refine Xcd ?_)))
            (case side2 => exact HC1_3.out)
            rintro e w97 ⟨v653, rfl, ho0, hb⟩
            refine ⟨_, rfl, ?_⟩
            have n0_ := Xam (Kd.R_elder' (by (with_reducible repeat (first | apply Xra | apply Xrn | apply Xrd)); exact HO619.out) (Kd.R_base ho0) hb)
            have n1_ := Xam (Kd.R_elder' (by (with_reducible repeat (first | apply Xra | apply Xrn | apply Xrd)); exact HO625.out) (Kd.R_base ho0) hb)
            have n2_ := Xam (Kd.R_elder' (by (with_reducible repeat (first | apply Xra | apply Xrn | apply Xrd)); exact HO632.out) (Kd.R_base ho0) hb)
            have n3_ := Xam (Kd.R_elder' (by (with_reducible repeat (first | apply Xra | apply Xrn | apply Xrd)); exact HO639.out) (Kd.R_base ho0) hb)
            have n4_ := Xam (Kd.R_elder' (by (with_reducible repeat (first | apply Xra | apply Xrn | apply Xrd)); exact HO647.out) (Kd.R_base ho0) hb)
            have n5_ := Xam (Kd.R_lower (Kd.R_new' (Kd.R_new' (Kd.R_new' (Kd.R_new' (Kd.R_new' ho0 (Kd.R_lt (by (with_reducible repeat (first | apply Xra | apply Xrn | apply Xrd)); exact HO619.out))) (Kd.R_lt (by (with_reducible repeat (first | apply Xra | apply Xrn | apply Xrd)); exact HO625.out))) (Kd.R_lt (by (with_reducible repeat (first | apply Xra | apply Xrn | apply Xrd)); exact HO632.out))) (Kd.R_lt (by (with_reducible repeat (first | apply Xra | apply Xrn | apply Xrd)); exact HO639.out))) (Kd.R_lt (by (with_reducible repeat (first | apply Xra | apply Xrn | apply Xrd)); exact HO647.out))) (Xbs (by repeat (first | (with_reducible first | exact HB.out | apply Xba | apply Xbn | apply Xbd | refine Xbe ?_ GE610.out | refine Xbe ?_ GE611.out | refine Xbe ?_ GE633.out | refine Xbe ?_ GE640.out) | exact HB.out))))
            have n6_ := Xam (Xbb (g := gb610) (o := .cells #[.int .i64 a0_0, .int .i64 a0_1, .int .i64 a0_2, .slice A0_3 l0_3.length c0_3] 64 (0, 0)) (by (with_reducible repeat (first | refine Xkn ?_ _ | refine Xkd ?_ | refine Xka ?_ _)); exact BK610.out) hb)
            have n7_ := Xam (Xbb (g := gb611) (o := .cells #[.int .i64 a1_0, .int .i64 a1_1, .int .i64 a1_2, .slice A1_3 l1_3.length c1_3] 64 (0, 0)) (by (with_reducible repeat (first | refine Xkn ?_ _ | refine Xkd ?_ | refine Xka ?_ _)); exact BK611.out) hb)
            have n8_ := Xam (Xbb (g := gb633) (o := .cells #[.int .i64 t627, .int .i64 t628, .int .i64 t629, .slice Ao81 t630.length co81] 67 (0, 0)) (by (with_reducible repeat (first | refine Xkn ?_ _ | refine Xkd ?_ | refine Xka ?_ _)); exact BK633.out) hb)
            have n9_ := Xam (Xbb (g := gb640) (o := .cells #[.int .i64 t634, .int .i64 t635, .int .i64 t636, .slice Ao89 t637.length co89] 67 (0, 0)) (by (with_reducible repeat (first | refine Xkn ?_ _ | refine Xkd ?_ | refine Xka ?_ _)); exact BK640.out) hb)
            have n10_ := Xam (Xbt (by repeat (first | (with_reducible first | exact HB.out | apply Xba | apply Xbn | apply Xbd | refine Xbe ?_ GE610.out | refine Xbe ?_ GE611.out | refine Xbe ?_ GE633.out | refine Xbe ?_ GE640.out) | exact HB.out)) hb)
            clear HO619
            clear HO625
            clear HO632
            clear HO639
            clear HO647
            clear BK610
            clear BK611
            clear BK633
            clear BK640
            clear HB
            have HO619 := n0_
            have HO625 := n1_
            have HO632 := n2_
            have HO639 := n3_
            have HO647 := n4_
            have HO654 := n5_
            have BK610 := n6_
            have BK611 := n7_
            have BK633 := n8_
            have BK640 := n9_
            have HB := n10_
            clear n0_ n1_ n2_ n3_ n4_ n5_ n6_ n7_ n8_ n9_ n10_
            (try clear hb)
            (try clear hb2)
            (try clear hk)
            (try clear hi)
            (try clear ho0)
            obtain ⟨Ao98, co98, eo98⟩ := Kd.R_slice HO654.out
            (first | subst eo98 | (injection eo98 with f1_ f2_ f3_; have f4_ := f1_.symm; have f5_ := f3_.symm; clear f1_ f2_ f3_; subst f4_; subst f5_))
            refine hK.out _ _ ⟨(Xbc BK640.out 0).trans rfl, (Xbc BK640.out 1).trans rfl, (Xbc BK640.out 2).trans rfl, (Xbc BK640.out 3).trans rfl, (Xbc BK611.out 0).trans rfl, (Xbc BK611.out 1).trans rfl, (Xbc BK611.out 2).trans rfl, (Xbc BK611.out 3).trans rfl⟩ (fun hHeld => ?_)
            clear hK K
            refine norm_ (a' := ?_) ?_ ?_
            rotate_left
            · show Act.put _ (some 42) _ = _
              simp only [Act.put, List.setIfInBounds_toArray, List.set_cons_zero, List.set_cons_succ, i64_w, i32_w]
              rfl
            refine one_ (i := 3) (N := some 43) #[true, true, true, true, false] rfl rfl (by kernel_rfl) (by decide) (fun K hK => ?_)
            refine goes_ Try.func51 (by kernel_rfl) rfl #[.agg #[.int .i64 t634, .int .i64 t635, .int .i64 t636, .slice Ao89 t637.length co89], .agg #[.int .i64 t649, .int .i64 t650, .int .i64 t651, .slice Ao98 t652.length co98]] (by rfl) rfl rfl (by (try simp only [List.map_toArray, List.map_cons, List.map_nil]); first | done | rfl | (simp only [List.length_drop, List.length_take]; rfl)) ?_
            with_reducible refine (laws_eqSenderGroup.calls k t634 t635 t636 _ _ t637 t649 t650 t651 _ _ t652 true _ ?side1 ?side2 ?side3 ?side4 A60.out).mono ?_
            (case side1 => repeat (first | exact (Kd.R_reads' HO639.out).2.2 | (with_reducible refine Xca ?_ _) | (with_reducible refine Xcn ?_ _) | (with_reducible refine Xcd ?_)))
            (case side2 => exact (Kd.R_reads' HO639.out).2.1)
            (case side3 => repeat (first | exact (Kd.R_reads' HO654.out).2.2 | (with_reducible refine Xca ?_ _) | (with_reducible refine Xcn ?_ _) | (with_reducible refine Xcd ?_)))
            (case side4 => exact (Kd.R_reads' HO654.out).2.1)
            rintro e w99 ⟨rfl, hb⟩
            refine ⟨_, rfl, ?_⟩
            have n0_ := Xam (Kd.R_below (by (with_reducible repeat (first | apply Xra | apply Xrn | apply Xrd)); exact HO619.out) hb)
            have n1_ := Xam (Kd.R_below (by (with_reducible repeat (first | apply Xra | apply Xrn | apply Xrd)); exact HO625.out) hb)
            have n2_ := Xam (Kd.R_below (by (with_reducible repeat (first | apply Xra | apply Xrn | apply Xrd)); exact HO632.out) hb)
            have n3_ := Xam (Kd.R_below (by (with_reducible repeat (first | apply Xra | apply Xrn | apply Xrd)); exact HO639.out) hb)
            have n4_ := Xam (Kd.R_below (by (with_reducible repeat (first | apply Xra | apply Xrn | apply Xrd)); exact HO647.out) hb)
            have n5_ := Xam (Kd.R_below (by (with_reducible repeat (first | apply Xra | apply Xrn | apply Xrd)); exact HO654.out) hb)
            have n6_ := Xam (Xbb (g := gb610) (o := .cells #[.int .i64 a0_0, .int .i64 a0_1, .int .i64 a0_2, .slice A0_3 l0_3.length c0_3] 64 (0, 0)) (by (with_reducible repeat (first | refine Xkn ?_ _ | refine Xkd ?_ | refine Xka ?_ _)); exact BK610.out) hb)
            have n7_ := Xam (Xbb (g := gb611) (o := .cells #[.int .i64 a1_0, .int .i64 a1_1, .int .i64 a1_2, .slice A1_3 l1_3.length c1_3] 64 (0, 0)) (by (with_reducible repeat (first | refine Xkn ?_ _ | refine Xkd ?_ | refine Xka ?_ _)); exact BK611.out) hb)
            have n8_ := Xam (Xbb (g := gb633) (o := .cells #[.int .i64 t627, .int .i64 t628, .int .i64 t629, .slice Ao81 t630.length co81] 67 (0, 0)) (by (with_reducible repeat (first | refine Xkn ?_ _ | refine Xkd ?_ | refine Xka ?_ _)); exact BK633.out) hb)
            have n9_ := Xam (Xbb (g := gb640) (o := .cells #[.int .i64 t634, .int .i64 t635, .int .i64 t636, .slice Ao89 t637.length co89] 67 (0, 0)) (by (with_reducible repeat (first | refine Xkn ?_ _ | refine Xkd ?_ | refine Xka ?_ _)); exact BK640.out) hb)
            have n10_ := Xam (Xbt (by repeat (first | (with_reducible first | exact HB.out | apply Xba | apply Xbn | apply Xbd | refine Xbe ?_ GE610.out | refine Xbe ?_ GE611.out | refine Xbe ?_ GE633.out | refine Xbe ?_ GE640.out) | exact HB.out)) hb)
            clear HO619
            clear HO625
            clear HO632
            clear HO639
            clear HO647
            clear HO654
            clear BK610
            clear BK611
            clear BK633
            clear BK640
            clear HB
            have HO619 := n0_
            have HO625 := n1_
            have HO632 := n2_
            have HO639 := n3_
            have HO647 := n4_
            have HO654 := n5_
            have BK610 := n6_
            have BK611 := n7_
            have BK633 := n8_
            have BK640 := n9_
            have HB := n10_
            clear n0_ n1_ n2_ n3_ n4_ n5_ n6_ n7_ n8_ n9_ n10_
            (try clear hb)
            (try clear hb2)
            (try clear hk)
            (try clear hi)
            refine hK.out _ _ ⟨(Xbc BK640.out 0).trans rfl, (Xbc BK640.out 1).trans rfl, (Xbc BK640.out 2).trans rfl, (Xbc BK640.out 3).trans rfl, (Xbc BK611.out 0).trans rfl, (Xbc BK611.out 1).trans rfl, (Xbc BK611.out 2).trans rfl, (Xbc BK611.out 3).trans rfl⟩ (fun hHeld => ?_)
            clear hK K
            refine norm_ (a' := ?_) ?_ ?_
            rotate_left
            · show Act.put _ (some 43) _ = _
              simp only [Act.put, List.setIfInBounds_toArray, List.set_cons_zero, List.set_cons_succ, i64_w, i32_w]
              rfl
            refine pure_ (i := 4) (N := some 44) (v := ?_) (a' := ?_) #[true, true, true, true, true] rfl rfl (by kernel_rfl) (fun _ _ _ h => h) (Or.inl ⟨by rfl, ?_⟩) ?_ ?_
            rotate_left
            · intro w'
              go_simp
              with_reducible rfl
            rotate_left
            · simp only [Act.put, List.setIfInBounds_toArray, List.set_cons_zero, List.set_cons_succ, i64_w, i32_w]
              rfl
            refine done_ (by kernel_rfl) ?_
            try go_wp2
            go_ret
            exact ⟨by first | rfl | (simp [errW_none, errW_some] <;> rfl) | (simp [*, errW_none, errW_some] <;> rfl), by repeat (first | (with_reducible first | exact HB.out | apply Xba | apply Xbn | apply Xbd | refine Xbe ?_ GE610.out | refine Xbe ?_ GE611.out | refine Xbe ?_ GE633.out | refine Xbe ?_ GE640.out) | exact HB.out)⟩
          · replace c61 := Bool.eq_false_iff.mpr c61
            subst c61
            have H1 : (some false) = some r := by rw [if_neg (show ¬ (false = true) by decide)] at H; exact H
            clear H
            have H := H1
            clear H1
            obtain rfl := Option.some.inj H
            go_enter Try.func13, Try.ntmps13
            try go_wp2_with (first | ((with_reducible refine gate_dst (N := 2) rfl ?_); refine box_event ?hg (N := 2) ?hd (cs := #[.int .i64 a0_0, .int .i64 a0_1, .int .i64 a0_2, .slice A0_3 l0_3.length c0_3]) (t := 64) ?hr ?_; (case hd => rfl); (case hg => rfl); (case hr => first | (go_simp; done) | (go_simp; rfl)); intro gb610 hg w100 hbox hb; have n0_ := Xam (Xbt (by repeat (first | (with_reducible first | exact HB.out | apply Xba | apply Xbn | apply Xbd) | exact HB.out)) hb); have n1_ := Xam (hbox); have n2_ := Xam ((by rw [hg]; exact (Xbs (by repeat (first | (with_reducible first | exact HB.out | apply Xba | apply Xbn | apply Xbd) | exact HB.out))) : w.heap.size ≤ gb610)); have n3_ := Xam ((by rw [hg]; exact (Xbs (by repeat (first | (with_reducible first | exact HB.out | apply Xba | apply Xbn | apply Xbd) | exact HB.out))) : w.heap.size ≤ gb610)); clear HB; have HB := n0_; have BK610 := n1_; have GW610 := n2_; have GE610 := n3_; clear n0_ n1_ n2_ n3_; clear hb hbox hg) | ((with_reducible refine gate_dst (N := 3) rfl ?_); refine box_event ?hg (N := 3) ?hd (cs := #[.int .i64 a1_0, .int .i64 a1_1, .int .i64 a1_2, .slice A1_3 l1_3.length c1_3]) (t := 64) ?hr ?_; (case hd => rfl); (case hg => rfl); (case hr => first | (go_simp; done) | (go_simp; rfl)); intro gb611 hg w101 hbox hb; have n0_ := Xam (Xbb (g := gb610) (o := .cells #[.int .i64 a0_0, .int .i64 a0_1, .int .i64 a0_2, .slice A0_3 l0_3.length c0_3] 64 (0, 0)) (by (with_reducible repeat (first | refine Xkn ?_ _ | refine Xkd ?_ | refine Xka ?_ _)); exact BK610.out) hb); have n1_ := Xam (Xbt (by repeat (first | (with_reducible first | exact HB.out | apply Xba | apply Xbn | apply Xbd | refine Xbe ?_ GE610.out) | exact HB.out)) hb); have n2_ := Xam (hbox); have n3_ := Xam ((by rw [hg]; exact (Xbs (by repeat (first | (with_reducible first | exact HB.out | apply Xba | apply Xbn | apply Xbd | refine Xbe ?_ GE610.out) | exact HB.out))) : w.heap.size ≤ gb611)); have n4_ := Xam ((by rw [hg]; exact (Xbs (by repeat (first | (with_reducible first | exact HB.out | apply Xba | apply Xbn | apply Xbd | refine Xbe ?_ GE610.out) | exact HB.out))) : w.heap.size ≤ gb611)); have n5_ := Xam ((by rw [hg]; exact Nat.ne_of_lt (Xbl (g := gb610) (o := .cells #[.int .i64 a0_0, .int .i64 a0_1, .int .i64 a0_2, .slice A0_3 l0_3.length c0_3] 64 (0, 0)) (by (with_reducible repeat (first | refine Xkn ?_ _ | refine Xkd ?_ | refine Xka ?_ _)); exact BK610.out)) : gb610 ≠ gb611)); have n6_ := Xam ((by rw [hg]; exact Nat.ne_of_gt (Xbl (g := gb610) (o := .cells #[.int .i64 a0_0, .int .i64 a0_1, .int .i64 a0_2, .slice A0_3 l0_3.length c0_3] 64 (0, 0)) (by (with_reducible repeat (first | refine Xkn ?_ _ | refine Xkd ?_ | refine Xka ?_ _)); exact BK610.out)) : gb611 ≠ gb610)); clear BK610; clear HB; have BK610 := n0_; have HB := n1_; have BK611 := n2_; have GW611 := n3_; have GE611 := n4_; have NB610_611 := n5_; have NB611_610 := n6_; clear n0_ n1_ n2_ n3_ n4_ n5_ n6_; clear hb hbox hg; have hnb102 := NB610_611.out; have hnc102 := NB611_610.out; have hcz103_0 : w101.cell? ⟨gb610, 0, none⟩ = some (.int .i64 a0_0) := (Xbc BK610.out 0).trans rfl; have hcz103_1 : w101.cell? ⟨gb610, 1, none⟩ = some (.int .i64 a0_1) := (Xbc BK610.out 1).trans rfl; have hcz103_2 : w101.cell? ⟨gb610, 2, none⟩ = some (.int .i64 a0_2) := (Xbc BK610.out 2).trans rfl; have hcz103_3 : w101.cell? ⟨gb610, 3, none⟩ = some (.slice A0_3 l0_3.length c0_3) := (Xbc BK610.out 3).trans rfl; have hfz103_0 := Xbf BK610.out 0; have hfz103_1 := Xbf BK610.out 1; have hfz103_2 := Xbf BK610.out 2; have hfz103_3 := Xbf BK610.out 3) | ((with_reducible refine gate_callee (f := 47) rfl ?_); refine goesL_ (some 12) rfl rfl Try.func47 (by kernel_rfl) rfl #[.agg #[.int .i64 a0_0, .int .i64 a0_1, .int .i64 a0_2, .slice A0_3 l0_3.length c0_3], .int .i64 1048576] rfl (by (try simp only [List.map_toArray, List.map_cons, List.map_nil]); first | done | rfl | (simp only [List.length_drop, List.length_take]; rfl)) ?_; (with_reducible refine (laws_szSenderGroup.calls a0_0 a0_1 a0_2 _ _ l0_3 1048576 t612 _ ?side1 ?side2 A3.out).mono ?_); (case side1 => repeat (first | exact (Kd.C_below HR0_3.out HB.out) | (with_reducible refine Xca ?_ _) | (with_reducible refine Xcn ?_ _) | (with_reducible refine Xcd ?_))); (case side2 => exact HC0_3.out); rintro e w104 ⟨rfl, hb⟩; refine ⟨_, rfl, ?_⟩; have n0_ := Xam (Xbb (g := gb610) (o := .cells #[.int .i64 a0_0, .int .i64 a0_1, .int .i64 a0_2, .slice A0_3 l0_3.length c0_3] 64 (0, 0)) (by (with_reducible repeat (first | refine Xkn ?_ _ | refine Xkd ?_ | refine Xka ?_ _)); exact BK610.out) hb); have n1_ := Xam (Xbb (g := gb611) (o := .cells #[.int .i64 a1_0, .int .i64 a1_1, .int .i64 a1_2, .slice A1_3 l1_3.length c1_3] 64 (0, 0)) (by (with_reducible repeat (first | refine Xkn ?_ _ | refine Xkd ?_ | refine Xka ?_ _)); exact BK611.out) hb); have n2_ := Xam (Xbt (by repeat (first | (with_reducible first | exact HB.out | apply Xba | apply Xbn | apply Xbd | refine Xbe ?_ GE610.out | refine Xbe ?_ GE611.out) | exact HB.out)) hb); clear BK610; clear BK611; clear HB; have BK610 := n0_; have BK611 := n1_; have HB := n2_; clear n0_ n1_ n2_; (try clear hb); (try clear hb2); (try clear hk); (try clear hi); have hcz105_0 : w104.cell? ⟨gb611, 0, none⟩ = some (.int .i64 a1_0) := (Xbc BK611.out 0).trans rfl; have hcz105_1 : w104.cell? ⟨gb611, 1, none⟩ = some (.int .i64 a1_1) := (Xbc BK611.out 1).trans rfl; have hcz105_2 : w104.cell? ⟨gb611, 2, none⟩ = some (.int .i64 a1_2) := (Xbc BK611.out 2).trans rfl; have hcz105_3 : w104.cell? ⟨gb611, 3, none⟩ = some (.slice A1_3 l1_3.length c1_3) := (Xbc BK611.out 3).trans rfl; have hfz105_0 := Xbf BK611.out 0; have hfz105_1 := Xbf BK611.out 1; have hfz105_2 := Xbf BK611.out 2; have hfz105_3 := Xbf BK611.out 3) | ((with_reducible refine gate_callee (f := 47) rfl ?_); refine goesL_ (some 17) rfl rfl Try.func47 (by kernel_rfl) rfl #[.agg #[.int .i64 a1_0, .int .i64 a1_1, .int .i64 a1_2, .slice A1_3 l1_3.length c1_3], .int .i64 t612] rfl (by (try simp only [List.map_toArray, List.map_cons, List.map_nil]); first | done | rfl | (simp only [List.length_drop, List.length_take]; rfl)) ?_; (with_reducible refine (laws_szSenderGroup.calls a1_0 a1_1 a1_2 _ _ l1_3 t612 t613 _ ?side1 ?side2 A10.out).mono ?_); (case side1 => repeat (first | exact (Kd.C_below HR1_3.out HB.out) | (with_reducible refine Xca ?_ _) | (with_reducible refine Xcn ?_ _) | (with_reducible refine Xcd ?_))); (case side2 => exact HC1_3.out); rintro e w106 ⟨rfl, hb⟩; refine ⟨_, rfl, ?_⟩; have n0_ := Xam (Xbb (g := gb610) (o := .cells #[.int .i64 a0_0, .int .i64 a0_1, .int .i64 a0_2, .slice A0_3 l0_3.length c0_3] 64 (0, 0)) (by (with_reducible repeat (first | refine Xkn ?_ _ | refine Xkd ?_ | refine Xka ?_ _)); exact BK610.out) hb); have n1_ := Xam (Xbb (g := gb611) (o := .cells #[.int .i64 a1_0, .int .i64 a1_1, .int .i64 a1_2, .slice A1_3 l1_3.length c1_3] 64 (0, 0)) (by (with_reducible repeat (first | refine Xkn ?_ _ | refine Xkd ?_ | refine Xka ?_ _)); exact BK611.out) hb); have n2_ := Xam (Xbt (by repeat (first | (with_reducible first | exact HB.out | apply Xba | apply Xbn | apply Xbd | refine Xbe ?_ GE610.out | refine Xbe ?_ GE611.out) | exact HB.out)) hb); clear BK610; clear BK611; clear HB; have BK610 := n0_; have BK611 := n1_; have HB := n2_; clear n0_ n1_ n2_; (try clear hb); (try clear hb2); (try clear hk); (try clear hi)))
            have n0_ := Xam (Xkd BK610.out)
            have n1_ := Xam (Xkd BK611.out)
            have n2_ := Xam (Xbd HB.out)
            clear BK610
            clear BK611
            clear HB
            have BK610 := n0_
            have BK611 := n1_
            have HB := n2_
            clear n0_ n1_ n2_
            refine start_ (n := 6) (S := fun w' => w'.cell? ⟨gb610, 0, none⟩ = some (.int .i64 a0_0) ∧ w'.cell? ⟨gb610, 1, none⟩ = some (.int .i64 a0_1) ∧ w'.cell? ⟨gb610, 2, none⟩ = some (.int .i64 a0_2) ∧ w'.cell? ⟨gb610, 3, none⟩ = some (.slice A0_3 l0_3.length c0_3) ∧ w'.cell? ⟨gb611, 0, none⟩ = some (.int .i64 a1_0) ∧ w'.cell? ⟨gb611, 1, none⟩ = some (.int .i64 a1_1) ∧ w'.cell? ⟨gb611, 2, none⟩ = some (.int .i64 a1_2) ∧ w'.cell? ⟨gb611, 3, none⟩ = some (.slice A1_3 l1_3.length c1_3)) (ds := []) #[false, false, false, false, false, false] (by kernel_rfl) rfl rfl ⟨(Xbc BK610.out 0).trans rfl, (Xbc BK610.out 1).trans rfl, (Xbc BK610.out 2).trans rfl, (Xbc BK610.out 3).trans rfl, (Xbc BK611.out 0).trans rfl, (Xbc BK611.out 1).trans rfl, (Xbc BK611.out 2).trans rfl, (Xbc BK611.out 3).trans rfl⟩ (fun hHeld => ?_)
            generalize w106.drew = w107 at BK610 BK611 HB hHeld ⊢
            refine take_ (i := 0) (N := some 20) (v := ?_) (a' := ?_) #[true, false, false, false, false, false] rfl rfl (by kernel_rfl) (fun _ _ _ h => h) (Or.inl ⟨by rfl, ?_⟩) hHeld ?_ ?_
            rotate_left
            · rintro w' ⟨s0, s1, s2, s3, s4, s5, s6, s7⟩
              go_simp
              with_reducible rfl
            rotate_left
            · simp only [Act.put, List.setIfInBounds_toArray, List.set_cons_zero, List.set_cons_succ, i64_w, i32_w]
              rfl
            refine take_ (i := 2) (N := some 22) (v := ?_) (a' := ?_) #[true, false, true, false, false, false] rfl rfl (by kernel_rfl) (fun _ _ _ h => h) (Or.inl ⟨by rfl, ?_⟩) hHeld ?_ ?_
            rotate_left
            · rintro w' ⟨s0, s1, s2, s3, s4, s5, s6, s7⟩
              go_simp
              with_reducible rfl
            rotate_left
            · simp only [Act.put, List.setIfInBounds_toArray, List.set_cons_zero, List.set_cons_succ, i64_w, i32_w]
              rfl
            refine one_ (i := 1) (N := some 21) #[true, true, true, false, false, false] rfl rfl (by kernel_rfl) (by decide) (fun K hK => ?_)
            refine goes_ Try.func49 (by kernel_rfl) rfl #[.agg #[.int .i64 a0_0, .int .i64 a0_1, .int .i64 a0_2, .slice A0_3 l0_3.length c0_3]] (by rfl) rfl rfl (by (try simp only [List.map_toArray, List.map_cons, List.map_nil]); first | done | rfl | (simp only [List.length_drop, List.length_take]; rfl)) ?_
            with_reducible refine (laws_toSenderGroup.calls k a0_0 a0_1 a0_2 _ _ l0_3 t614 t615 t616 t617 _ ?side1 ?side2 A19.out).mono ?_
            (case side1 => repeat (first | exact (Kd.C_below HR0_3.out HB.out) | (with_reducible refine Xca ?_ _) | (with_reducible refine Xcn ?_ _) | (with_reducible refine Xcd ?_)))
            (case side2 => exact HC0_3.out)
            rintro e w108 ⟨v618, rfl, ho0, hb⟩
            refine ⟨_, rfl, ?_⟩
            have n0_ := Xam (Kd.R_lower ho0 (Xbs (by repeat (first | (with_reducible first | exact HB.out | apply Xba | apply Xbn | apply Xbd | refine Xbe ?_ GE610.out | refine Xbe ?_ GE611.out) | exact HB.out))))
            have n1_ := Xam (Xbb (g := gb610) (o := .cells #[.int .i64 a0_0, .int .i64 a0_1, .int .i64 a0_2, .slice A0_3 l0_3.length c0_3] 64 (0, 0)) (by (with_reducible repeat (first | refine Xkn ?_ _ | refine Xkd ?_ | refine Xka ?_ _)); exact BK610.out) hb)
            have n2_ := Xam (Xbb (g := gb611) (o := .cells #[.int .i64 a1_0, .int .i64 a1_1, .int .i64 a1_2, .slice A1_3 l1_3.length c1_3] 64 (0, 0)) (by (with_reducible repeat (first | refine Xkn ?_ _ | refine Xkd ?_ | refine Xka ?_ _)); exact BK611.out) hb)
            have n3_ := Xam (Xbt (by repeat (first | (with_reducible first | exact HB.out | apply Xba | apply Xbn | apply Xbd | refine Xbe ?_ GE610.out | refine Xbe ?_ GE611.out) | exact HB.out)) hb)
            clear BK610
            clear BK611
            clear HB
            have HO619 := n0_
            have BK610 := n1_
            have BK611 := n2_
            have HB := n3_
            clear n0_ n1_ n2_ n3_
            (try clear hb)
            (try clear hb2)
            (try clear hk)
            (try clear hi)
            (try clear ho0)
            refine hK.out _ _ ⟨(Xbc BK610.out 0).trans rfl, (Xbc BK610.out 1).trans rfl, (Xbc BK610.out 2).trans rfl, (Xbc BK610.out 3).trans rfl, (Xbc BK611.out 0).trans rfl, (Xbc BK611.out 1).trans rfl, (Xbc BK611.out 2).trans rfl, (Xbc BK611.out 3).trans rfl⟩ (fun hHeld => ?_)
            clear hK K
            refine norm_ (a' := ?_) ?_ ?_
            rotate_left
            · show Act.put _ (some 21) _ = _
              simp only [Act.put, List.setIfInBounds_toArray, List.set_cons_zero, List.set_cons_succ, i64_w, i32_w]
              rfl
            refine one_ (i := 3) (N := some 23) #[true, true, true, true, false, false] rfl rfl (by kernel_rfl) (by decide) (fun K hK => ?_)
            refine goes_ Try.func49 (by kernel_rfl) rfl #[.agg #[.int .i64 a1_0, .int .i64 a1_1, .int .i64 a1_2, .slice A1_3 l1_3.length c1_3]] (by rfl) rfl rfl (by (try simp only [List.map_toArray, List.map_cons, List.map_nil]); first | done | rfl | (simp only [List.length_drop, List.length_take]; rfl)) ?_
            with_reducible refine (laws_toSenderGroup.calls k a1_0 a1_1 a1_2 _ _ l1_3 t620 t621 t622 t623 _ ?side1 ?side2 A20.out).mono ?_
            (case side1 => repeat (first | exact (Kd.C_below HR1_3.out HB.out) | (with_reducible refine Xca ?_ _) | (with_reducible refine Xcn ?_ _) | (with_reducible refine Xcd ?_)))
            (case side2 => exact HC1_3.out)
            rintro e w109 ⟨v624, rfl, ho0, hb⟩
            refine ⟨_, rfl, ?_⟩
            have n0_ := Xam (Kd.R_elder' (by (with_reducible repeat (first | apply Xra | apply Xrn | apply Xrd)); exact HO619.out) (Kd.R_base ho0) hb)
            have n1_ := Xam (Kd.R_lower (Kd.R_new' ho0 (Kd.R_lt (by (with_reducible repeat (first | apply Xra | apply Xrn | apply Xrd)); exact HO619.out))) (Xbs (by repeat (first | (with_reducible first | exact HB.out | apply Xba | apply Xbn | apply Xbd | refine Xbe ?_ GE610.out | refine Xbe ?_ GE611.out) | exact HB.out))))
            have n2_ := Xam (Xbb (g := gb610) (o := .cells #[.int .i64 a0_0, .int .i64 a0_1, .int .i64 a0_2, .slice A0_3 l0_3.length c0_3] 64 (0, 0)) (by (with_reducible repeat (first | refine Xkn ?_ _ | refine Xkd ?_ | refine Xka ?_ _)); exact BK610.out) hb)
            have n3_ := Xam (Xbb (g := gb611) (o := .cells #[.int .i64 a1_0, .int .i64 a1_1, .int .i64 a1_2, .slice A1_3 l1_3.length c1_3] 64 (0, 0)) (by (with_reducible repeat (first | refine Xkn ?_ _ | refine Xkd ?_ | refine Xka ?_ _)); exact BK611.out) hb)
            have n4_ := Xam (Xbt (by repeat (first | (with_reducible first | exact HB.out | apply Xba | apply Xbn | apply Xbd | refine Xbe ?_ GE610.out | refine Xbe ?_ GE611.out) | exact HB.out)) hb)
            clear HO619
            clear BK610
            clear BK611
            clear HB
            have HO619 := n0_
            have HO625 := n1_
            have BK610 := n2_
            have BK611 := n3_
            have HB := n4_
            clear n0_ n1_ n2_ n3_ n4_
            (try clear hb)
            (try clear hb2)
            (try clear hk)
            (try clear hi)
            (try clear ho0)
            obtain ⟨Ao110, co110, eo110⟩ := Kd.R_slice HO619.out
            (first | subst eo110 | (injection eo110 with f1_ f2_ f3_; have f4_ := f1_.symm; have f5_ := f3_.symm; clear f1_ f2_ f3_; subst f4_; subst f5_))
            obtain ⟨Ao111, co111, eo111⟩ := Kd.R_slice HO625.out
            (first | subst eo111 | (injection eo111 with f1_ f2_ f3_; have f4_ := f1_.symm; have f5_ := f3_.symm; clear f1_ f2_ f3_; subst f4_; subst f5_))
            refine hK.out _ _ ⟨(Xbc BK610.out 0).trans rfl, (Xbc BK610.out 1).trans rfl, (Xbc BK610.out 2).trans rfl, (Xbc BK610.out 3).trans rfl, (Xbc BK611.out 0).trans rfl, (Xbc BK611.out 1).trans rfl, (Xbc BK611.out 2).trans rfl, (Xbc BK611.out 3).trans rfl⟩ (fun hHeld => ?_)
            clear hK K
            refine norm_ (a' := ?_) ?_ ?_
            rotate_left
            · show Act.put _ (some 23) _ = _
              simp only [Act.put, List.setIfInBounds_toArray, List.set_cons_zero, List.set_cons_succ, i64_w, i32_w]
              rfl
            refine one_ (i := 4) (N := some 24) #[true, true, true, true, true, false] rfl rfl (by kernel_rfl) (by decide) (fun K hK => ?_)
            refine goes_ Try.func48 (by kernel_rfl) rfl #[.agg #[.int .i64 t614, .int .i64 t615, .int .i64 t616, .slice Ao110 t617.length co110], .agg #[.int .i64 t620, .int .i64 t621, .int .i64 t622, .slice Ao111 t623.length co111]] (by rfl) rfl rfl (by (try simp only [List.map_toArray, List.map_cons, List.map_nil]); first | done | rfl | (simp only [List.length_drop, List.length_take]; rfl)) ?_
            with_reducible refine (spec_EqualGroups.calls k t614 t615 t616 _ _ t617 t620 t621 t622 _ _ t623 t626 _ ?side1 ?side2 ?side3 ?side4 A21.out).mono ?_
            (case side1 => repeat (first | exact (Kd.R_reads' HO619.out).2.2 | (with_reducible refine Xca ?_ _) | (with_reducible refine Xcn ?_ _) | (with_reducible refine Xcd ?_)))
            (case side2 => exact (Kd.R_reads' HO619.out).2.1)
            (case side3 => repeat (first | exact (Kd.R_reads' HO625.out).2.2 | (with_reducible refine Xca ?_ _) | (with_reducible refine Xcn ?_ _) | (with_reducible refine Xcd ?_)))
            (case side4 => exact (Kd.R_reads' HO625.out).2.1)
            rintro e w112 ⟨rfl, hb⟩
            refine ⟨_, rfl, ?_⟩
            have n0_ := Xam (Kd.R_below (by (with_reducible repeat (first | apply Xra | apply Xrn | apply Xrd)); exact HO619.out) hb)
            have n1_ := Xam (Kd.R_below (by (with_reducible repeat (first | apply Xra | apply Xrn | apply Xrd)); exact HO625.out) hb)
            have n2_ := Xam (Xbb (g := gb610) (o := .cells #[.int .i64 a0_0, .int .i64 a0_1, .int .i64 a0_2, .slice A0_3 l0_3.length c0_3] 64 (0, 0)) (by (with_reducible repeat (first | refine Xkn ?_ _ | refine Xkd ?_ | refine Xka ?_ _)); exact BK610.out) hb)
            have n3_ := Xam (Xbb (g := gb611) (o := .cells #[.int .i64 a1_0, .int .i64 a1_1, .int .i64 a1_2, .slice A1_3 l1_3.length c1_3] 64 (0, 0)) (by (with_reducible repeat (first | refine Xkn ?_ _ | refine Xkd ?_ | refine Xka ?_ _)); exact BK611.out) hb)
            have n4_ := Xam (Xbt (by repeat (first | (with_reducible first | exact HB.out | apply Xba | apply Xbn | apply Xbd | refine Xbe ?_ GE610.out | refine Xbe ?_ GE611.out) | exact HB.out)) hb)
            clear HO619
            clear HO625
            clear BK610
            clear BK611
            clear HB
            have HO619 := n0_
            have HO625 := n1_
            have BK610 := n2_
            have BK611 := n3_
            have HB := n4_
            clear n0_ n1_ n2_ n3_ n4_
            (try clear hb)
            (try clear hb2)
            (try clear hk)
            (try clear hi)
            refine hK.out _ _ ⟨(Xbc BK610.out 0).trans rfl, (Xbc BK610.out 1).trans rfl, (Xbc BK610.out 2).trans rfl, (Xbc BK610.out 3).trans rfl, (Xbc BK611.out 0).trans rfl, (Xbc BK611.out 1).trans rfl, (Xbc BK611.out 2).trans rfl, (Xbc BK611.out 3).trans rfl⟩ (fun hHeld => ?_)
            clear hK K
            refine norm_ (a' := ?_) ?_ ?_
            rotate_left
            · show Act.put _ (some 24) _ = _
              simp only [Act.put, List.setIfInBounds_toArray, List.set_cons_zero, List.set_cons_succ, i64_w, i32_w]
              rfl
            refine pure_ (i := 5) (N := some 6) (v := ?_) (a' := ?_) #[true, true, true, true, true, true] rfl rfl (by kernel_rfl) (fun _ _ _ h => h) (Or.inl ⟨by rfl, ?_⟩) ?_ ?_
            rotate_left
            · intro w'
              go_simp
              with_reducible rfl
            rotate_left
            · simp only [Act.put, List.setIfInBounds_toArray, List.set_cons_zero, List.set_cons_succ, i64_w, i32_w]
              rfl
            refine done_ (by kernel_rfl) ?_
            have hcz113_0 : w112.cell? ⟨gb610, 0, none⟩ = some (.int .i64 a0_0) := (Xbc BK610.out 0).trans rfl
            have hcz113_1 : w112.cell? ⟨gb610, 1, none⟩ = some (.int .i64 a0_1) := (Xbc BK610.out 1).trans rfl
            have hcz113_2 : w112.cell? ⟨gb610, 2, none⟩ = some (.int .i64 a0_2) := (Xbc BK610.out 2).trans rfl
            have hcz113_3 : w112.cell? ⟨gb610, 3, none⟩ = some (.slice A0_3 l0_3.length c0_3) := (Xbc BK610.out 3).trans rfl
            have hfz113_0 := Xbf BK610.out 0
            have hfz113_1 := Xbf BK610.out 1
            have hfz113_2 := Xbf BK610.out 2
            have hfz113_3 := Xbf BK610.out 3
            try go_wp2_with (first | ((with_reducible refine gate_callee (f := 49) rfl ?_); refine goesL_ (some 26) rfl rfl Try.func49 (by kernel_rfl) rfl #[.agg #[.int .i64 a0_0, .int .i64 a0_1, .int .i64 a0_2, .slice A0_3 l0_3.length c0_3]] rfl (by (try simp only [List.map_toArray, List.map_cons, List.map_nil]); first | done | rfl | (simp only [List.length_drop, List.length_take]; rfl)) ?_; (with_reducible refine (laws_toSenderGroup.calls k a0_0 a0_1 a0_2 _ _ l0_3 t627 t628 t629 t630 _ ?side1 ?side2 A22.out).mono ?_); (case side1 => repeat (first | exact (Kd.C_below HR0_3.out HB.out) | (with_reducible refine Xca ?_ _) | (with_reducible refine Xcn ?_ _) | (with_reducible refine Xcd ?_))); (case side2 => exact HC0_3.out); rintro e w114 ⟨v631, rfl, ho0, hb⟩; refine ⟨_, rfl, ?_⟩; have n0_ := Xam (Kd.R_elder' (by (with_reducible repeat (first | apply Xra | apply Xrn | apply Xrd)); exact HO619.out) (Kd.R_base ho0) hb); have n1_ := Xam (Kd.R_elder' (by (with_reducible repeat (first | apply Xra | apply Xrn | apply Xrd)); exact HO625.out) (Kd.R_base ho0) hb); have n2_ := Xam (Kd.R_lower (Kd.R_new' (Kd.R_new' ho0 (Kd.R_lt (by (with_reducible repeat (first | apply Xra | apply Xrn | apply Xrd)); exact HO619.out))) (Kd.R_lt (by (with_reducible repeat (first | apply Xra | apply Xrn | apply Xrd)); exact HO625.out))) (Xbs (by repeat (first | (with_reducible first | exact HB.out | apply Xba | apply Xbn | apply Xbd | refine Xbe ?_ GE610.out | refine Xbe ?_ GE611.out) | exact HB.out)))); have n3_ := Xam (Xbb (g := gb610) (o := .cells #[.int .i64 a0_0, .int .i64 a0_1, .int .i64 a0_2, .slice A0_3 l0_3.length c0_3] 64 (0, 0)) (by (with_reducible repeat (first | refine Xkn ?_ _ | refine Xkd ?_ | refine Xka ?_ _)); exact BK610.out) hb); have n4_ := Xam (Xbb (g := gb611) (o := .cells #[.int .i64 a1_0, .int .i64 a1_1, .int .i64 a1_2, .slice A1_3 l1_3.length c1_3] 64 (0, 0)) (by (with_reducible repeat (first | refine Xkn ?_ _ | refine Xkd ?_ | refine Xka ?_ _)); exact BK611.out) hb); have n5_ := Xam (Xbt (by repeat (first | (with_reducible first | exact HB.out | apply Xba | apply Xbn | apply Xbd | refine Xbe ?_ GE610.out | refine Xbe ?_ GE611.out) | exact HB.out)) hb); clear HO619; clear HO625; clear BK610; clear BK611; clear HB; have HO619 := n0_; have HO625 := n1_; have HO632 := n2_; have BK610 := n3_; have BK611 := n4_; have HB := n5_; clear n0_ n1_ n2_ n3_ n4_ n5_; (try clear hb); (try clear hb2); (try clear hk); (try clear hi); (try clear ho0)) | ((with_reducible refine gate_dst (N := 7) rfl ?_); refine box_event ?hg (N := 7) ?hd (cs := #[.int .i64 0, .int .i64 0, .int .i64 0, .slice none 0 0]) (t := 67) ?hr ?_; (case hd => rfl); (case hg => rfl); (case hr => first | (go_simp; done) | (go_simp; rfl)); intro gb633 hg w115 hbox hb; have n0_ := Xam (Kd.R_below (by (with_reducible repeat (first | apply Xra | apply Xrn | apply Xrd)); exact HO619.out) hb); have n1_ := Xam (Kd.R_below (by (with_reducible repeat (first | apply Xra | apply Xrn | apply Xrd)); exact HO625.out) hb); have n2_ := Xam (Kd.R_below (by (with_reducible repeat (first | apply Xra | apply Xrn | apply Xrd)); exact HO632.out) hb); have n3_ := Xam (Xbb (g := gb610) (o := .cells #[.int .i64 a0_0, .int .i64 a0_1, .int .i64 a0_2, .slice A0_3 l0_3.length c0_3] 64 (0, 0)) (by (with_reducible repeat (first | refine Xkn ?_ _ | refine Xkd ?_ | refine Xka ?_ _)); exact BK610.out) hb); have n4_ := Xam (Xbb (g := gb611) (o := .cells #[.int .i64 a1_0, .int .i64 a1_1, .int .i64 a1_2, .slice A1_3 l1_3.length c1_3] 64 (0, 0)) (by (with_reducible repeat (first | refine Xkn ?_ _ | refine Xkd ?_ | refine Xka ?_ _)); exact BK611.out) hb); have n5_ := Xam (Xbt (by repeat (first | (with_reducible first | exact HB.out | apply Xba | apply Xbn | apply Xbd | refine Xbe ?_ GE610.out | refine Xbe ?_ GE611.out) | exact HB.out)) hb); have n6_ := Xam (hbox); have n7_ := Xam ((by rw [hg]; exact (Xbs (by repeat (first | (with_reducible first | exact HB.out | apply Xba | apply Xbn | apply Xbd | refine Xbe ?_ GE610.out | refine Xbe ?_ GE611.out) | exact HB.out))) : w.heap.size ≤ gb633)); have n8_ := Xam ((by rw [hg]; exact (Xbs (by repeat (first | (with_reducible first | exact HB.out | apply Xba | apply Xbn | apply Xbd | refine Xbe ?_ GE610.out | refine Xbe ?_ GE611.out) | exact HB.out))) : w.heap.size ≤ gb633)); have n9_ := Xam ((by rw [hg]; exact Nat.ne_of_lt (Xbl (g := gb610) (o := .cells #[.int .i64 a0_0, .int .i64 a0_1, .int .i64 a0_2, .slice A0_3 l0_3.length c0_3] 64 (0, 0)) (by (with_reducible repeat (first | refine Xkn ?_ _ | refine Xkd ?_ | refine Xka ?_ _)); exact BK610.out)) : gb610 ≠ gb633)); have n10_ := Xam ((by rw [hg]; exact Nat.ne_of_gt (Xbl (g := gb610) (o := .cells #[.int .i64 a0_0, .int .i64 a0_1, .int .i64 a0_2, .slice A0_3 l0_3.length c0_3] 64 (0, 0)) (by (with_reducible repeat (first | refine Xkn ?_ _ | refine Xkd ?_ | refine Xka ?_ _)); exact BK610.out)) : gb633 ≠ gb610)); have n11_ := Xam ((by rw [hg]; exact Nat.ne_of_lt (Xbl (g := gb611) (o := .cells #[.int .i64 a1_0, .int .i64 a1_1, .int .i64 a1_2, .slice A1_3 l1_3.length c1_3] 64 (0, 0)) (by (with_reducible repeat (first | refine Xkn ?_ _ | refine Xkd ?_ | refine Xka ?_ _)); exact BK611.out)) : gb611 ≠ gb633)); have n12_ := Xam ((by rw [hg]; exact Nat.ne_of_gt (Xbl (g := gb611) (o := .cells #[.int .i64 a1_0, .int .i64 a1_1, .int .i64 a1_2, .slice A1_3 l1_3.length c1_3] 64 (0, 0)) (by (with_reducible repeat (first | refine Xkn ?_ _ | refine Xkd ?_ | refine Xka ?_ _)); exact BK611.out)) : gb633 ≠ gb611)); clear HO619; clear HO625; clear HO632; clear BK610; clear BK611; clear HB; have HO619 := n0_; have HO625 := n1_; have HO632 := n2_; have BK610 := n3_; have BK611 := n4_; have HB := n5_; have BK633 := n6_; have GW633 := n7_; have GE633 := n8_; have NB610_633 := n9_; have NB633_610 := n10_; have NB611_633 := n11_; have NB633_611 := n12_; clear n0_ n1_ n2_ n3_ n4_ n5_ n6_ n7_ n8_ n9_ n10_ n11_ n12_; clear hb hbox hg; have hnb116 := NB633_610.out; have hnc116 := NB610_633.out; have hnb117 := NB633_611.out; have hnc117 := NB611_633.out; have hcz118_0 : w115.cell? ⟨gb633, 0, none⟩ = some (.int .i64 0) := (Xbc BK633.out 0).trans rfl; have hcz118_1 : w115.cell? ⟨gb633, 1, none⟩ = some (.int .i64 0) := (Xbc BK633.out 1).trans rfl; have hcz118_2 : w115.cell? ⟨gb633, 2, none⟩ = some (.int .i64 0) := (Xbc BK633.out 2).trans rfl; have hcz118_3 : w115.cell? ⟨gb633, 3, none⟩ = some (.slice none 0 0) := (Xbc BK633.out 3).trans rfl; have hfz118_0 := Xbf BK633.out 0; have hfz118_1 := Xbf BK633.out 1; have hfz118_2 := Xbf BK633.out 2; have hfz118_3 := Xbf BK633.out 3; obtain ⟨Ao119, co119, eo119⟩ := Kd.R_slice HO632.out; subst eo119; have hcz120_0 : w115.cell? ⟨gb611, 0, none⟩ = some (.int .i64 a1_0) := (Xbc BK611.out 0).trans rfl; have hcz120_1 : w115.cell? ⟨gb611, 1, none⟩ = some (.int .i64 a1_1) := (Xbc BK611.out 1).trans rfl; have hcz120_2 : w115.cell? ⟨gb611, 2, none⟩ = some (.int .i64 a1_2) := (Xbc BK611.out 2).trans rfl; have hcz120_3 : w115.cell? ⟨gb611, 3, none⟩ = some (.slice A1_3 l1_3.length c1_3) := (Xbc BK611.out 3).trans rfl; have hfz120_0 := Xbf BK611.out 0; have hfz120_1 := Xbf BK611.out 1; have hfz120_2 := Xbf BK611.out 2; have hfz120_3 := Xbf BK611.out 3) | ((with_reducible refine gate_callee (f := 49) rfl ?_); refine goesL_ (some 28) rfl rfl Try.func49 (by kernel_rfl) rfl #[.agg #[.int .i64 a1_0, .int .i64 a1_1, .int .i64 a1_2, .slice A1_3 l1_3.length c1_3]] rfl (by (try simp only [List.map_toArray, List.map_cons, List.map_nil]); first | done | rfl | (simp only [List.length_drop, List.length_take]; rfl)) ?_; (with_reducible refine (laws_toSenderGroup.calls k a1_0 a1_1 a1_2 _ _ l1_3 t634 t635 t636 t637 _ ?side1 ?side2 A23.out).mono ?_); (case side1 => exact Kd.C_below HR1_3.out (by repeat (first | (with_reducible first | exact HB.out | apply Xba | apply Xbn | apply Xbd | refine Xbe ?_ GE610.out | refine Xbe ?_ GE611.out | refine Xbe ?_ GE633.out) | exact HB.out))); (case side2 => exact HC1_3.out); rintro e w121 ⟨v638, rfl, ho0, hb⟩; refine ⟨_, rfl, ?_⟩; have n0_ := Xam (Kd.R_elder' (by (with_reducible repeat (first | apply Xra | apply Xrn | apply Xrd)); exact (Kd.R_mono (Kd.R_far (p := ⟨gb633, 3, none⟩) (Kd.R_far (p := ⟨gb633, 2, none⟩) (Kd.R_far (p := ⟨gb633, 1, none⟩) (Kd.R_far (p := ⟨gb633, 0, none⟩) (Kd.R_types HO619.out BK633.out (by decide)) (fun _ hk => hk.2) (.int .i64 t627)) (fun _ hk => hk.2) (.int .i64 t628)) (fun _ hk => hk.2) (.int .i64 t629)) (fun _ hk => hk.2) (.slice Ao119 t630.length co119)) (fun _ h_ => h_.1))) (Kd.R_base ho0) hb); have n1_ := Xam (Kd.R_elder' (by (with_reducible repeat (first | apply Xra | apply Xrn | apply Xrd)); exact (Kd.R_mono (Kd.R_far (p := ⟨gb633, 3, none⟩) (Kd.R_far (p := ⟨gb633, 2, none⟩) (Kd.R_far (p := ⟨gb633, 1, none⟩) (Kd.R_far (p := ⟨gb633, 0, none⟩) (Kd.R_types HO625.out BK633.out (by decide)) (fun _ hk => hk.2) (.int .i64 t627)) (fun _ hk => hk.2) (.int .i64 t628)) (fun _ hk => hk.2) (.int .i64 t629)) (fun _ hk => hk.2) (.slice Ao119 t630.length co119)) (fun _ h_ => h_.1))) (Kd.R_base ho0) hb); have n2_ := Xam (Kd.R_elder' (by (with_reducible repeat (first | apply Xra | apply Xrn | apply Xrd)); exact (Kd.R_mono (Kd.R_far (p := ⟨gb633, 3, none⟩) (Kd.R_far (p := ⟨gb633, 2, none⟩) (Kd.R_far (p := ⟨gb633, 1, none⟩) (Kd.R_far (p := ⟨gb633, 0, none⟩) (Kd.R_types HO632.out BK633.out (by decide)) (fun _ hk => hk.2) (.int .i64 t627)) (fun _ hk => hk.2) (.int .i64 t628)) (fun _ hk => hk.2) (.int .i64 t629)) (fun _ hk => hk.2) (.slice Ao119 t630.length co119)) (fun _ h_ => h_.1))) (Kd.R_base ho0) hb); have n3_ := Xam (Kd.R_lower (Kd.R_new' (Kd.R_new' (Kd.R_new' ho0 (Kd.R_lt (by (with_reducible repeat (first | apply Xra | apply Xrn | apply Xrd)); exact (Kd.R_mono (Kd.R_far (p := ⟨gb633, 3, none⟩) (Kd.R_far (p := ⟨gb633, 2, none⟩) (Kd.R_far (p := ⟨gb633, 1, none⟩) (Kd.R_far (p := ⟨gb633, 0, none⟩) (Kd.R_types HO619.out BK633.out (by decide)) (fun _ hk => hk.2) (.int .i64 t627)) (fun _ hk => hk.2) (.int .i64 t628)) (fun _ hk => hk.2) (.int .i64 t629)) (fun _ hk => hk.2) (.slice Ao119 t630.length co119)) (fun _ h_ => h_.1))))) (Kd.R_lt (by (with_reducible repeat (first | apply Xra | apply Xrn | apply Xrd)); exact (Kd.R_mono (Kd.R_far (p := ⟨gb633, 3, none⟩) (Kd.R_far (p := ⟨gb633, 2, none⟩) (Kd.R_far (p := ⟨gb633, 1, none⟩) (Kd.R_far (p := ⟨gb633, 0, none⟩) (Kd.R_types HO625.out BK633.out (by decide)) (fun _ hk => hk.2) (.int .i64 t627)) (fun _ hk => hk.2) (.int .i64 t628)) (fun _ hk => hk.2) (.int .i64 t629)) (fun _ hk => hk.2) (.slice Ao119 t630.length co119)) (fun _ h_ => h_.1))))) (Kd.R_lt (by (with_reducible repeat (first | apply Xra | apply Xrn | apply Xrd)); exact (Kd.R_mono (Kd.R_far (p := ⟨gb633, 3, none⟩) (Kd.R_far (p := ⟨gb633, 2, none⟩) (Kd.R_far (p := ⟨gb633, 1, none⟩) (Kd.R_far (p := ⟨gb633, 0, none⟩) (Kd.R_types HO632.out BK633.out (by decide)) (fun _ hk => hk.2) (.int .i64 t627)) (fun _ hk => hk.2) (.int .i64 t628)) (fun _ hk => hk.2) (.int .i64 t629)) (fun _ hk => hk.2) (.slice Ao119 t630.length co119)) (fun _ h_ => h_.1))))) (Xbs (by repeat (first | (with_reducible first | exact HB.out | apply Xba | apply Xbn | apply Xbd | refine Xbe ?_ GE610.out | refine Xbe ?_ GE611.out | refine Xbe ?_ GE633.out) | exact HB.out)))); have n4_ := Xam (Xbb (g := gb610) (o := .cells #[.int .i64 a0_0, .int .i64 a0_1, .int .i64 a0_2, .slice A0_3 l0_3.length c0_3] 64 (0, 0)) (by (with_reducible repeat (first | refine Xkn ?_ _ | refine Xkd ?_ | refine Xka ?_ _)); refine blk_far ?_ NB610_633.out _; (with_reducible repeat (first | refine Xkn ?_ _ | refine Xkd ?_ | refine Xka ?_ _)); refine blk_far ?_ NB610_633.out _; (with_reducible repeat (first | refine Xkn ?_ _ | refine Xkd ?_ | refine Xka ?_ _)); refine blk_far ?_ NB610_633.out _; (with_reducible repeat (first | refine Xkn ?_ _ | refine Xkd ?_ | refine Xka ?_ _)); refine blk_far ?_ NB610_633.out _; (with_reducible repeat (first | refine Xkn ?_ _ | refine Xkd ?_ | refine Xka ?_ _)); exact BK610.out) hb); have n5_ := Xam (Xbb (g := gb611) (o := .cells #[.int .i64 a1_0, .int .i64 a1_1, .int .i64 a1_2, .slice A1_3 l1_3.length c1_3] 64 (0, 0)) (by (with_reducible repeat (first | refine Xkn ?_ _ | refine Xkd ?_ | refine Xka ?_ _)); refine blk_far ?_ NB611_633.out _; (with_reducible repeat (first | refine Xkn ?_ _ | refine Xkd ?_ | refine Xka ?_ _)); refine blk_far ?_ NB611_633.out _; (with_reducible repeat (first | refine Xkn ?_ _ | refine Xkd ?_ | refine Xka ?_ _)); refine blk_far ?_ NB611_633.out _; (with_reducible repeat (first | refine Xkn ?_ _ | refine Xkd ?_ | refine Xka ?_ _)); refine blk_far ?_ NB611_633.out _; (with_reducible repeat (first | refine Xkn ?_ _ | refine Xkd ?_ | refine Xka ?_ _)); exact BK611.out) hb); have n6_ := Xam (Xbb (g := gb633) (o := .cells #[.int .i64 t627, .int .i64 t628, .int .i64 t629, .slice Ao119 t630.length co119] 67 (0, 0)) (by (with_reducible repeat (first | refine Xkn ?_ _ | refine Xkd ?_ | refine Xka ?_ _)); refine blk_put (cs := #[.int .i64 t627, .int .i64 t628, .int .i64 t629, .slice none 0 0]) ?_ 3 _ rfl; (with_reducible repeat (first | refine Xkn ?_ _ | refine Xkd ?_ | refine Xka ?_ _)); refine blk_put (cs := #[.int .i64 t627, .int .i64 t628, .int .i64 0, .slice none 0 0]) ?_ 2 _ rfl; (with_reducible repeat (first | refine Xkn ?_ _ | refine Xkd ?_ | refine Xka ?_ _)); refine blk_put (cs := #[.int .i64 t627, .int .i64 0, .int .i64 0, .slice none 0 0]) ?_ 1 _ rfl; (with_reducible repeat (first | refine Xkn ?_ _ | refine Xkd ?_ | refine Xka ?_ _)); refine blk_put (cs := #[.int .i64 0, .int .i64 0, .int .i64 0, .slice none 0 0]) ?_ 0 _ rfl; (with_reducible repeat (first | refine Xkn ?_ _ | refine Xkd ?_ | refine Xka ?_ _)); exact BK633.out) hb); have n7_ := Xam (Xbt (by repeat (first | (with_reducible first | exact HB.out | apply Xba | apply Xbn | apply Xbd | refine Xbe ?_ GE610.out | refine Xbe ?_ GE611.out | refine Xbe ?_ GE633.out) | exact HB.out)) hb); clear HO619; clear HO625; clear HO632; clear BK610; clear BK611; clear BK633; clear HB; have HO619 := n0_; have HO625 := n1_; have HO632 := n2_; have HO639 := n3_; have BK610 := n4_; have BK611 := n5_; have BK633 := n6_; have HB := n7_; clear n0_ n1_ n2_ n3_ n4_ n5_ n6_ n7_; (try clear hb); (try clear hb2); (try clear hk); (try clear hi); (try clear ho0)) | ((with_reducible refine gate_dst (N := 8) rfl ?_); refine box_event ?hg (N := 8) ?hd (cs := #[.int .i64 0, .int .i64 0, .int .i64 0, .slice none 0 0]) (t := 67) ?hr ?_; (case hd => rfl); (case hg => rfl); (case hr => first | (go_simp; done) | (go_simp; rfl)); intro gb640 hg w122 hbox hb; have n0_ := Xam (Kd.R_below (by (with_reducible repeat (first | apply Xra | apply Xrn | apply Xrd)); exact HO619.out) hb); have n1_ := Xam (Kd.R_below (by (with_reducible repeat (first | apply Xra | apply Xrn | apply Xrd)); exact HO625.out) hb); have n2_ := Xam (Kd.R_below (by (with_reducible repeat (first | apply Xra | apply Xrn | apply Xrd)); exact HO632.out) hb); have n3_ := Xam (Kd.R_below (by (with_reducible repeat (first | apply Xra | apply Xrn | apply Xrd)); exact HO639.out) hb); have n4_ := Xam (Xbb (g := gb610) (o := .cells #[.int .i64 a0_0, .int .i64 a0_1, .int .i64 a0_2, .slice A0_3 l0_3.length c0_3] 64 (0, 0)) (by (with_reducible repeat (first | refine Xkn ?_ _ | refine Xkd ?_ | refine Xka ?_ _)); exact BK610.out) hb); have n5_ := Xam (Xbb (g := gb611) (o := .cells #[.int .i64 a1_0, .int .i64 a1_1, .int .i64 a1_2, .slice A1_3 l1_3.length c1_3] 64 (0, 0)) (by (with_reducible repeat (first | refine Xkn ?_ _ | refine Xkd ?_ | refine Xka ?_ _)); exact BK611.out) hb); have n6_ := Xam (Xbb (g := gb633) (o := .cells #[.int .i64 t627, .int .i64 t628, .int .i64 t629, .slice Ao119 t630.length co119] 67 (0, 0)) (by (with_reducible repeat (first | refine Xkn ?_ _ | refine Xkd ?_ | refine Xka ?_ _)); exact BK633.out) hb); have n7_ := Xam (Xbt (by repeat (first | (with_reducible first | exact HB.out | apply Xba | apply Xbn | apply Xbd | refine Xbe ?_ GE610.out | refine Xbe ?_ GE611.out | refine Xbe ?_ GE633.out) | exact HB.out)) hb); have n8_ := Xam (hbox); have n9_ := Xam ((by rw [hg]; exact (Xbs (by repeat (first | (with_reducible first | exact HB.out | apply Xba | apply Xbn | apply Xbd | refine Xbe ?_ GE610.out | refine Xbe ?_ GE611.out | refine Xbe ?_ GE633.out) | exact HB.out))) : w.heap.size ≤ gb640)); have n10_ := Xam ((by rw [hg]; exact (Xbs (by repeat (first | (with_reducible first | exact HB.out | apply Xba | apply Xbn | apply Xbd | refine Xbe ?_ GE610.out | refine Xbe ?_ GE611.out | refine Xbe ?_ GE633.out) | exact HB.out))) : w.heap.size ≤ gb640)); have n11_ := Xam ((by rw [hg]; exact Nat.ne_of_lt (Xbl (g := gb610) (o := .cells #[.int .i64 a0_0, .int .i64 a0_1, .int .i64 a0_2, .slice A0_3 l0_3.length c0_3] 64 (0, 0)) (by (with_reducible repeat (first | refine Xkn ?_ _ | refine Xkd ?_ | refine Xka ?_ _)); exact BK610.out)) : gb610 ≠ gb640)); have n12_ := Xam ((by rw [hg]; exact Nat.ne_of_gt (Xbl (g := gb610) (o := .cells #[.int .i64 a0_0, .int .i64 a0_1, .int .i64 a0_2, .slice A0_3 l0_3.length c0_3] 64 (0, 0)) (by (with_reducible repeat (first | refine Xkn ?_ _ | refine Xkd ?_ | refine Xka ?_ _)); exact BK610.out)) : gb640 ≠ gb610)); have n13_ := Xam ((by rw [hg]; exact Nat.ne_of_lt (Xbl (g := gb611) (o := .cells #[.int .i64 a1_0, .int .i64 a1_1, .int .i64 a1_2, .slice A1_3 l1_3.length c1_3] 64 (0, 0)) (by (with_reducible repeat (first | refine Xkn ?_ _ | refine Xkd ?_ | refine Xka ?_ _)); exact BK611.out)) : gb611 ≠ gb640)); have n14_ := Xam ((by rw [hg]; exact Nat.ne_of_gt (Xbl (g := gb611) (o := .cells #[.int .i64 a1_0, .int .i64 a1_1, .int .i64 a1_2, .slice A1_3 l1_3.length c1_3] 64 (0, 0)) (by (with_reducible repeat (first | refine Xkn ?_ _ | refine Xkd ?_ | refine Xka ?_ _)); exact BK611.out)) : gb640 ≠ gb611)); have n15_ := Xam ((by rw [hg]; exact Nat.ne_of_lt (Xbl (g := gb633) (o := .cells #[.int .i64 t627, .int .i64 t628, .int .i64 t629, .slice Ao119 t630.length co119] 67 (0, 0)) (by (with_reducible repeat (first | refine Xkn ?_ _ | refine Xkd ?_ | refine Xka ?_ _)); exact BK633.out)) : gb633 ≠ gb640)); have n16_ := Xam ((by rw [hg]; exact Nat.ne_of_gt (Xbl (g := gb633) (o := .cells #[.int .i64 t627, .int .i64 t628, .int .i64 t629, .slice Ao119 t630.length co119] 67 (0, 0)) (by (with_reducible repeat (first | refine Xkn ?_ _ | refine Xkd ?_ | refine Xka ?_ _)); exact BK633.out)) : gb640 ≠ gb633)); clear HO619; clear HO625; clear HO632; clear HO639; clear BK610; clear BK611; clear BK633; clear HB; have HO619 := n0_; have HO625 := n1_; have HO632 := n2_; have HO639 := n3_; have BK610 := n4_; have BK611 := n5_; have BK633 := n6_; have HB := n7_; have BK640 := n8_; have GW640 := n9_; have GE640 := n10_; have NB610_640 := n11_; have NB640_610 := n12_; have NB611_640 := n13_; have NB640_611 := n14_; have NB633_640 := n15_; have NB640_633 := n16_; clear n0_ n1_ n2_ n3_ n4_ n5_ n6_ n7_ n8_ n9_ n10_ n11_ n12_ n13_ n14_ n15_ n16_; clear hb hbox hg; have hnb123 := NB640_610.out; have hnc123 := NB610_640.out; have hnb124 := NB640_611.out; have hnc124 := NB611_640.out; have hnb125 := NB640_633.out; have hnc125 := NB633_640.out; have hcz126_0 : w122.cell? ⟨gb640, 0, none⟩ = some (.int .i64 0) := (Xbc BK640.out 0).trans rfl; have hcz126_1 : w122.cell? ⟨gb640, 1, none⟩ = some (.int .i64 0) := (Xbc BK640.out 1).trans rfl; have hcz126_2 : w122.cell? ⟨gb640, 2, none⟩ = some (.int .i64 0) := (Xbc BK640.out 2).trans rfl; have hcz126_3 : w122.cell? ⟨gb640, 3, none⟩ = some (.slice none 0 0) := (Xbc BK640.out 3).trans rfl; have hfz126_0 := Xbf BK640.out 0; have hfz126_1 := Xbf BK640.out 1; have hfz126_2 := Xbf BK640.out 2; have hfz126_3 := Xbf BK640.out 3; obtain ⟨Ao127, co127, eo127⟩ := Kd.R_slice HO639.out; subst eo127; have hcz128_0 : w122.cell? ⟨gb633, 0, none⟩ = some (.int .i64 t627) := (Xbc BK633.out 0).trans rfl; have hcz128_1 : w122.cell? ⟨gb633, 1, none⟩ = some (.int .i64 t628) := (Xbc BK633.out 1).trans rfl; have hcz128_2 : w122.cell? ⟨gb633, 2, none⟩ = some (.int .i64 t629) := (Xbc BK633.out 2).trans rfl; have hcz128_3 : w122.cell? ⟨gb633, 3, none⟩ = some (.slice Ao119 t630.length co119) := (Xbc BK633.out 3).trans rfl; have hfz128_0 := Xbf BK633.out 0; have hfz128_1 := Xbf BK633.out 1; have hfz128_2 := Xbf BK633.out 2; have hfz128_3 := Xbf BK633.out 3) | ((with_reducible refine gate_callee (f := 50) rfl ?_); refine goesL_ (some 31) rfl rfl Try.func50 (by kernel_rfl) rfl #[.agg #[.int .i64 t627, .int .i64 t628, .int .i64 t629, .slice Ao119 t630.length co119], .agg #[.int .i64 t634, .int .i64 t635, .int .i64 t636, .slice Ao127 t637.length co127]] rfl (by (try simp only [List.map_toArray, List.map_cons, List.map_nil]); first | done | rfl | (simp only [List.length_drop, List.length_take]; rfl)) ?_; (with_reducible refine (impl_EqualGroups.calls k t627 t628 t629 _ _ t630 t634 t635 t636 _ _ t637 t641 _ ?side1 ?side2 ?side3 ?side4 A24.out).mono ?_); (case side1 => refine (Kd.R_reads' (e := 3) (base := w.heap.size) (ok := fun k_ => (((True ∧ some k_ ≠ (.slice Ao110 t617.length co110 : Value).ownBlock) ∧ some k_ ≠ (.slice Ao111 t623.length co111 : Value).ownBlock) ∧ some k_ ≠ (.slice Ao127 t637.length co127 : Value).ownBlock)) (n := t630.length) (c := co119) ?_).2.2; exact (by (with_reducible repeat (first | apply Xra | apply Xrn | apply Xrd)); exact (Kd.R_mono (Kd.R_far (p := ⟨gb640, 3, none⟩) (Kd.R_far (p := ⟨gb640, 2, none⟩) (Kd.R_far (p := ⟨gb640, 1, none⟩) (Kd.R_far (p := ⟨gb640, 0, none⟩) (Kd.R_types HO632.out BK640.out (by decide)) (fun _ hk => hk.2) (.int .i64 t634)) (fun _ hk => hk.2) (.int .i64 t635)) (fun _ hk => hk.2) (.int .i64 t636)) (fun _ hk => hk.2) (.slice Ao127 t637.length co127)) (fun _ h_ => h_.1)))); (case side2 => exact (Kd.R_reads' HO632.out).2.1); (case side3 => refine (Kd.R_reads' (e := 3) (base := w.heap.size) (ok := fun k_ => (((True ∧ some k_ ≠ (.slice Ao110 t617.length co110 : Value).ownBlock) ∧ some k_ ≠ (.slice Ao111 t623.length co111 : Value).ownBlock) ∧ some k_ ≠ (.slice Ao119 t630.length co119 : Value).ownBlock)) (n := t637.length) (c := co127) ?_).2.2; exact (by (with_reducible repeat (first | apply Xra | apply Xrn | apply Xrd)); exact (Kd.R_mono (Kd.R_far (p := ⟨gb640, 3, none⟩) (Kd.R_far (p := ⟨gb640, 2, none⟩) (Kd.R_far (p := ⟨gb640, 1, none⟩) (Kd.R_far (p := ⟨gb640, 0, none⟩) (Kd.R_types HO639.out BK640.out (by decide)) (fun _ hk => hk.2) (.int .i64 t634)) (fun _ hk => hk.2) (.int .i64 t635)) (fun _ hk => hk.2) (.int .i64 t636)) (fun _ hk => hk.2) (.slice Ao127 t637.length co127)) (fun _ h_ => h_.1)))); (case side4 => exact (Kd.R_reads' HO639.out).2.1); rintro e w129 ⟨rfl, hb⟩; refine ⟨_, rfl, ?_⟩; have n0_ := Xam (Kd.R_below (by (with_reducible repeat (first | apply Xra | apply Xrn | apply Xrd)); exact (Kd.R_mono (Kd.R_far (p := ⟨gb640, 3, none⟩) (Kd.R_far (p := ⟨gb640, 2, none⟩) (Kd.R_far (p := ⟨gb640, 1, none⟩) (Kd.R_far (p := ⟨gb640, 0, none⟩) (Kd.R_types HO619.out BK640.out (by decide)) (fun _ hk => hk.2) (.int .i64 t634)) (fun _ hk => hk.2) (.int .i64 t635)) (fun _ hk => hk.2) (.int .i64 t636)) (fun _ hk => hk.2) (.slice Ao127 t637.length co127)) (fun _ h_ => h_.1))) hb); have n1_ := Xam (Kd.R_below (by (with_reducible repeat (first | apply Xra | apply Xrn | apply Xrd)); exact (Kd.R_mono (Kd.R_far (p := ⟨gb640, 3, none⟩) (Kd.R_far (p := ⟨gb640, 2, none⟩) (Kd.R_far (p := ⟨gb640, 1, none⟩) (Kd.R_far (p := ⟨gb640, 0, none⟩) (Kd.R_types HO625.out BK640.out (by decide)) (fun _ hk => hk.2) (.int .i64 t634)) (fun _ hk => hk.2) (.int .i64 t635)) (fun _ hk => hk.2) (.int .i64 t636)) (fun _ hk => hk.2) (.slice Ao127 t637.length co127)) (fun _ h_ => h_.1))) hb); have n2_ := Xam (Kd.R_below (by (with_reducible repeat (first | apply Xra | apply Xrn | apply Xrd)); exact (Kd.R_mono (Kd.R_far (p := ⟨gb640, 3, none⟩) (Kd.R_far (p := ⟨gb640, 2, none⟩) (Kd.R_far (p := ⟨gb640, 1, none⟩) (Kd.R_far (p := ⟨gb640, 0, none⟩) (Kd.R_types HO632.out BK640.out (by decide)) (fun _ hk => hk.2) (.int .i64 t634)) (fun _ hk => hk.2) (.int .i64 t635)) (fun _ hk => hk.2) (.int .i64 t636)) (fun _ hk => hk.2) (.slice Ao127 t637.length co127)) (fun _ h_ => h_.1))) hb); have n3_ := Xam (Kd.R_below (by (with_reducible repeat (first | apply Xra | apply Xrn | apply Xrd)); exact (Kd.R_mono (Kd.R_far (p := ⟨gb640, 3, none⟩) (Kd.R_far (p := ⟨gb640, 2, none⟩) (Kd.R_far (p := ⟨gb640, 1, none⟩) (Kd.R_far (p := ⟨gb640, 0, none⟩) (Kd.R_types HO639.out BK640.out (by decide)) (fun _ hk => hk.2) (.int .i64 t634)) (fun _ hk => hk.2) (.int .i64 t635)) (fun _ hk => hk.2) (.int .i64 t636)) (fun _ hk => hk.2) (.slice Ao127 t637.length co127)) (fun _ h_ => h_.1))) hb); have n4_ := Xam (Xbb (g := gb610) (o := .cells #[.int .i64 a0_0, .int .i64 a0_1, .int .i64 a0_2, .slice A0_3 l0_3.length c0_3] 64 (0, 0)) (by (with_reducible repeat (first | refine Xkn ?_ _ | refine Xkd ?_ | refine Xka ?_ _)); refine blk_far ?_ NB610_640.out _; (with_reducible repeat (first | refine Xkn ?_ _ | refine Xkd ?_ | refine Xka ?_ _)); refine blk_far ?_ NB610_640.out _; (with_reducible repeat (first | refine Xkn ?_ _ | refine Xkd ?_ | refine Xka ?_ _)); refine blk_far ?_ NB610_640.out _; (with_reducible repeat (first | refine Xkn ?_ _ | refine Xkd ?_ | refine Xka ?_ _)); refine blk_far ?_ NB610_640.out _; (with_reducible repeat (first | refine Xkn ?_ _ | refine Xkd ?_ | refine Xka ?_ _)); exact BK610.out) hb); have n5_ := Xam (Xbb (g := gb611) (o := .cells #[.int .i64 a1_0, .int .i64 a1_1, .int .i64 a1_2, .slice A1_3 l1_3.length c1_3] 64 (0, 0)) (by (with_reducible repeat (first | refine Xkn ?_ _ | refine Xkd ?_ | refine Xka ?_ _)); refine blk_far ?_ NB611_640.out _; (with_reducible repeat (first | refine Xkn ?_ _ | refine Xkd ?_ | refine Xka ?_ _)); refine blk_far ?_ NB611_640.out _; (with_reducible repeat (first | refine Xkn ?_ _ | refine Xkd ?_ | refine Xka ?_ _)); refine blk_far ?_ NB611_640.out _; (with_reducible repeat (first | refine Xkn ?_ _ | refine Xkd ?_ | refine Xka ?_ _)); refine blk_far ?_ NB611_640.out _; (with_reducible repeat (first | refine Xkn ?_ _ | refine Xkd ?_ | refine Xka ?_ _)); exact BK611.out) hb); have n6_ := Xam (Xbb (g := gb633) (o := .cells #[.int .i64 t627, .int .i64 t628, .int .i64 t629, .slice Ao119 t630.length co119] 67 (0, 0)) (by (with_reducible repeat (first | refine Xkn ?_ _ | refine Xkd ?_ | refine Xka ?_ _)); refine blk_far ?_ NB633_640.out _; (with_reducible repeat (first | refine Xkn ?_ _ | refine Xkd ?_ | refine Xka ?_ _)); refine blk_far ?_ NB633_640.out _; (with_reducible repeat (first | refine Xkn ?_ _ | refine Xkd ?_ | refine Xka ?_ _)); refine blk_far ?_ NB633_640.out _; (with_reducible repeat (first | refine Xkn ?_ _ | refine Xkd ?_ | refine Xka ?_ _)); refine blk_far ?_ NB633_640.out _; (with_reducible repeat (first | refine Xkn ?_ _ | refine Xkd ?_ | refine Xka ?_ _)); exact BK633.out) hb); have n7_ := Xam (Xbb (g := gb640) (o := .cells #[.int .i64 t634, .int .i64 t635, .int .i64 t636, .slice Ao127 t637.length co127] 67 (0, 0)) (by (with_reducible repeat (first | refine Xkn ?_ _ | refine Xkd ?_ | refine Xka ?_ _)); refine blk_put (cs := #[.int .i64 t634, .int .i64 t635, .int .i64 t636, .slice none 0 0]) ?_ 3 _ rfl; (with_reducible repeat (first | refine Xkn ?_ _ | refine Xkd ?_ | refine Xka ?_ _)); refine blk_put (cs := #[.int .i64 t634, .int .i64 t635, .int .i64 0, .slice none 0 0]) ?_ 2 _ rfl; (with_reducible repeat (first | refine Xkn ?_ _ | refine Xkd ?_ | refine Xka ?_ _)); refine blk_put (cs := #[.int .i64 t634, .int .i64 0, .int .i64 0, .slice none 0 0]) ?_ 1 _ rfl; (with_reducible repeat (first | refine Xkn ?_ _ | refine Xkd ?_ | refine Xka ?_ _)); refine blk_put (cs := #[.int .i64 0, .int .i64 0, .int .i64 0, .slice none 0 0]) ?_ 0 _ rfl; (with_reducible repeat (first | refine Xkn ?_ _ | refine Xkd ?_ | refine Xka ?_ _)); exact BK640.out) hb); have n8_ := Xam (Xbt (by repeat (first | (with_reducible first | exact HB.out | apply Xba | apply Xbn | apply Xbd | refine Xbe ?_ GE610.out | refine Xbe ?_ GE611.out | refine Xbe ?_ GE633.out | refine Xbe ?_ GE640.out) | exact HB.out)) hb); clear HO619; clear HO625; clear HO632; clear HO639; clear BK610; clear BK611; clear BK633; clear BK640; clear HB; have HO619 := n0_; have HO625 := n1_; have HO632 := n2_; have HO639 := n3_; have BK610 := n4_; have BK611 := n5_; have BK633 := n6_; have BK640 := n7_; have HB := n8_; clear n0_ n1_ n2_ n3_ n4_ n5_ n6_ n7_ n8_; (try clear hb); (try clear hb2); (try clear hk); (try clear hi)))
            have n0_ := Xam (Xrd HO619.out)
            have n1_ := Xam (Xrd HO625.out)
            have n2_ := Xam (Xrd HO632.out)
            have n3_ := Xam (Xrd HO639.out)
            have n4_ := Xam (Xkd BK610.out)
            have n5_ := Xam (Xkd BK611.out)
            have n6_ := Xam (Xkd BK633.out)
            have n7_ := Xam (Xkd BK640.out)
            have n8_ := Xam (Xbd HB.out)
            clear HO619
            clear HO625
            clear HO632
            clear HO639
            clear BK610
            clear BK611
            clear BK633
            clear BK640
            clear HB
            have HO619 := n0_
            have HO625 := n1_
            have HO632 := n2_
            have HO639 := n3_
            have BK610 := n4_
            have BK611 := n5_
            have BK633 := n6_
            have BK640 := n7_
            have HB := n8_
            clear n0_ n1_ n2_ n3_ n4_ n5_ n6_ n7_ n8_
            refine start_ (n := 5) (S := fun w' => w'.cell? ⟨gb633, 0, none⟩ = some (.int .i64 t627) ∧ w'.cell? ⟨gb633, 1, none⟩ = some (.int .i64 t628) ∧ w'.cell? ⟨gb633, 2, none⟩ = some (.int .i64 t629) ∧ w'.cell? ⟨gb633, 3, none⟩ = some (.slice Ao119 t630.length co119) ∧ w'.cell? ⟨gb610, 0, none⟩ = some (.int .i64 a0_0) ∧ w'.cell? ⟨gb610, 1, none⟩ = some (.int .i64 a0_1) ∧ w'.cell? ⟨gb610, 2, none⟩ = some (.int .i64 a0_2) ∧ w'.cell? ⟨gb610, 3, none⟩ = some (.slice A0_3 l0_3.length c0_3)) (ds := []) #[false, false, false, false, false] (by kernel_rfl) rfl rfl ⟨(Xbc BK633.out 0).trans rfl, (Xbc BK633.out 1).trans rfl, (Xbc BK633.out 2).trans rfl, (Xbc BK633.out 3).trans rfl, (Xbc BK610.out 0).trans rfl, (Xbc BK610.out 1).trans rfl, (Xbc BK610.out 2).trans rfl, (Xbc BK610.out 3).trans rfl⟩ (fun hHeld => ?_)
            generalize w129.drew = w130 at HO619 HO625 HO632 HO639 BK610 BK611 BK633 BK640 HB hHeld ⊢
            refine take_ (i := 0) (N := some 35) (v := ?_) (a' := ?_) #[true, false, false, false, false] rfl rfl (by kernel_rfl) (fun _ _ _ h => h) (Or.inl ⟨by rfl, ?_⟩) hHeld ?_ ?_
            rotate_left
            · rintro w' ⟨s0, s1, s2, s3, s4, s5, s6, s7⟩
              go_simp
              with_reducible rfl
            rotate_left
            · simp only [Act.put, List.setIfInBounds_toArray, List.set_cons_zero, List.set_cons_succ, i64_w, i32_w]
              rfl
            refine take_ (i := 1) (N := some 36) (v := ?_) (a' := ?_) #[true, true, false, false, false] rfl rfl (by kernel_rfl) (fun _ _ _ h => h) (Or.inl ⟨by rfl, ?_⟩) hHeld ?_ ?_
            rotate_left
            · rintro w' ⟨s0, s1, s2, s3, s4, s5, s6, s7⟩
              go_simp
              with_reducible rfl
            rotate_left
            · simp only [Act.put, List.setIfInBounds_toArray, List.set_cons_zero, List.set_cons_succ, i64_w, i32_w]
              rfl
            refine one_ (i := 2) (N := some 37) #[true, true, true, false, false] rfl rfl (by kernel_rfl) (by decide) (fun K hK => ?_)
            refine goes_ Try.func49 (by kernel_rfl) rfl #[.agg #[.int .i64 a0_0, .int .i64 a0_1, .int .i64 a0_2, .slice A0_3 l0_3.length c0_3]] (by rfl) rfl rfl (by (try simp only [List.map_toArray, List.map_cons, List.map_nil]); first | done | rfl | (simp only [List.length_drop, List.length_take]; rfl)) ?_
            with_reducible refine (laws_toSenderGroup.calls k a0_0 a0_1 a0_2 _ _ l0_3 t642 t643 t644 t645 _ ?side1 ?side2 A56.out).mono ?_
            (case side1 => repeat (first | exact (Kd.C_below HR0_3.out HB.out) | (with_reducible refine Xca ?_ _) | (with_reducible refine Xcn ?_ _) | (with_reducible refine Xcd ?_)))
            (case side2 => exact HC0_3.out)
            rintro e w131 ⟨v646, rfl, ho0, hb⟩
            refine ⟨_, rfl, ?_⟩
            have n0_ := Xam (Kd.R_elder' (by (with_reducible repeat (first | apply Xra | apply Xrn | apply Xrd)); exact HO619.out) (Kd.R_base ho0) hb)
            have n1_ := Xam (Kd.R_elder' (by (with_reducible repeat (first | apply Xra | apply Xrn | apply Xrd)); exact HO625.out) (Kd.R_base ho0) hb)
            have n2_ := Xam (Kd.R_elder' (by (with_reducible repeat (first | apply Xra | apply Xrn | apply Xrd)); exact HO632.out) (Kd.R_base ho0) hb)
            have n3_ := Xam (Kd.R_elder' (by (with_reducible repeat (first | apply Xra | apply Xrn | apply Xrd)); exact HO639.out) (Kd.R_base ho0) hb)
            have n4_ := Xam (Kd.R_lower (Kd.R_new' (Kd.R_new' (Kd.R_new' (Kd.R_new' ho0 (Kd.R_lt (by (with_reducible repeat (first | apply Xra | apply Xrn | apply Xrd)); exact HO619.out))) (Kd.R_lt (by (with_reducible repeat (first | apply Xra | apply Xrn | apply Xrd)); exact HO625.out))) (Kd.R_lt (by (with_reducible repeat (first | apply Xra | apply Xrn | apply Xrd)); exact HO632.out))) (Kd.R_lt (by (with_reducible repeat (first | apply Xra | apply Xrn | apply Xrd)); exact HO639.out))) (Xbs (by repeat (first | (with_reducible first | exact HB.out | apply Xba | apply Xbn | apply Xbd | refine Xbe ?_ GE610.out | refine Xbe ?_ GE611.out | refine Xbe ?_ GE633.out | refine Xbe ?_ GE640.out) | exact HB.out))))
            have n5_ := Xam (Xbb (g := gb610) (o := .cells #[.int .i64 a0_0, .int .i64 a0_1, .int .i64 a0_2, .slice A0_3 l0_3.length c0_3] 64 (0, 0)) (by (with_reducible repeat (first | refine Xkn ?_ _ | refine Xkd ?_ | refine Xka ?_ _)); exact BK610.out) hb)
            have n6_ := Xam (Xbb (g := gb611) (o := .cells #[.int .i64 a1_0, .int .i64 a1_1, .int .i64 a1_2, .slice A1_3 l1_3.length c1_3] 64 (0, 0)) (by (with_reducible repeat (first | refine Xkn ?_ _ | refine Xkd ?_ | refine Xka ?_ _)); exact BK611.out) hb)
            have n7_ := Xam (Xbb (g := gb633) (o := .cells #[.int .i64 t627, .int .i64 t628, .int .i64 t629, .slice Ao119 t630.length co119] 67 (0, 0)) (by (with_reducible repeat (first | refine Xkn ?_ _ | refine Xkd ?_ | refine Xka ?_ _)); exact BK633.out) hb)
            have n8_ := Xam (Xbb (g := gb640) (o := .cells #[.int .i64 t634, .int .i64 t635, .int .i64 t636, .slice Ao127 t637.length co127] 67 (0, 0)) (by (with_reducible repeat (first | refine Xkn ?_ _ | refine Xkd ?_ | refine Xka ?_ _)); exact BK640.out) hb)
            have n9_ := Xam (Xbt (by repeat (first | (with_reducible first | exact HB.out | apply Xba | apply Xbn | apply Xbd | refine Xbe ?_ GE610.out | refine Xbe ?_ GE611.out | refine Xbe ?_ GE633.out | refine Xbe ?_ GE640.out) | exact HB.out)) hb)
            clear HO619
            clear HO625
            clear HO632
            clear HO639
            clear BK610
            clear BK611
            clear BK633
            clear BK640
            clear HB
            have HO619 := n0_
            have HO625 := n1_
            have HO632 := n2_
            have HO639 := n3_
            have HO647 := n4_
            have BK610 := n5_
            have BK611 := n6_
            have BK633 := n7_
            have BK640 := n8_
            have HB := n9_
            clear n0_ n1_ n2_ n3_ n4_ n5_ n6_ n7_ n8_ n9_
            (try clear hb)
            (try clear hb2)
            (try clear hk)
            (try clear hi)
            (try clear ho0)
            obtain ⟨Ao132, co132, eo132⟩ := Kd.R_slice HO647.out
            (first | subst eo132 | (injection eo132 with f1_ f2_ f3_; have f4_ := f1_.symm; have f5_ := f3_.symm; clear f1_ f2_ f3_; subst f4_; subst f5_))
            refine hK.out _ _ ⟨(Xbc BK633.out 0).trans rfl, (Xbc BK633.out 1).trans rfl, (Xbc BK633.out 2).trans rfl, (Xbc BK633.out 3).trans rfl, (Xbc BK610.out 0).trans rfl, (Xbc BK610.out 1).trans rfl, (Xbc BK610.out 2).trans rfl, (Xbc BK610.out 3).trans rfl⟩ (fun hHeld => ?_)
            clear hK K
            refine norm_ (a' := ?_) ?_ ?_
            rotate_left
            · show Act.put _ (some 37) _ = _
              simp only [Act.put, List.setIfInBounds_toArray, List.set_cons_zero, List.set_cons_succ, i64_w, i32_w]
              rfl
            refine one_ (i := 3) (N := some 38) #[true, true, true, true, false] rfl rfl (by kernel_rfl) (by decide) (fun K hK => ?_)
            refine goes_ Try.func51 (by kernel_rfl) rfl #[.agg #[.int .i64 t627, .int .i64 t628, .int .i64 t629, .slice Ao119 t630.length co119], .agg #[.int .i64 t642, .int .i64 t643, .int .i64 t644, .slice Ao132 t645.length co132]] (by rfl) rfl rfl (by (try simp only [List.map_toArray, List.map_cons, List.map_nil]); first | done | rfl | (simp only [List.length_drop, List.length_take]; rfl)) ?_
            with_reducible refine (laws_eqSenderGroup.calls k t627 t628 t629 _ _ t630 t642 t643 t644 _ _ t645 true _ ?side1 ?side2 ?side3 ?side4 A57.out).mono ?_
            (case side1 => repeat (first | exact (Kd.R_reads' HO632.out).2.2 | (with_reducible refine Xca ?_ _) | (with_reducible refine Xcn ?_ _) | (with_reducible refine Xcd ?_)))
            (case side2 => exact (Kd.R_reads' HO632.out).2.1)
            (case side3 => repeat (first | exact (Kd.R_reads' HO647.out).2.2 | (with_reducible refine Xca ?_ _) | (with_reducible refine Xcn ?_ _) | (with_reducible refine Xcd ?_)))
            (case side4 => exact (Kd.R_reads' HO647.out).2.1)
            rintro e w133 ⟨rfl, hb⟩
            refine ⟨_, rfl, ?_⟩
            have n0_ := Xam (Kd.R_below (by (with_reducible repeat (first | apply Xra | apply Xrn | apply Xrd)); exact HO619.out) hb)
            have n1_ := Xam (Kd.R_below (by (with_reducible repeat (first | apply Xra | apply Xrn | apply Xrd)); exact HO625.out) hb)
            have n2_ := Xam (Kd.R_below (by (with_reducible repeat (first | apply Xra | apply Xrn | apply Xrd)); exact HO632.out) hb)
            have n3_ := Xam (Kd.R_below (by (with_reducible repeat (first | apply Xra | apply Xrn | apply Xrd)); exact HO639.out) hb)
            have n4_ := Xam (Kd.R_below (by (with_reducible repeat (first | apply Xra | apply Xrn | apply Xrd)); exact HO647.out) hb)
            have n5_ := Xam (Xbb (g := gb610) (o := .cells #[.int .i64 a0_0, .int .i64 a0_1, .int .i64 a0_2, .slice A0_3 l0_3.length c0_3] 64 (0, 0)) (by (with_reducible repeat (first | refine Xkn ?_ _ | refine Xkd ?_ | refine Xka ?_ _)); exact BK610.out) hb)
            have n6_ := Xam (Xbb (g := gb611) (o := .cells #[.int .i64 a1_0, .int .i64 a1_1, .int .i64 a1_2, .slice A1_3 l1_3.length c1_3] 64 (0, 0)) (by (with_reducible repeat (first | refine Xkn ?_ _ | refine Xkd ?_ | refine Xka ?_ _)); exact BK611.out) hb)
            have n7_ := Xam (Xbb (g := gb633) (o := .cells #[.int .i64 t627, .int .i64 t628, .int .i64 t629, .slice Ao119 t630.length co119] 67 (0, 0)) (by (with_reducible repeat (first | refine Xkn ?_ _ | refine Xkd ?_ | refine Xka ?_ _)); exact BK633.out) hb)
            have n8_ := Xam (Xbb (g := gb640) (o := .cells #[.int .i64 t634, .int .i64 t635, .int .i64 t636, .slice Ao127 t637.length co127] 67 (0, 0)) (by (with_reducible repeat (first | refine Xkn ?_ _ | refine Xkd ?_ | refine Xka ?_ _)); exact BK640.out) hb)
            have n9_ := Xam (Xbt (by repeat (first | (with_reducible first | exact HB.out | apply Xba | apply Xbn | apply Xbd | refine Xbe ?_ GE610.out | refine Xbe ?_ GE611.out | refine Xbe ?_ GE633.out | refine Xbe ?_ GE640.out) | exact HB.out)) hb)
            clear HO619
            clear HO625
            clear HO632
            clear HO639
            clear HO647
            clear BK610
            clear BK611
            clear BK633
            clear BK640
            clear HB
            have HO619 := n0_
            have HO625 := n1_
            have HO632 := n2_
            have HO639 := n3_
            have HO647 := n4_
            have BK610 := n5_
            have BK611 := n6_
            have BK633 := n7_
            have BK640 := n8_
            have HB := n9_
            clear n0_ n1_ n2_ n3_ n4_ n5_ n6_ n7_ n8_ n9_
            (try clear hb)
            (try clear hb2)
            (try clear hk)
            (try clear hi)
            refine hK.out _ _ ⟨(Xbc BK633.out 0).trans rfl, (Xbc BK633.out 1).trans rfl, (Xbc BK633.out 2).trans rfl, (Xbc BK633.out 3).trans rfl, (Xbc BK610.out 0).trans rfl, (Xbc BK610.out 1).trans rfl, (Xbc BK610.out 2).trans rfl, (Xbc BK610.out 3).trans rfl⟩ (fun hHeld => ?_)
            clear hK K
            refine norm_ (a' := ?_) ?_ ?_
            rotate_left
            · show Act.put _ (some 38) _ = _
              simp only [Act.put, List.setIfInBounds_toArray, List.set_cons_zero, List.set_cons_succ, i64_w, i32_w]
              rfl
            refine pure_ (i := 4) (N := some 39) (v := ?_) (a' := ?_) #[true, true, true, true, true] rfl rfl (by kernel_rfl) (fun _ _ _ h => h) (Or.inl ⟨by rfl, ?_⟩) ?_ ?_
            rotate_left
            · intro w'
              go_simp
              with_reducible rfl
            rotate_left
            · simp only [Act.put, List.setIfInBounds_toArray, List.set_cons_zero, List.set_cons_succ, i64_w, i32_w]
              rfl
            refine done_ (by kernel_rfl) ?_
            try go_wp2
            have n0_ := Xam (Xrd HO619.out)
            have n1_ := Xam (Xrd HO625.out)
            have n2_ := Xam (Xrd HO632.out)
            have n3_ := Xam (Xrd HO639.out)
            have n4_ := Xam (Xrd HO647.out)
            have n5_ := Xam (Xkd BK610.out)
            have n6_ := Xam (Xkd BK611.out)
            have n7_ := Xam (Xkd BK633.out)
            have n8_ := Xam (Xkd BK640.out)
            have n9_ := Xam (Xbd HB.out)
            clear HO619
            clear HO625
            clear HO632
            clear HO639
            clear HO647
            clear BK610
            clear BK611
            clear BK633
            clear BK640
            clear HB
            have HO619 := n0_
            have HO625 := n1_
            have HO632 := n2_
            have HO639 := n3_
            have HO647 := n4_
            have BK610 := n5_
            have BK611 := n6_
            have BK633 := n7_
            have BK640 := n8_
            have HB := n9_
            clear n0_ n1_ n2_ n3_ n4_ n5_ n6_ n7_ n8_ n9_
            refine start_ (n := 5) (S := fun w' => w'.cell? ⟨gb640, 0, none⟩ = some (.int .i64 t634) ∧ w'.cell? ⟨gb640, 1, none⟩ = some (.int .i64 t635) ∧ w'.cell? ⟨gb640, 2, none⟩ = some (.int .i64 t636) ∧ w'.cell? ⟨gb640, 3, none⟩ = some (.slice Ao127 t637.length co127) ∧ w'.cell? ⟨gb611, 0, none⟩ = some (.int .i64 a1_0) ∧ w'.cell? ⟨gb611, 1, none⟩ = some (.int .i64 a1_1) ∧ w'.cell? ⟨gb611, 2, none⟩ = some (.int .i64 a1_2) ∧ w'.cell? ⟨gb611, 3, none⟩ = some (.slice A1_3 l1_3.length c1_3)) (ds := []) #[false, false, false, false, false] (by kernel_rfl) rfl rfl ⟨(Xbc BK640.out 0).trans rfl, (Xbc BK640.out 1).trans rfl, (Xbc BK640.out 2).trans rfl, (Xbc BK640.out 3).trans rfl, (Xbc BK611.out 0).trans rfl, (Xbc BK611.out 1).trans rfl, (Xbc BK611.out 2).trans rfl, (Xbc BK611.out 3).trans rfl⟩ (fun hHeld => ?_)
            generalize w133.drew = w134 at HO619 HO625 HO632 HO639 HO647 BK610 BK611 BK633 BK640 HB hHeld ⊢
            refine take_ (i := 0) (N := some 40) (v := ?_) (a' := ?_) #[true, false, false, false, false] rfl rfl (by kernel_rfl) (fun _ _ _ h => h) (Or.inl ⟨by rfl, ?_⟩) hHeld ?_ ?_
            rotate_left
            · rintro w' ⟨s0, s1, s2, s3, s4, s5, s6, s7⟩
              go_simp
              with_reducible rfl
            rotate_left
            · simp only [Act.put, List.setIfInBounds_toArray, List.set_cons_zero, List.set_cons_succ, i64_w, i32_w]
              rfl
            refine take_ (i := 1) (N := some 41) (v := ?_) (a' := ?_) #[true, true, false, false, false] rfl rfl (by kernel_rfl) (fun _ _ _ h => h) (Or.inl ⟨by rfl, ?_⟩) hHeld ?_ ?_
            rotate_left
            · rintro w' ⟨s0, s1, s2, s3, s4, s5, s6, s7⟩
              go_simp
              with_reducible rfl
            rotate_left
            · simp only [Act.put, List.setIfInBounds_toArray, List.set_cons_zero, List.set_cons_succ, i64_w, i32_w]
              rfl
            refine one_ (i := 2) (N := some 42) #[true, true, true, false, false] rfl rfl (by kernel_rfl) (by decide) (fun K hK => ?_)
            refine goes_ Try.func49 (by kernel_rfl) rfl #[.agg #[.int .i64 a1_0, .int .i64 a1_1, .int .i64 a1_2, .slice A1_3 l1_3.length c1_3]] (by rfl) rfl rfl (by (try simp only [List.map_toArray, List.map_cons, List.map_nil]); first | done | rfl | (simp only [List.length_drop, List.length_take]; rfl)) ?_
            with_reducible refine (laws_toSenderGroup.calls k a1_0 a1_1 a1_2 _ _ l1_3 t649 t650 t651 t652 _ ?side1 ?side2 A59.out).mono ?_
            (case side1 => repeat (first | exact (Kd.C_below HR1_3.out HB.out) | (with_reducible refine Xca ?_ _) | (with_reducible refine Xcn ?_ _) | (with_reducible refine Xcd ?_)))
            (case side2 => exact HC1_3.out)
            rintro e w135 ⟨v653, rfl, ho0, hb⟩
            refine ⟨_, rfl, ?_⟩
            have n0_ := Xam (Kd.R_elder' (by (with_reducible repeat (first | apply Xra | apply Xrn | apply Xrd)); exact HO619.out) (Kd.R_base ho0) hb)
            have n1_ := Xam (Kd.R_elder' (by (with_reducible repeat (first | apply Xra | apply Xrn | apply Xrd)); exact HO625.out) (Kd.R_base ho0) hb)
            have n2_ := Xam (Kd.R_elder' (by (with_reducible repeat (first | apply Xra | apply Xrn | apply Xrd)); exact HO632.out) (Kd.R_base ho0) hb)
            have n3_ := Xam (Kd.R_elder' (by (with_reducible repeat (first | apply Xra | apply Xrn | apply Xrd)); exact HO639.out) (Kd.R_base ho0) hb)
            have n4_ := Xam (Kd.R_elder' (by (with_reducible repeat (first | apply Xra | apply Xrn | apply Xrd)); exact HO647.out) (Kd.R_base ho0) hb)
            have n5_ := Xam (Kd.R_lower (Kd.R_new' (Kd.R_new' (Kd.R_new' (Kd.R_new' (Kd.R_new' ho0 (Kd.R_lt (by (with_reducible repeat (first | apply Xra | apply Xrn | apply Xrd)); exact HO619.out))) (Kd.R_lt (by (with_reducible repeat (first | apply Xra | apply Xrn | apply Xrd)); exact HO625.out))) (Kd.R_lt (by (with_reducible repeat (first | apply Xra | apply Xrn | apply Xrd)); exact HO632.out))) (Kd.R_lt (by (with_reducible repeat (first | apply Xra | apply Xrn | apply Xrd)); exact HO639.out))) (Kd.R_lt (by (with_reducible repeat (first | apply Xra | apply Xrn | apply Xrd)); exact HO647.out))) (Xbs (by repeat (first | (with_reducible first | exact HB.out | apply Xba | apply Xbn | apply Xbd | refine Xbe ?_ GE610.out | refine Xbe ?_ GE611.out | refine Xbe ?_ GE633.out | refine Xbe ?_ GE640.out) | exact HB.out))))
            have n6_ := Xam (Xbb (g := gb610) (o := .cells #[.int .i64 a0_0, .int .i64 a0_1, .int .i64 a0_2, .slice A0_3 l0_3.length c0_3] 64 (0, 0)) (by (with_reducible repeat (first | refine Xkn ?_ _ | refine Xkd ?_ | refine Xka ?_ _)); exact BK610.out) hb)
            have n7_ := Xam (Xbb (g := gb611) (o := .cells #[.int .i64 a1_0, .int .i64 a1_1, .int .i64 a1_2, .slice A1_3 l1_3.length c1_3] 64 (0, 0)) (by (with_reducible repeat (first | refine Xkn ?_ _ | refine Xkd ?_ | refine Xka ?_ _)); exact BK611.out) hb)
            have n8_ := Xam (Xbb (g := gb633) (o := .cells #[.int .i64 t627, .int .i64 t628, .int .i64 t629, .slice Ao119 t630.length co119] 67 (0, 0)) (by (with_reducible repeat (first | refine Xkn ?_ _ | refine Xkd ?_ | refine Xka ?_ _)); exact BK633.out) hb)
            have n9_ := Xam (Xbb (g := gb640) (o := .cells #[.int .i64 t634, .int .i64 t635, .int .i64 t636, .slice Ao127 t637.length co127] 67 (0, 0)) (by (with_reducible repeat (first | refine Xkn ?_ _ | refine Xkd ?_ | refine Xka ?_ _)); exact BK640.out) hb)
            have n10_ := Xam (Xbt (by repeat (first | (with_reducible first | exact HB.out | apply Xba | apply Xbn | apply Xbd | refine Xbe ?_ GE610.out | refine Xbe ?_ GE611.out | refine Xbe ?_ GE633.out | refine Xbe ?_ GE640.out) | exact HB.out)) hb)
            clear HO619
            clear HO625
            clear HO632
            clear HO639
            clear HO647
            clear BK610
            clear BK611
            clear BK633
            clear BK640
            clear HB
            have HO619 := n0_
            have HO625 := n1_
            have HO632 := n2_
            have HO639 := n3_
            have HO647 := n4_
            have HO654 := n5_
            have BK610 := n6_
            have BK611 := n7_
            have BK633 := n8_
            have BK640 := n9_
            have HB := n10_
            clear n0_ n1_ n2_ n3_ n4_ n5_ n6_ n7_ n8_ n9_ n10_
            (try clear hb)
            (try clear hb2)
            (try clear hk)
            (try clear hi)
            (try clear ho0)
            obtain ⟨Ao136, co136, eo136⟩ := Kd.R_slice HO654.out
            (first | subst eo136 | (injection eo136 with f1_ f2_ f3_; have f4_ := f1_.symm; have f5_ := f3_.symm; clear f1_ f2_ f3_; subst f4_; subst f5_))
            refine hK.out _ _ ⟨(Xbc BK640.out 0).trans rfl, (Xbc BK640.out 1).trans rfl, (Xbc BK640.out 2).trans rfl, (Xbc BK640.out 3).trans rfl, (Xbc BK611.out 0).trans rfl, (Xbc BK611.out 1).trans rfl, (Xbc BK611.out 2).trans rfl, (Xbc BK611.out 3).trans rfl⟩ (fun hHeld => ?_)
            clear hK K
            refine norm_ (a' := ?_) ?_ ?_
            rotate_left
            · show Act.put _ (some 42) _ = _
              simp only [Act.put, List.setIfInBounds_toArray, List.set_cons_zero, List.set_cons_succ, i64_w, i32_w]
              rfl
            refine one_ (i := 3) (N := some 43) #[true, true, true, true, false] rfl rfl (by kernel_rfl) (by decide) (fun K hK => ?_)
            refine goes_ Try.func51 (by kernel_rfl) rfl #[.agg #[.int .i64 t634, .int .i64 t635, .int .i64 t636, .slice Ao127 t637.length co127], .agg #[.int .i64 t649, .int .i64 t650, .int .i64 t651, .slice Ao136 t652.length co136]] (by rfl) rfl rfl (by (try simp only [List.map_toArray, List.map_cons, List.map_nil]); first | done | rfl | (simp only [List.length_drop, List.length_take]; rfl)) ?_
            with_reducible refine (laws_eqSenderGroup.calls k t634 t635 t636 _ _ t637 t649 t650 t651 _ _ t652 false _ ?side1 ?side2 ?side3 ?side4 A60.out).mono ?_
            (case side1 => repeat (first | exact (Kd.R_reads' HO639.out).2.2 | (with_reducible refine Xca ?_ _) | (with_reducible refine Xcn ?_ _) | (with_reducible refine Xcd ?_)))
            (case side2 => exact (Kd.R_reads' HO639.out).2.1)
            (case side3 => repeat (first | exact (Kd.R_reads' HO654.out).2.2 | (with_reducible refine Xca ?_ _) | (with_reducible refine Xcn ?_ _) | (with_reducible refine Xcd ?_)))
            (case side4 => exact (Kd.R_reads' HO654.out).2.1)
            rintro e w137 ⟨rfl, hb⟩
            refine ⟨_, rfl, ?_⟩
            have n0_ := Xam (Kd.R_below (by (with_reducible repeat (first | apply Xra | apply Xrn | apply Xrd)); exact HO619.out) hb)
            have n1_ := Xam (Kd.R_below (by (with_reducible repeat (first | apply Xra | apply Xrn | apply Xrd)); exact HO625.out) hb)
            have n2_ := Xam (Kd.R_below (by (with_reducible repeat (first | apply Xra | apply Xrn | apply Xrd)); exact HO632.out) hb)
            have n3_ := Xam (Kd.R_below (by (with_reducible repeat (first | apply Xra | apply Xrn | apply Xrd)); exact HO639.out) hb)
            have n4_ := Xam (Kd.R_below (by (with_reducible repeat (first | apply Xra | apply Xrn | apply Xrd)); exact HO647.out) hb)
            have n5_ := Xam (Kd.R_below (by (with_reducible repeat (first | apply Xra | apply Xrn | apply Xrd)); exact HO654.out) hb)
            have n6_ := Xam (Xbb (g := gb610) (o := .cells #[.int .i64 a0_0, .int .i64 a0_1, .int .i64 a0_2, .slice A0_3 l0_3.length c0_3] 64 (0, 0)) (by (with_reducible repeat (first | refine Xkn ?_ _ | refine Xkd ?_ | refine Xka ?_ _)); exact BK610.out) hb)
            have n7_ := Xam (Xbb (g := gb611) (o := .cells #[.int .i64 a1_0, .int .i64 a1_1, .int .i64 a1_2, .slice A1_3 l1_3.length c1_3] 64 (0, 0)) (by (with_reducible repeat (first | refine Xkn ?_ _ | refine Xkd ?_ | refine Xka ?_ _)); exact BK611.out) hb)
            have n8_ := Xam (Xbb (g := gb633) (o := .cells #[.int .i64 t627, .int .i64 t628, .int .i64 t629, .slice Ao119 t630.length co119] 67 (0, 0)) (by (with_reducible repeat (first | refine Xkn ?_ _ | refine Xkd ?_ | refine Xka ?_ _)); exact BK633.out) hb)
            have n9_ := Xam (Xbb (g := gb640) (o := .cells #[.int .i64 t634, .int .i64 t635, .int .i64 t636, .slice Ao127 t637.length co127] 67 (0, 0)) (by (with_reducible repeat (first | refine Xkn ?_ _ | refine Xkd ?_ | refine Xka ?_ _)); exact BK640.out) hb)
            have n10_ := Xam (Xbt (by repeat (first | (with_reducible first | exact HB.out | apply Xba | apply Xbn | apply Xbd | refine Xbe ?_ GE610.out | refine Xbe ?_ GE611.out | refine Xbe ?_ GE633.out | refine Xbe ?_ GE640.out) | exact HB.out)) hb)
            clear HO619
            clear HO625
            clear HO632
            clear HO639
            clear HO647
            clear HO654
            clear BK610
            clear BK611
            clear BK633
            clear BK640
            clear HB
            have HO619 := n0_
            have HO625 := n1_
            have HO632 := n2_
            have HO639 := n3_
            have HO647 := n4_
            have HO654 := n5_
            have BK610 := n6_
            have BK611 := n7_
            have BK633 := n8_
            have BK640 := n9_
            have HB := n10_
            clear n0_ n1_ n2_ n3_ n4_ n5_ n6_ n7_ n8_ n9_ n10_
            (try clear hb)
            (try clear hb2)
            (try clear hk)
            (try clear hi)
            refine hK.out _ _ ⟨(Xbc BK640.out 0).trans rfl, (Xbc BK640.out 1).trans rfl, (Xbc BK640.out 2).trans rfl, (Xbc BK640.out 3).trans rfl, (Xbc BK611.out 0).trans rfl, (Xbc BK611.out 1).trans rfl, (Xbc BK611.out 2).trans rfl, (Xbc BK611.out 3).trans rfl⟩ (fun hHeld => ?_)
            clear hK K
            refine norm_ (a' := ?_) ?_ ?_
            rotate_left
            · show Act.put _ (some 43) _ = _
              simp only [Act.put, List.setIfInBounds_toArray, List.set_cons_zero, List.set_cons_succ, i64_w, i32_w]
              rfl
            refine pure_ (i := 4) (N := some 44) (v := ?_) (a' := ?_) #[true, true, true, true, true] rfl rfl (by kernel_rfl) (fun _ _ _ h => h) (Or.inl ⟨by rfl, ?_⟩) ?_ ?_
            rotate_left
            · intro w'
              go_simp
              with_reducible rfl
            rotate_left
            · simp only [Act.put, List.setIfInBounds_toArray, List.set_cons_zero, List.set_cons_succ, i64_w, i32_w]
              rfl
            refine done_ (by kernel_rfl) ?_
            try go_wp2
            go_ret
            exact ⟨by first | rfl | (simp [errW_none, errW_some] <;> rfl) | (simp [*, errW_none, errW_some] <;> rfl), by repeat (first | (with_reducible first | exact HB.out | apply Xba | apply Xbn | apply Xbd | refine Xbe ?_ GE610.out | refine Xbe ?_ GE611.out | refine Xbe ?_ GE633.out | refine Xbe ?_ GE640.out) | exact HB.out)⟩
        · replace c58 := Bool.eq_false_iff.mpr c58
          subst c58
          have H1 : (some false) = some r := by rw [if_neg (show ¬ (false = true) by decide)] at H; exact H
          clear H
          have H := H1
          clear H1
          obtain rfl := Option.some.inj H
          go_enter Try.func13, Try.ntmps13
          try go_wp2_with (first | ((with_reducible refine gate_dst (N := 2) rfl ?_); refine box_event ?hg (N := 2) ?hd (cs := #[.int .i64 a0_0, .int .i64 a0_1, .int .i64 a0_2, .slice A0_3 l0_3.length c0_3]) (t := 64) ?hr ?_; (case hd => rfl); (case hg => rfl); (case hr => first | (go_simp; done) | (go_simp; rfl)); intro gb610 hg w138 hbox hb; have n0_ := Xam (Xbt (by repeat (first | (with_reducible first | exact HB.out | apply Xba | apply Xbn | apply Xbd) | exact HB.out)) hb); have n1_ := Xam (hbox); have n2_ := Xam ((by rw [hg]; exact (Xbs (by repeat (first | (with_reducible first | exact HB.out | apply Xba | apply Xbn | apply Xbd) | exact HB.out))) : w.heap.size ≤ gb610)); have n3_ := Xam ((by rw [hg]; exact (Xbs (by repeat (first | (with_reducible first | exact HB.out | apply Xba | apply Xbn | apply Xbd) | exact HB.out))) : w.heap.size ≤ gb610)); clear HB; have HB := n0_; have BK610 := n1_; have GW610 := n2_; have GE610 := n3_; clear n0_ n1_ n2_ n3_; clear hb hbox hg) | ((with_reducible refine gate_dst (N := 3) rfl ?_); refine box_event ?hg (N := 3) ?hd (cs := #[.int .i64 a1_0, .int .i64 a1_1, .int .i64 a1_2, .slice A1_3 l1_3.length c1_3]) (t := 64) ?hr ?_; (case hd => rfl); (case hg => rfl); (case hr => first | (go_simp; done) | (go_simp; rfl)); intro gb611 hg w139 hbox hb; have n0_ := Xam (Xbb (g := gb610) (o := .cells #[.int .i64 a0_0, .int .i64 a0_1, .int .i64 a0_2, .slice A0_3 l0_3.length c0_3] 64 (0, 0)) (by (with_reducible repeat (first | refine Xkn ?_ _ | refine Xkd ?_ | refine Xka ?_ _)); exact BK610.out) hb); have n1_ := Xam (Xbt (by repeat (first | (with_reducible first | exact HB.out | apply Xba | apply Xbn | apply Xbd | refine Xbe ?_ GE610.out) | exact HB.out)) hb); have n2_ := Xam (hbox); have n3_ := Xam ((by rw [hg]; exact (Xbs (by repeat (first | (with_reducible first | exact HB.out | apply Xba | apply Xbn | apply Xbd | refine Xbe ?_ GE610.out) | exact HB.out))) : w.heap.size ≤ gb611)); have n4_ := Xam ((by rw [hg]; exact (Xbs (by repeat (first | (with_reducible first | exact HB.out | apply Xba | apply Xbn | apply Xbd | refine Xbe ?_ GE610.out) | exact HB.out))) : w.heap.size ≤ gb611)); have n5_ := Xam ((by rw [hg]; exact Nat.ne_of_lt (Xbl (g := gb610) (o := .cells #[.int .i64 a0_0, .int .i64 a0_1, .int .i64 a0_2, .slice A0_3 l0_3.length c0_3] 64 (0, 0)) (by (with_reducible repeat (first | refine Xkn ?_ _ | refine Xkd ?_ | refine Xka ?_ _)); exact BK610.out)) : gb610 ≠ gb611)); have n6_ := Xam ((by rw [hg]; exact Nat.ne_of_gt (Xbl (g := gb610) (o := .cells #[.int .i64 a0_0, .int .i64 a0_1, .int .i64 a0_2, .slice A0_3 l0_3.length c0_3] 64 (0, 0)) (by (with_reducible repeat (first | refine Xkn ?_ _ | refine Xkd ?_ | refine Xka ?_ _)); exact BK610.out)) : gb611 ≠ gb610)); clear BK610; clear HB; have BK610 := n0_; have HB := n1_; have BK611 := n2_; have GW611 := n3_; have GE611 := n4_; have NB610_611 := n5_; have NB611_610 := n6_; clear n0_ n1_ n2_ n3_ n4_ n5_ n6_; clear hb hbox hg; have hnb140 := NB610_611.out; have hnc140 := NB611_610.out; have hcz141_0 : w139.cell? ⟨gb610, 0, none⟩ = some (.int .i64 a0_0) := (Xbc BK610.out 0).trans rfl; have hcz141_1 : w139.cell? ⟨gb610, 1, none⟩ = some (.int .i64 a0_1) := (Xbc BK610.out 1).trans rfl; have hcz141_2 : w139.cell? ⟨gb610, 2, none⟩ = some (.int .i64 a0_2) := (Xbc BK610.out 2).trans rfl; have hcz141_3 : w139.cell? ⟨gb610, 3, none⟩ = some (.slice A0_3 l0_3.length c0_3) := (Xbc BK610.out 3).trans rfl; have hfz141_0 := Xbf BK610.out 0; have hfz141_1 := Xbf BK610.out 1; have hfz141_2 := Xbf BK610.out 2; have hfz141_3 := Xbf BK610.out 3) | ((with_reducible refine gate_callee (f := 47) rfl ?_); refine goesL_ (some 12) rfl rfl Try.func47 (by kernel_rfl) rfl #[.agg #[.int .i64 a0_0, .int .i64 a0_1, .int .i64 a0_2, .slice A0_3 l0_3.length c0_3], .int .i64 1048576] rfl (by (try simp only [List.map_toArray, List.map_cons, List.map_nil]); first | done | rfl | (simp only [List.length_drop, List.length_take]; rfl)) ?_; (with_reducible refine (laws_szSenderGroup.calls a0_0 a0_1 a0_2 _ _ l0_3 1048576 t612 _ ?side1 ?side2 A3.out).mono ?_); (case side1 => repeat (first | exact (Kd.C_below HR0_3.out HB.out) | (with_reducible refine Xca ?_ _) | (with_reducible refine Xcn ?_ _) | (with_reducible refine Xcd ?_))); (case side2 => exact HC0_3.out); rintro e w142 ⟨rfl, hb⟩; refine ⟨_, rfl, ?_⟩; have n0_ := Xam (Xbb (g := gb610) (o := .cells #[.int .i64 a0_0, .int .i64 a0_1, .int .i64 a0_2, .slice A0_3 l0_3.length c0_3] 64 (0, 0)) (by (with_reducible repeat (first | refine Xkn ?_ _ | refine Xkd ?_ | refine Xka ?_ _)); exact BK610.out) hb); have n1_ := Xam (Xbb (g := gb611) (o := .cells #[.int .i64 a1_0, .int .i64 a1_1, .int .i64 a1_2, .slice A1_3 l1_3.length c1_3] 64 (0, 0)) (by (with_reducible repeat (first | refine Xkn ?_ _ | refine Xkd ?_ | refine Xka ?_ _)); exact BK611.out) hb); have n2_ := Xam (Xbt (by repeat (first | (with_reducible first | exact HB.out | apply Xba | apply Xbn | apply Xbd | refine Xbe ?_ GE610.out | refine Xbe ?_ GE611.out) | exact HB.out)) hb); clear BK610; clear BK611; clear HB; have BK610 := n0_; have BK611 := n1_; have HB := n2_; clear n0_ n1_ n2_; (try clear hb); (try clear hb2); (try clear hk); (try clear hi); have hcz143_0 : w142.cell? ⟨gb611, 0, none⟩ = some (.int .i64 a1_0) := (Xbc BK611.out 0).trans rfl; have hcz143_1 : w142.cell? ⟨gb611, 1, none⟩ = some (.int .i64 a1_1) := (Xbc BK611.out 1).trans rfl; have hcz143_2 : w142.cell? ⟨gb611, 2, none⟩ = some (.int .i64 a1_2) := (Xbc BK611.out 2).trans rfl; have hcz143_3 : w142.cell? ⟨gb611, 3, none⟩ = some (.slice A1_3 l1_3.length c1_3) := (Xbc BK611.out 3).trans rfl; have hfz143_0 := Xbf BK611.out 0; have hfz143_1 := Xbf BK611.out 1; have hfz143_2 := Xbf BK611.out 2; have hfz143_3 := Xbf BK611.out 3) | ((with_reducible refine gate_callee (f := 47) rfl ?_); refine goesL_ (some 17) rfl rfl Try.func47 (by kernel_rfl) rfl #[.agg #[.int .i64 a1_0, .int .i64 a1_1, .int .i64 a1_2, .slice A1_3 l1_3.length c1_3], .int .i64 t612] rfl (by (try simp only [List.map_toArray, List.map_cons, List.map_nil]); first | done | rfl | (simp only [List.length_drop, List.length_take]; rfl)) ?_; (with_reducible refine (laws_szSenderGroup.calls a1_0 a1_1 a1_2 _ _ l1_3 t612 t613 _ ?side1 ?side2 A10.out).mono ?_); (case side1 => repeat (first | exact (Kd.C_below HR1_3.out HB.out) | (with_reducible refine Xca ?_ _) | (with_reducible refine Xcn ?_ _) | (with_reducible refine Xcd ?_))); (case side2 => exact HC1_3.out); rintro e w144 ⟨rfl, hb⟩; refine ⟨_, rfl, ?_⟩; have n0_ := Xam (Xbb (g := gb610) (o := .cells #[.int .i64 a0_0, .int .i64 a0_1, .int .i64 a0_2, .slice A0_3 l0_3.length c0_3] 64 (0, 0)) (by (with_reducible repeat (first | refine Xkn ?_ _ | refine Xkd ?_ | refine Xka ?_ _)); exact BK610.out) hb); have n1_ := Xam (Xbb (g := gb611) (o := .cells #[.int .i64 a1_0, .int .i64 a1_1, .int .i64 a1_2, .slice A1_3 l1_3.length c1_3] 64 (0, 0)) (by (with_reducible repeat (first | refine Xkn ?_ _ | refine Xkd ?_ | refine Xka ?_ _)); exact BK611.out) hb); have n2_ := Xam (Xbt (by repeat (first | (with_reducible first | exact HB.out | apply Xba | apply Xbn | apply Xbd | refine Xbe ?_ GE610.out | refine Xbe ?_ GE611.out) | exact HB.out)) hb); clear BK610; clear BK611; clear HB; have BK610 := n0_; have BK611 := n1_; have HB := n2_; clear n0_ n1_ n2_; (try clear hb); (try clear hb2); (try clear hk); (try clear hi)))
          have n0_ := Xam (Xkd BK610.out)
          have n1_ := Xam (Xkd BK611.out)
          have n2_ := Xam (Xbd HB.out)
          clear BK610
          clear BK611
          clear HB
          have BK610 := n0_
          have BK611 := n1_
          have HB := n2_
          clear n0_ n1_ n2_
          refine start_ (n := 6) (S := fun w' => w'.cell? ⟨gb610, 0, none⟩ = some (.int .i64 a0_0) ∧ w'.cell? ⟨gb610, 1, none⟩ = some (.int .i64 a0_1) ∧ w'.cell? ⟨gb610, 2, none⟩ = some (.int .i64 a0_2) ∧ w'.cell? ⟨gb610, 3, none⟩ = some (.slice A0_3 l0_3.length c0_3) ∧ w'.cell? ⟨gb611, 0, none⟩ = some (.int .i64 a1_0) ∧ w'.cell? ⟨gb611, 1, none⟩ = some (.int .i64 a1_1) ∧ w'.cell? ⟨gb611, 2, none⟩ = some (.int .i64 a1_2) ∧ w'.cell? ⟨gb611, 3, none⟩ = some (.slice A1_3 l1_3.length c1_3)) (ds := []) #[false, false, false, false, false, false] (by kernel_rfl) rfl rfl ⟨(Xbc BK610.out 0).trans rfl, (Xbc BK610.out 1).trans rfl, (Xbc BK610.out 2).trans rfl, (Xbc BK610.out 3).trans rfl, (Xbc BK611.out 0).trans rfl, (Xbc BK611.out 1).trans rfl, (Xbc BK611.out 2).trans rfl, (Xbc BK611.out 3).trans rfl⟩ (fun hHeld => ?_)
          generalize w144.drew = w145 at BK610 BK611 HB hHeld ⊢
          refine take_ (i := 0) (N := some 20) (v := ?_) (a' := ?_) #[true, false, false, false, false, false] rfl rfl (by kernel_rfl) (fun _ _ _ h => h) (Or.inl ⟨by rfl, ?_⟩) hHeld ?_ ?_
          rotate_left
          · rintro w' ⟨s0, s1, s2, s3, s4, s5, s6, s7⟩
            go_simp
            with_reducible rfl
          rotate_left
          · simp only [Act.put, List.setIfInBounds_toArray, List.set_cons_zero, List.set_cons_succ, i64_w, i32_w]
            rfl
          refine take_ (i := 2) (N := some 22) (v := ?_) (a' := ?_) #[true, false, true, false, false, false] rfl rfl (by kernel_rfl) (fun _ _ _ h => h) (Or.inl ⟨by rfl, ?_⟩) hHeld ?_ ?_
          rotate_left
          · rintro w' ⟨s0, s1, s2, s3, s4, s5, s6, s7⟩
            go_simp
            with_reducible rfl
          rotate_left
          · simp only [Act.put, List.setIfInBounds_toArray, List.set_cons_zero, List.set_cons_succ, i64_w, i32_w]
            rfl
          refine one_ (i := 1) (N := some 21) #[true, true, true, false, false, false] rfl rfl (by kernel_rfl) (by decide) (fun K hK => ?_)
          refine goes_ Try.func49 (by kernel_rfl) rfl #[.agg #[.int .i64 a0_0, .int .i64 a0_1, .int .i64 a0_2, .slice A0_3 l0_3.length c0_3]] (by rfl) rfl rfl (by (try simp only [List.map_toArray, List.map_cons, List.map_nil]); first | done | rfl | (simp only [List.length_drop, List.length_take]; rfl)) ?_
          with_reducible refine (laws_toSenderGroup.calls k a0_0 a0_1 a0_2 _ _ l0_3 t614 t615 t616 t617 _ ?side1 ?side2 A19.out).mono ?_
          (case side1 => repeat (first | exact (Kd.C_below HR0_3.out HB.out) | (with_reducible refine Xca ?_ _) | (with_reducible refine Xcn ?_ _) | (with_reducible refine Xcd ?_)))
          (case side2 => exact HC0_3.out)
          rintro e w146 ⟨v618, rfl, ho0, hb⟩
          refine ⟨_, rfl, ?_⟩
          have n0_ := Xam (Kd.R_lower ho0 (Xbs (by repeat (first | (with_reducible first | exact HB.out | apply Xba | apply Xbn | apply Xbd | refine Xbe ?_ GE610.out | refine Xbe ?_ GE611.out) | exact HB.out))))
          have n1_ := Xam (Xbb (g := gb610) (o := .cells #[.int .i64 a0_0, .int .i64 a0_1, .int .i64 a0_2, .slice A0_3 l0_3.length c0_3] 64 (0, 0)) (by (with_reducible repeat (first | refine Xkn ?_ _ | refine Xkd ?_ | refine Xka ?_ _)); exact BK610.out) hb)
          have n2_ := Xam (Xbb (g := gb611) (o := .cells #[.int .i64 a1_0, .int .i64 a1_1, .int .i64 a1_2, .slice A1_3 l1_3.length c1_3] 64 (0, 0)) (by (with_reducible repeat (first | refine Xkn ?_ _ | refine Xkd ?_ | refine Xka ?_ _)); exact BK611.out) hb)
          have n3_ := Xam (Xbt (by repeat (first | (with_reducible first | exact HB.out | apply Xba | apply Xbn | apply Xbd | refine Xbe ?_ GE610.out | refine Xbe ?_ GE611.out) | exact HB.out)) hb)
          clear BK610
          clear BK611
          clear HB
          have HO619 := n0_
          have BK610 := n1_
          have BK611 := n2_
          have HB := n3_
          clear n0_ n1_ n2_ n3_
          (try clear hb)
          (try clear hb2)
          (try clear hk)
          (try clear hi)
          (try clear ho0)
          refine hK.out _ _ ⟨(Xbc BK610.out 0).trans rfl, (Xbc BK610.out 1).trans rfl, (Xbc BK610.out 2).trans rfl, (Xbc BK610.out 3).trans rfl, (Xbc BK611.out 0).trans rfl, (Xbc BK611.out 1).trans rfl, (Xbc BK611.out 2).trans rfl, (Xbc BK611.out 3).trans rfl⟩ (fun hHeld => ?_)
          clear hK K
          refine norm_ (a' := ?_) ?_ ?_
          rotate_left
          · show Act.put _ (some 21) _ = _
            simp only [Act.put, List.setIfInBounds_toArray, List.set_cons_zero, List.set_cons_succ, i64_w, i32_w]
            rfl
          refine one_ (i := 3) (N := some 23) #[true, true, true, true, false, false] rfl rfl (by kernel_rfl) (by decide) (fun K hK => ?_)
          refine goes_ Try.func49 (by kernel_rfl) rfl #[.agg #[.int .i64 a1_0, .int .i64 a1_1, .int .i64 a1_2, .slice A1_3 l1_3.length c1_3]] (by rfl) rfl rfl (by (try simp only [List.map_toArray, List.map_cons, List.map_nil]); first | done | rfl | (simp only [List.length_drop, List.length_take]; rfl)) ?_
          with_reducible refine (laws_toSenderGroup.calls k a1_0 a1_1 a1_2 _ _ l1_3 t620 t621 t622 t623 _ ?side1 ?side2 A20.out).mono ?_
          (case side1 => repeat (first | exact (Kd.C_below HR1_3.out HB.out) | (with_reducible refine Xca ?_ _) | (with_reducible refine Xcn ?_ _) | (with_reducible refine Xcd ?_)))
          (case side2 => exact HC1_3.out)
          rintro e w147 ⟨v624, rfl, ho0, hb⟩
          refine ⟨_, rfl, ?_⟩
          have n0_ := Xam (Kd.R_elder' (by (with_reducible repeat (first | apply Xra | apply Xrn | apply Xrd)); exact HO619.out) (Kd.R_base ho0) hb)
          have n1_ := Xam (Kd.R_lower (Kd.R_new' ho0 (Kd.R_lt (by (with_reducible repeat (first | apply Xra | apply Xrn | apply Xrd)); exact HO619.out))) (Xbs (by repeat (first | (with_reducible first | exact HB.out | apply Xba | apply Xbn | apply Xbd | refine Xbe ?_ GE610.out | refine Xbe ?_ GE611.out) | exact HB.out))))
          have n2_ := Xam (Xbb (g := gb610) (o := .cells #[.int .i64 a0_0, .int .i64 a0_1, .int .i64 a0_2, .slice A0_3 l0_3.length c0_3] 64 (0, 0)) (by (with_reducible repeat (first | refine Xkn ?_ _ | refine Xkd ?_ | refine Xka ?_ _)); exact BK610.out) hb)
          have n3_ := Xam (Xbb (g := gb611) (o := .cells #[.int .i64 a1_0, .int .i64 a1_1, .int .i64 a1_2, .slice A1_3 l1_3.length c1_3] 64 (0, 0)) (by (with_reducible repeat (first | refine Xkn ?_ _ | refine Xkd ?_ | refine Xka ?_ _)); exact BK611.out) hb)
          have n4_ := Xam (Xbt (by repeat (first | (with_reducible first | exact HB.out | apply Xba | apply Xbn | apply Xbd | refine Xbe ?_ GE610.out | refine Xbe ?_ GE611.out) | exact HB.out)) hb)
          clear HO619
          clear BK610
          clear BK611
          clear HB
          have HO619 := n0_
          have HO625 := n1_
          have BK610 := n2_
          have BK611 := n3_
          have HB := n4_
          clear n0_ n1_ n2_ n3_ n4_
          (try clear hb)
          (try clear hb2)
          (try clear hk)
          (try clear hi)
          (try clear ho0)
          obtain ⟨Ao148, co148, eo148⟩ := Kd.R_slice HO619.out
          (first | subst eo148 | (injection eo148 with f1_ f2_ f3_; have f4_ := f1_.symm; have f5_ := f3_.symm; clear f1_ f2_ f3_; subst f4_; subst f5_))
          obtain ⟨Ao149, co149, eo149⟩ := Kd.R_slice HO625.out
          (first | subst eo149 | (injection eo149 with f1_ f2_ f3_; have f4_ := f1_.symm; have f5_ := f3_.symm; clear f1_ f2_ f3_; subst f4_; subst f5_))
          refine hK.out _ _ ⟨(Xbc BK610.out 0).trans rfl, (Xbc BK610.out 1).trans rfl, (Xbc BK610.out 2).trans rfl, (Xbc BK610.out 3).trans rfl, (Xbc BK611.out 0).trans rfl, (Xbc BK611.out 1).trans rfl, (Xbc BK611.out 2).trans rfl, (Xbc BK611.out 3).trans rfl⟩ (fun hHeld => ?_)
          clear hK K
          refine norm_ (a' := ?_) ?_ ?_
          rotate_left
          · show Act.put _ (some 23) _ = _
            simp only [Act.put, List.setIfInBounds_toArray, List.set_cons_zero, List.set_cons_succ, i64_w, i32_w]
            rfl
          refine one_ (i := 4) (N := some 24) #[true, true, true, true, true, false] rfl rfl (by kernel_rfl) (by decide) (fun K hK => ?_)
          refine goes_ Try.func48 (by kernel_rfl) rfl #[.agg #[.int .i64 t614, .int .i64 t615, .int .i64 t616, .slice Ao148 t617.length co148], .agg #[.int .i64 t620, .int .i64 t621, .int .i64 t622, .slice Ao149 t623.length co149]] (by rfl) rfl rfl (by (try simp only [List.map_toArray, List.map_cons, List.map_nil]); first | done | rfl | (simp only [List.length_drop, List.length_take]; rfl)) ?_
          with_reducible refine (spec_EqualGroups.calls k t614 t615 t616 _ _ t617 t620 t621 t622 _ _ t623 t626 _ ?side1 ?side2 ?side3 ?side4 A21.out).mono ?_
          (case side1 => repeat (first | exact (Kd.R_reads' HO619.out).2.2 | (with_reducible refine Xca ?_ _) | (with_reducible refine Xcn ?_ _) | (with_reducible refine Xcd ?_)))
          (case side2 => exact (Kd.R_reads' HO619.out).2.1)
          (case side3 => repeat (first | exact (Kd.R_reads' HO625.out).2.2 | (with_reducible refine Xca ?_ _) | (with_reducible refine Xcn ?_ _) | (with_reducible refine Xcd ?_)))
          (case side4 => exact (Kd.R_reads' HO625.out).2.1)
          rintro e w150 ⟨rfl, hb⟩
          refine ⟨_, rfl, ?_⟩
          have n0_ := Xam (Kd.R_below (by (with_reducible repeat (first | apply Xra | apply Xrn | apply Xrd)); exact HO619.out) hb)
          have n1_ := Xam (Kd.R_below (by (with_reducible repeat (first | apply Xra | apply Xrn | apply Xrd)); exact HO625.out) hb)
          have n2_ := Xam (Xbb (g := gb610) (o := .cells #[.int .i64 a0_0, .int .i64 a0_1, .int .i64 a0_2, .slice A0_3 l0_3.length c0_3] 64 (0, 0)) (by (with_reducible repeat (first | refine Xkn ?_ _ | refine Xkd ?_ | refine Xka ?_ _)); exact BK610.out) hb)
          have n3_ := Xam (Xbb (g := gb611) (o := .cells #[.int .i64 a1_0, .int .i64 a1_1, .int .i64 a1_2, .slice A1_3 l1_3.length c1_3] 64 (0, 0)) (by (with_reducible repeat (first | refine Xkn ?_ _ | refine Xkd ?_ | refine Xka ?_ _)); exact BK611.out) hb)
          have n4_ := Xam (Xbt (by repeat (first | (with_reducible first | exact HB.out | apply Xba | apply Xbn | apply Xbd | refine Xbe ?_ GE610.out | refine Xbe ?_ GE611.out) | exact HB.out)) hb)
          clear HO619
          clear HO625
          clear BK610
          clear BK611
          clear HB
          have HO619 := n0_
          have HO625 := n1_
          have BK610 := n2_
          have BK611 := n3_
          have HB := n4_
          clear n0_ n1_ n2_ n3_ n4_
          (try clear hb)
          (try clear hb2)
          (try clear hk)
          (try clear hi)
          refine hK.out _ _ ⟨(Xbc BK610.out 0).trans rfl, (Xbc BK610.out 1).trans rfl, (Xbc BK610.out 2).trans rfl, (Xbc BK610.out 3).trans rfl, (Xbc BK611.out 0).trans rfl, (Xbc BK611.out 1).trans rfl, (Xbc BK611.out 2).trans rfl, (Xbc BK611.out 3).trans rfl⟩ (fun hHeld => ?_)
          clear hK K
          refine norm_ (a' := ?_) ?_ ?_
          rotate_left
          · show Act.put _ (some 24) _ = _
            simp only [Act.put, List.setIfInBounds_toArray, List.set_cons_zero, List.set_cons_succ, i64_w, i32_w]
            rfl
          refine pure_ (i := 5) (N := some 6) (v := ?_) (a' := ?_) #[true, true, true, true, true, true] rfl rfl (by kernel_rfl) (fun _ _ _ h => h) (Or.inl ⟨by rfl, ?_⟩) ?_ ?_
          rotate_left
          · intro w'
            go_simp
            with_reducible rfl
          rotate_left
          · simp only [Act.put, List.setIfInBounds_toArray, List.set_cons_zero, List.set_cons_succ, i64_w, i32_w]
            rfl
          refine done_ (by kernel_rfl) ?_
          have hcz151_0 : w150.cell? ⟨gb610, 0, none⟩ = some (.int .i64 a0_0) := (Xbc BK610.out 0).trans rfl
          have hcz151_1 : w150.cell? ⟨gb610, 1, none⟩ = some (.int .i64 a0_1) := (Xbc BK610.out 1).trans rfl
          have hcz151_2 : w150.cell? ⟨gb610, 2, none⟩ = some (.int .i64 a0_2) := (Xbc BK610.out 2).trans rfl
          have hcz151_3 : w150.cell? ⟨gb610, 3, none⟩ = some (.slice A0_3 l0_3.length c0_3) := (Xbc BK610.out 3).trans rfl
          have hfz151_0 := Xbf BK610.out 0
          have hfz151_1 := Xbf BK610.out 1
          have hfz151_2 := Xbf BK610.out 2
          have hfz151_3 := Xbf BK610.out 3
          try go_wp2_with (first | ((with_reducible refine gate_callee (f := 49) rfl ?_); refine goesL_ (some 26) rfl rfl Try.func49 (by kernel_rfl) rfl #[.agg #[.int .i64 a0_0, .int .i64 a0_1, .int .i64 a0_2, .slice A0_3 l0_3.length c0_3]] rfl (by (try simp only [List.map_toArray, List.map_cons, List.map_nil]); first | done | rfl | (simp only [List.length_drop, List.length_take]; rfl)) ?_; (with_reducible refine (laws_toSenderGroup.calls k a0_0 a0_1 a0_2 _ _ l0_3 t627 t628 t629 t630 _ ?side1 ?side2 A22.out).mono ?_); (case side1 => repeat (first | exact (Kd.C_below HR0_3.out HB.out) | (with_reducible refine Xca ?_ _) | (with_reducible refine Xcn ?_ _) | (with_reducible refine Xcd ?_))); (case side2 => exact HC0_3.out); rintro e w152 ⟨v631, rfl, ho0, hb⟩; refine ⟨_, rfl, ?_⟩; have n0_ := Xam (Kd.R_elder' (by (with_reducible repeat (first | apply Xra | apply Xrn | apply Xrd)); exact HO619.out) (Kd.R_base ho0) hb); have n1_ := Xam (Kd.R_elder' (by (with_reducible repeat (first | apply Xra | apply Xrn | apply Xrd)); exact HO625.out) (Kd.R_base ho0) hb); have n2_ := Xam (Kd.R_lower (Kd.R_new' (Kd.R_new' ho0 (Kd.R_lt (by (with_reducible repeat (first | apply Xra | apply Xrn | apply Xrd)); exact HO619.out))) (Kd.R_lt (by (with_reducible repeat (first | apply Xra | apply Xrn | apply Xrd)); exact HO625.out))) (Xbs (by repeat (first | (with_reducible first | exact HB.out | apply Xba | apply Xbn | apply Xbd | refine Xbe ?_ GE610.out | refine Xbe ?_ GE611.out) | exact HB.out)))); have n3_ := Xam (Xbb (g := gb610) (o := .cells #[.int .i64 a0_0, .int .i64 a0_1, .int .i64 a0_2, .slice A0_3 l0_3.length c0_3] 64 (0, 0)) (by (with_reducible repeat (first | refine Xkn ?_ _ | refine Xkd ?_ | refine Xka ?_ _)); exact BK610.out) hb); have n4_ := Xam (Xbb (g := gb611) (o := .cells #[.int .i64 a1_0, .int .i64 a1_1, .int .i64 a1_2, .slice A1_3 l1_3.length c1_3] 64 (0, 0)) (by (with_reducible repeat (first | refine Xkn ?_ _ | refine Xkd ?_ | refine Xka ?_ _)); exact BK611.out) hb); have n5_ := Xam (Xbt (by repeat (first | (with_reducible first | exact HB.out | apply Xba | apply Xbn | apply Xbd | refine Xbe ?_ GE610.out | refine Xbe ?_ GE611.out) | exact HB.out)) hb); clear HO619; clear HO625; clear BK610; clear BK611; clear HB; have HO619 := n0_; have HO625 := n1_; have HO632 := n2_; have BK610 := n3_; have BK611 := n4_; have HB := n5_; clear n0_ n1_ n2_ n3_ n4_ n5_; (try clear hb); (try clear hb2); (try clear hk); (try clear hi); (try clear ho0)) | ((with_reducible refine gate_dst (N := 7) rfl ?_); refine box_event ?hg (N := 7) ?hd (cs := #[.int .i64 0, .int .i64 0, .int .i64 0, .slice none 0 0]) (t := 67) ?hr ?_; (case hd => rfl); (case hg => rfl); (case hr => first | (go_simp; done) | (go_simp; rfl)); intro gb633 hg w153 hbox hb; have n0_ := Xam (Kd.R_below (by (with_reducible repeat (first | apply Xra | apply Xrn | apply Xrd)); exact HO619.out) hb); have n1_ := Xam (Kd.R_below (by (with_reducible repeat (first | apply Xra | apply Xrn | apply Xrd)); exact HO625.out) hb); have n2_ := Xam (Kd.R_below (by (with_reducible repeat (first | apply Xra | apply Xrn | apply Xrd)); exact HO632.out) hb); have n3_ := Xam (Xbb (g := gb610) (o := .cells #[.int .i64 a0_0, .int .i64 a0_1, .int .i64 a0_2, .slice A0_3 l0_3.length c0_3] 64 (0, 0)) (by (with_reducible repeat (first | refine Xkn ?_ _ | refine Xkd ?_ | refine Xka ?_ _)); exact BK610.out) hb); have n4_ := Xam (Xbb (g := gb611) (o := .cells #[.int .i64 a1_0, .int .i64 a1_1, .int .i64 a1_2, .slice A1_3 l1_3.length c1_3] 64 (0, 0)) (by (with_reducible repeat (first | refine Xkn ?_ _ | refine Xkd ?_ | refine Xka ?_ _)); exact BK611.out) hb); have n5_ := Xam (Xbt (by repeat (first | (with_reducible first | exact HB.out | apply Xba | apply Xbn | apply Xbd | refine Xbe ?_ GE610.out | refine Xbe ?_ GE611.out) | exact HB.out)) hb); have n6_ := Xam (hbox); have n7_ := Xam ((by rw [hg]; exact (Xbs (by repeat (first | (with_reducible first | exact HB.out | apply Xba | apply Xbn | apply Xbd | refine Xbe ?_ GE610.out | refine Xbe ?_ GE611.out) | exact HB.out))) : w.heap.size ≤ gb633)); have n8_ := Xam ((by rw [hg]; exact (Xbs (by repeat (first | (with_reducible first | exact HB.out | apply Xba | apply Xbn | apply Xbd | refine Xbe ?_ GE610.out | refine Xbe ?_ GE611.out) | exact HB.out))) : w.heap.size ≤ gb633)); have n9_ := Xam ((by rw [hg]; exact Nat.ne_of_lt (Xbl (g := gb610) (o := .cells #[.int .i64 a0_0, .int .i64 a0_1, .int .i64 a0_2, .slice A0_3 l0_3.length c0_3] 64 (0, 0)) (by (with_reducible repeat (first | refine Xkn ?_ _ | refine Xkd ?_ | refine Xka ?_ _)); exact BK610.out)) : gb610 ≠ gb633)); have n10_ := Xam ((by rw [hg]; exact Nat.ne_of_gt (Xbl (g := gb610) (o := .cells #[.int .i64 a0_0, .int .i64 a0_1, .int .i64 a0_2, .slice A0_3 l0_3.length c0_3] 64 (0, 0)) (by (with_reducible repeat (first | refine Xkn ?_ _ | refine Xkd ?_ | refine Xka ?_ _)); exact BK610.out)) : gb633 ≠ gb610)); have n11_ := Xam ((by rw [hg]; exact Nat.ne_of_lt (Xbl (g := gb611) (o := .cells #[.int .i64 a1_0, .int .i64 a1_1, .int .i64 a1_2, .slice A1_3 l1_3.length c1_3] 64 (0, 0)) (by (with_reducible repeat (first | refine Xkn ?_ _ | refine Xkd ?_ | refine Xka ?_ _)); exact BK611.out)) : gb611 ≠ gb633)); have n12_ := Xam ((by rw [hg]; exact Nat.ne_of_gt (Xbl (g := gb611) (o := .cells #[.int .i64 a1_0, .int .i64 a1_1, .int .i64 a1_2, .slice A1_3 l1_3.length c1_3] 64 (0, 0)) (by (with_reducible repeat (first | refine Xkn ?_ _ | refine Xkd ?_ | refine Xka ?_ _)); exact BK611.out)) : gb633 ≠ gb611)); clear HO619; clear HO625; clear HO632; clear BK610; clear BK611; clear HB; have HO619 := n0_; have HO625 := n1_; have HO632 := n2_; have BK610 := n3_; have BK611 := n4_; have HB := n5_; have BK633 := n6_; have GW633 := n7_; have GE633 := n8_; have NB610_633 := n9_; have NB633_610 := n10_; have NB611_633 := n11_; have NB633_611 := n12_; clear n0_ n1_ n2_ n3_ n4_ n5_ n6_ n7_ n8_ n9_ n10_ n11_ n12_; clear hb hbox hg; have hnb154 := NB633_610.out; have hnc154 := NB610_633.out; have hnb155 := NB633_611.out; have hnc155 := NB611_633.out; have hcz156_0 : w153.cell? ⟨gb633, 0, none⟩ = some (.int .i64 0) := (Xbc BK633.out 0).trans rfl; have hcz156_1 : w153.cell? ⟨gb633, 1, none⟩ = some (.int .i64 0) := (Xbc BK633.out 1).trans rfl; have hcz156_2 : w153.cell? ⟨gb633, 2, none⟩ = some (.int .i64 0) := (Xbc BK633.out 2).trans rfl; have hcz156_3 : w153.cell? ⟨gb633, 3, none⟩ = some (.slice none 0 0) := (Xbc BK633.out 3).trans rfl; have hfz156_0 := Xbf BK633.out 0; have hfz156_1 := Xbf BK633.out 1; have hfz156_2 := Xbf BK633.out 2; have hfz156_3 := Xbf BK633.out 3; obtain ⟨Ao157, co157, eo157⟩ := Kd.R_slice HO632.out; subst eo157; have hcz158_0 : w153.cell? ⟨gb611, 0, none⟩ = some (.int .i64 a1_0) := (Xbc BK611.out 0).trans rfl; have hcz158_1 : w153.cell? ⟨gb611, 1, none⟩ = some (.int .i64 a1_1) := (Xbc BK611.out 1).trans rfl; have hcz158_2 : w153.cell? ⟨gb611, 2, none⟩ = some (.int .i64 a1_2) := (Xbc BK611.out 2).trans rfl; have hcz158_3 : w153.cell? ⟨gb611, 3, none⟩ = some (.slice A1_3 l1_3.length c1_3) := (Xbc BK611.out 3).trans rfl; have hfz158_0 := Xbf BK611.out 0; have hfz158_1 := Xbf BK611.out 1; have hfz158_2 := Xbf BK611.out 2; have hfz158_3 := Xbf BK611.out 3) | ((with_reducible refine gate_callee (f := 49) rfl ?_); refine goesL_ (some 28) rfl rfl Try.func49 (by kernel_rfl) rfl #[.agg #[.int .i64 a1_0, .int .i64 a1_1, .int .i64 a1_2, .slice A1_3 l1_3.length c1_3]] rfl (by (try simp only [List.map_toArray, List.map_cons, List.map_nil]); first | done | rfl | (simp only [List.length_drop, List.length_take]; rfl)) ?_; (with_reducible refine (laws_toSenderGroup.calls k a1_0 a1_1 a1_2 _ _ l1_3 t634 t635 t636 t637 _ ?side1 ?side2 A23.out).mono ?_); (case side1 => exact Kd.C_below HR1_3.out (by repeat (first | (with_reducible first | exact HB.out | apply Xba | apply Xbn | apply Xbd | refine Xbe ?_ GE610.out | refine Xbe ?_ GE611.out | refine Xbe ?_ GE633.out) | exact HB.out))); (case side2 => exact HC1_3.out); rintro e w159 ⟨v638, rfl, ho0, hb⟩; refine ⟨_, rfl, ?_⟩; have n0_ := Xam (Kd.R_elder' (by (with_reducible repeat (first | apply Xra | apply Xrn | apply Xrd)); exact (Kd.R_mono (Kd.R_far (p := ⟨gb633, 3, none⟩) (Kd.R_far (p := ⟨gb633, 2, none⟩) (Kd.R_far (p := ⟨gb633, 1, none⟩) (Kd.R_far (p := ⟨gb633, 0, none⟩) (Kd.R_types HO619.out BK633.out (by decide)) (fun _ hk => hk.2) (.int .i64 t627)) (fun _ hk => hk.2) (.int .i64 t628)) (fun _ hk => hk.2) (.int .i64 t629)) (fun _ hk => hk.2) (.slice Ao157 t630.length co157)) (fun _ h_ => h_.1))) (Kd.R_base ho0) hb); have n1_ := Xam (Kd.R_elder' (by (with_reducible repeat (first | apply Xra | apply Xrn | apply Xrd)); exact (Kd.R_mono (Kd.R_far (p := ⟨gb633, 3, none⟩) (Kd.R_far (p := ⟨gb633, 2, none⟩) (Kd.R_far (p := ⟨gb633, 1, none⟩) (Kd.R_far (p := ⟨gb633, 0, none⟩) (Kd.R_types HO625.out BK633.out (by decide)) (fun _ hk => hk.2) (.int .i64 t627)) (fun _ hk => hk.2) (.int .i64 t628)) (fun _ hk => hk.2) (.int .i64 t629)) (fun _ hk => hk.2) (.slice Ao157 t630.length co157)) (fun _ h_ => h_.1))) (Kd.R_base ho0) hb); have n2_ := Xam (Kd.R_elder' (by (with_reducible repeat (first | apply Xra | apply Xrn | apply Xrd)); exact (Kd.R_mono (Kd.R_far (p := ⟨gb633, 3, none⟩) (Kd.R_far (p := ⟨gb633, 2, none⟩) (Kd.R_far (p := ⟨gb633, 1, none⟩) (Kd.R_far (p := ⟨gb633, 0, none⟩) (Kd.R_types HO632.out BK633.out (by decide)) (fun _ hk => hk.2) (.int .i64 t627)) (fun _ hk => hk.2) (.int .i64 t628)) (fun _ hk => hk.2) (.int .i64 t629)) (fun _ hk => hk.2) (.slice Ao157 t630.length co157)) (fun _ h_ => h_.1))) (Kd.R_base ho0) hb); have n3_ := Xam (Kd.R_lower (Kd.R_new' (Kd.R_new' (Kd.R_new' ho0 (Kd.R_lt (by (with_reducible repeat (first | apply Xra | apply Xrn | apply Xrd)); exact (Kd.R_mono (Kd.R_far (p := ⟨gb633, 3, none⟩) (Kd.R_far (p := ⟨gb633, 2, none⟩) (Kd.R_far (p := ⟨gb633, 1, none⟩) (Kd.R_far (p := ⟨gb633, 0, none⟩) (Kd.R_types HO619.out BK633.out (by decide)) (fun _ hk => hk.2) (.int .i64 t627)) (fun _ hk => hk.2) (.int .i64 t628)) (fun _ hk => hk.2) (.int .i64 t629)) (fun _ hk => hk.2) (.slice Ao157 t630.length co157)) (fun _ h_ => h_.1))))) (Kd.R_lt (by (with_reducible repeat (first | apply Xra | apply Xrn | apply Xrd)); exact (Kd.R_mono (Kd.R_far (p := ⟨gb633, 3, none⟩) (Kd.R_far (p := ⟨gb633, 2, none⟩) (Kd.R_far (p := ⟨gb633, 1, none⟩) (Kd.R_far (p := ⟨gb633, 0, none⟩) (Kd.R_types HO625.out BK633.out (by decide)) (fun _ hk => hk.2) (.int .i64 t627)) (fun _ hk => hk.2) (.int .i64 t628)) (fun _ hk => hk.2) (.int .i64 t629)) (fun _ hk => hk.2) (.slice Ao157 t630.length co157)) (fun _ h_ => h_.1))))) (Kd.R_lt (by (with_reducible repeat (first | apply Xra | apply Xrn | apply Xrd)); exact (Kd.R_mono (Kd.R_far (p := ⟨gb633, 3, none⟩) (Kd.R_far (p := ⟨gb633, 2, none⟩) (Kd.R_far (p := ⟨gb633, 1, none⟩) (Kd.R_far (p := ⟨gb633, 0, none⟩) (Kd.R_types HO632.out BK633.out (by decide)) (fun _ hk => hk.2) (.int .i64 t627)) (fun _ hk => hk.2) (.int .i64 t628)) (fun _ hk => hk.2) (.int .i64 t629)) (fun _ hk => hk.2) (.slice Ao157 t630.length co157)) (fun _ h_ => h_.1))))) (Xbs (by repeat (first | (with_reducible first | exact HB.out | apply Xba | apply Xbn | apply Xbd | refine Xbe ?_ GE610.out | refine Xbe ?_ GE611.out | refine Xbe ?_ GE633.out) | exact HB.out)))); have n4_ := Xam (Xbb (g := gb610) (o := .cells #[.int .i64 a0_0, .int .i64 a0_1, .int .i64 a0_2, .slice A0_3 l0_3.length c0_3] 64 (0, 0)) (by (with_reducible repeat (first | refine Xkn ?_ _ | refine Xkd ?_ | refine Xka ?_ _)); refine blk_far ?_ NB610_633.out _; (with_reducible repeat (first | refine Xkn ?_ _ | refine Xkd ?_ | refine Xka ?_ _)); refine blk_far ?_ NB610_633.out _; (with_reducible repeat (first | refine Xkn ?_ _ | refine Xkd ?_ | refine Xka ?_ _)); refine blk_far ?_ NB610_633.out _; (with_reducible repeat (first | refine Xkn ?_ _ | refine Xkd ?_ | refine Xka ?_ _)); refine blk_far ?_ NB610_633.out _; (with_reducible repeat (first | refine Xkn ?_ _ | refine Xkd ?_ | refine Xka ?_ _)); exact BK610.out) hb); have n5_ := Xam (Xbb (g := gb611) (o := .cells #[.int .i64 a1_0, .int .i64 a1_1, .int .i64 a1_2, .slice A1_3 l1_3.length c1_3] 64 (0, 0)) (by (with_reducible repeat (first | refine Xkn ?_ _ | refine Xkd ?_ | refine Xka ?_ _)); refine blk_far ?_ NB611_633.out _; (with_reducible repeat (first | refine Xkn ?_ _ | refine Xkd ?_ | refine Xka ?_ _)); refine blk_far ?_ NB611_633.out _; (with_reducible repeat (first | refine Xkn ?_ _ | refine Xkd ?_ | refine Xka ?_ _)); refine blk_far ?_ NB611_633.out _; (with_reducible repeat (first | refine Xkn ?_ _ | refine Xkd ?_ | refine Xka ?_ _)); refine blk_far ?_ NB611_633.out _; (with_reducible repeat (first | refine Xkn ?_ _ | refine Xkd ?_ | refine Xka ?_ _)); exact BK611.out) hb); have n6_ := Xam (Xbb (g := gb633) (o := .cells #[.int .i64 t627, .int .i64 t628, .int .i64 t629, .slice Ao157 t630.length co157] 67 (0, 0)) (by (with_reducible repeat (first | refine Xkn ?_ _ | refine Xkd ?_ | refine Xka ?_ _)); refine blk_put (cs := #[.int .i64 t627, .int .i64 t628, .int .i64 t629, .slice none 0 0]) ?_ 3 _ rfl; (with_reducible repeat (first | refine Xkn ?_ _ | refine Xkd ?_ | refine Xka ?_ _)); refine blk_put (cs := #[.int .i64 t627, .int .i64 t628, .int .i64 0, .slice none 0 0]) ?_ 2 _ rfl; (with_reducible repeat (first | refine Xkn ?_ _ | refine Xkd ?_ | refine Xka ?_ _)); refine blk_put (cs := #[.int .i64 t627, .int .i64 0, .int .i64 0, .slice none 0 0]) ?_ 1 _ rfl; (with_reducible repeat (first | refine Xkn ?_ _ | refine Xkd ?_ | refine Xka ?_ _)); refine blk_put (cs := #[.int .i64 0, .int .i64 0, .int .i64 0, .slice none 0 0]) ?_ 0 _ rfl; (with_reducible repeat (first | refine Xkn ?_ _ | refine Xkd ?_ | refine Xka ?_ _)); exact BK633.out) hb); have n7_ := Xam (Xbt (by repeat (first | (with_reducible first | exact HB.out | apply Xba | apply Xbn | apply Xbd | refine Xbe ?_ GE610.out | refine Xbe ?_ GE611.out | refine Xbe ?_ GE633.out) | exact HB.out)) hb); clear HO619; clear HO625; clear HO632; clear BK610; clear BK611; clear BK633; clear HB; have HO619 := n0_; have HO625 := n1_; have HO632 := n2_; have HO639 := n3_; have BK610 := n4_; have BK611 := n5_; have BK633 := n6_; have HB := n7_; clear n0_ n1_ n2_ n3_ n4_ n5_ n6_ n7_; (try clear hb); (try clear hb2); (try clear hk); (try clear hi); (try clear ho0)) | ((with_reducible refine gate_dst (N := 8) rfl ?_); refine box_event ?hg (N := 8) ?hd (cs := #[.int .i64 0, .int .i64 0, .int .i64 0, .slice none 0 0]) (t := 67) ?hr ?_; (case hd => rfl); (case hg => rfl); (case hr => first | (go_simp; done) | (go_simp; rfl)); intro gb640 hg w160 hbox hb; have n0_ := Xam (Kd.R_below (by (with_reducible repeat (first | apply Xra | apply Xrn | apply Xrd)); exact HO619.out) hb); have n1_ := Xam (Kd.R_below (by (with_reducible repeat (first | apply Xra | apply Xrn | apply Xrd)); exact HO625.out) hb); have n2_ := Xam (Kd.R_below (by (with_reducible repeat (first | apply Xra | apply Xrn | apply Xrd)); exact HO632.out) hb); have n3_ := Xam (Kd.R_below (by (with_reducible repeat (first | apply Xra | apply Xrn | apply Xrd)); exact HO639.out) hb); have n4_ := Xam (Xbb (g := gb610) (o := .cells #[.int .i64 a0_0, .int .i64 a0_1, .int .i64 a0_2, .slice A0_3 l0_3.length c0_3] 64 (0, 0)) (by (with_reducible repeat (first | refine Xkn ?_ _ | refine Xkd ?_ | refine Xka ?_ _)); exact BK610.out) hb); have n5_ := Xam (Xbb (g := gb611) (o := .cells #[.int .i64 a1_0, .int .i64 a1_1, .int .i64 a1_2, .slice A1_3 l1_3.length c1_3] 64 (0, 0)) (by (with_reducible repeat (first | refine Xkn ?_ _ | refine Xkd ?_ | refine Xka ?_ _)); exact BK611.out) hb); have n6_ := Xam (Xbb (g := gb633) (o := .cells #[.int .i64 t627, .int .i64 t628, .int .i64 t629, .slice Ao157 t630.length co157] 67 (0, 0)) (by (with_reducible repeat (first | refine Xkn ?_ _ | refine Xkd ?_ | refine Xka ?_ _)); exact BK633.out) hb); have n7_ := Xam (Xbt (by repeat (first | (with_reducible first | exact HB.out | apply Xba | apply Xbn | apply Xbd | refine Xbe ?_ GE610.out | refine Xbe ?_ GE611.out | refine Xbe ?_ GE633.out) | exact HB.out)) hb); have n8_ := Xam (hbox); have n9_ := Xam ((by rw [hg]; exact (Xbs (by repeat (first | (with_reducible first | exact HB.out | apply Xba | apply Xbn | apply Xbd | refine Xbe ?_ GE610.out | refine Xbe ?_ GE611.out | refine Xbe ?_ GE633.out) | exact HB.out))) : w.heap.size ≤ gb640)); have n10_ := Xam ((by rw [hg]; exact (Xbs (by repeat (first | (with_reducible first | exact HB.out | apply Xba | apply Xbn | apply Xbd | refine Xbe ?_ GE610.out | refine Xbe ?_ GE611.out | refine Xbe ?_ GE633.out) | exact HB.out))) : w.heap.size ≤ gb640)); have n11_ := Xam ((by rw [hg]; exact Nat.ne_of_lt (Xbl (g := gb610) (o := .cells #[.int .i64 a0_0, .int .i64 a0_1, .int .i64 a0_2, .slice A0_3 l0_3.length c0_3] 64 (0, 0)) (by (with_reducible repeat (first | refine Xkn ?_ _ | refine Xkd ?_ | refine Xka ?_ _)); exact BK610.out)) : gb610 ≠ gb640)); have n12_ := Xam ((by rw [hg]; exact Nat.ne_of_gt (Xbl (g := gb610) (o := .cells #[.int .i64 a0_0, .int .i64 a0_1, .int .i64 a0_2, .slice A0_3 l0_3.length c0_3] 64 (0, 0)) (by (with_reducible repeat (first | refine Xkn ?_ _ | refine Xkd ?_ | refine Xka ?_ _)); exact BK610.out)) : gb640 ≠ gb610)); have n13_ := Xam ((by rw [hg]; exact Nat.ne_of_lt (Xbl (g := gb611) (o := .cells #[.int .i64 a1_0, .int .i64 a1_1, .int .i64 a1_2, .slice A1_3 l1_3.length c1_3] 64 (0, 0)) (by (with_reducible repeat (first | refine Xkn ?_ _ | refine Xkd ?_ | refine Xka ?_ _)); exact BK611.out)) : gb611 ≠ gb640)); have n14_ := Xam ((by rw [hg]; exact Nat.ne_of_gt (Xbl (g := gb611) (o := .cells #[.int .i64 a1_0, .int .i64 a1_1, .int .i64 a1_2, .slice A1_3 l1_3.length c1_3] 64 (0, 0)) (by (with_reducible repeat (first | refine Xkn ?_ _ | refine Xkd ?_ | refine Xka ?_ _)); exact BK611.out)) : gb640 ≠ gb611)); have n15_ := Xam ((by rw [hg]; exact Nat.ne_of_lt (Xbl (g := gb633) (o := .cells #[.int .i64 t627, .int .i64 t628, .int .i64 t629, .slice Ao157 t630.length co157] 67 (0, 0)) (by (with_reducible repeat (first | refine Xkn ?_ _ | refine Xkd ?_ | refine Xka ?_ _)); exact BK633.out)) : gb633 ≠ gb640)); have n16_ := Xam ((by rw [hg]; exact Nat.ne_of_gt (Xbl (g := gb633) (o := .cells #[.int .i64 t627, .int .i64 t628, .int .i64 t629, .slice Ao157 t630.length co157] 67 (0, 0)) (by (with_reducible repeat (first | refine Xkn ?_ _ | refine Xkd ?_ | refine Xka ?_ _)); exact BK633.out)) : gb640 ≠ gb633)); clear HO619; clear HO625; clear HO632; clear HO639; clear BK610; clear BK611; clear BK633; clear HB; have HO619 := n0_; have HO625 := n1_; have HO632 := n2_; have HO639 := n3_; have BK610 := n4_; have BK611 := n5_; have BK633 := n6_; have HB := n7_; have BK640 := n8_; have GW640 := n9_; have GE640 := n10_; have NB610_640 := n11_; have NB640_610 := n12_; have NB611_640 := n13_; have NB640_611 := n14_; have NB633_640 := n15_; have NB640_633 := n16_; clear n0_ n1_ n2_ n3_ n4_ n5_ n6_ n7_ n8_ n9_ n10_ n11_ n12_ n13_ n14_ n15_ n16_; clear hb hbox hg; have hnb161 := NB640_610.out; have hnc161 := NB610_640.out; have hnb162 := NB640_611.out; have hnc162 := NB611_640.out; have hnb163 := NB640_633.out; have hnc163 := NB633_640.out; have hcz164_0 : w160.cell? ⟨gb640, 0, none⟩ = some (.int .i64 0) := (Xbc BK640.out 0).trans rfl; have hcz164_1 : w160.cell? ⟨gb640, 1, none⟩ = some (.int .i64 0) := (Xbc BK640.out 1).trans rfl; have hcz164_2 : w160.cell? ⟨gb640, 2, none⟩ = some (.int .i64 0) := (Xbc BK640.out 2).trans rfl; have hcz164_3 : w160.cell? ⟨gb640, 3, none⟩ = some (.slice none 0 0) := (Xbc BK640.out 3).trans rfl; have hfz164_0 := Xbf BK640.out 0; have hfz164_1 := Xbf BK640.out 1; have hfz164_2 := Xbf BK640.out 2; have hfz164_3 := Xbf BK640.out 3; obtain ⟨Ao165, co165, eo165⟩ := Kd.R_slice HO639.out; subst eo165; have hcz166_0 : w160.cell? ⟨gb633, 0, none⟩ = some (.int .i64 t627) := (Xbc BK633.out 0).trans rfl; have hcz166_1 : w160.cell? ⟨gb633, 1, none⟩ = some (.int .i64 t628) := (Xbc BK633.out 1).trans rfl; have hcz166_2 : w160.cell? ⟨gb633, 2, none⟩ = some (.int .i64 t629) := (Xbc BK633.out 2).trans rfl; have hcz166_3 : w160.cell? ⟨gb633, 3, none⟩ = some (.slice Ao157 t630.length co157) := (Xbc BK633.out 3).trans rfl; have hfz166_0 := Xbf BK633.out 0; have hfz166_1 := Xbf BK633.out 1; have hfz166_2 := Xbf BK633.out 2; have hfz166_3 := Xbf BK633.out 3) | ((with_reducible refine gate_callee (f := 50) rfl ?_); refine goesL_ (some 31) rfl rfl Try.func50 (by kernel_rfl) rfl #[.agg #[.int .i64 t627, .int .i64 t628, .int .i64 t629, .slice Ao157 t630.length co157], .agg #[.int .i64 t634, .int .i64 t635, .int .i64 t636, .slice Ao165 t637.length co165]] rfl (by (try simp only [List.map_toArray, List.map_cons, List.map_nil]); first | done | rfl | (simp only [List.length_drop, List.length_take]; rfl)) ?_; (with_reducible refine (impl_EqualGroups.calls k t627 t628 t629 _ _ t630 t634 t635 t636 _ _ t637 t641 _ ?side1 ?side2 ?side3 ?side4 A24.out).mono ?_); (case side1 => refine (Kd.R_reads' (e := 3) (base := w.heap.size) (ok := fun k_ => (((True ∧ some k_ ≠ (.slice Ao148 t617.length co148 : Value).ownBlock) ∧ some k_ ≠ (.slice Ao149 t623.length co149 : Value).ownBlock) ∧ some k_ ≠ (.slice Ao165 t637.length co165 : Value).ownBlock)) (n := t630.length) (c := co157) ?_).2.2; exact (by (with_reducible repeat (first | apply Xra | apply Xrn | apply Xrd)); exact (Kd.R_mono (Kd.R_far (p := ⟨gb640, 3, none⟩) (Kd.R_far (p := ⟨gb640, 2, none⟩) (Kd.R_far (p := ⟨gb640, 1, none⟩) (Kd.R_far (p := ⟨gb640, 0, none⟩) (Kd.R_types HO632.out BK640.out (by decide)) (fun _ hk => hk.2) (.int .i64 t634)) (fun _ hk => hk.2) (.int .i64 t635)) (fun _ hk => hk.2) (.int .i64 t636)) (fun _ hk => hk.2) (.slice Ao165 t637.length co165)) (fun _ h_ => h_.1)))); (case side2 => exact (Kd.R_reads' HO632.out).2.1); (case side3 => refine (Kd.R_reads' (e := 3) (base := w.heap.size) (ok := fun k_ => (((True ∧ some k_ ≠ (.slice Ao148 t617.length co148 : Value).ownBlock) ∧ some k_ ≠ (.slice Ao149 t623.length co149 : Value).ownBlock) ∧ some k_ ≠ (.slice Ao157 t630.length co157 : Value).ownBlock)) (n := t637.length) (c := co165) ?_).2.2; exact (by (with_reducible repeat (first | apply Xra | apply Xrn | apply Xrd)); exact (Kd.R_mono (Kd.R_far (p := ⟨gb640, 3, none⟩) (Kd.R_far (p := ⟨gb640, 2, none⟩) (Kd.R_far (p := ⟨gb640, 1, none⟩) (Kd.R_far (p := ⟨gb640, 0, none⟩) (Kd.R_types HO639.out BK640.out (by decide)) (fun _ hk => hk.2) (.int .i64 t634)) (fun _ hk => hk.2) (.int .i64 t635)) (fun _ hk => hk.2) (.int .i64 t636)) (fun _ hk => hk.2) (.slice Ao165 t637.length co165)) (fun _ h_ => h_.1)))); (case side4 => exact (Kd.R_reads' HO639.out).2.1); rintro e w167 ⟨rfl, hb⟩; refine ⟨_, rfl, ?_⟩; have n0_ := Xam (Kd.R_below (by (with_reducible repeat (first | apply Xra | apply Xrn | apply Xrd)); exact (Kd.R_mono (Kd.R_far (p := ⟨gb640, 3, none⟩) (Kd.R_far (p := ⟨gb640, 2, none⟩) (Kd.R_far (p := ⟨gb640, 1, none⟩) (Kd.R_far (p := ⟨gb640, 0, none⟩) (Kd.R_types HO619.out BK640.out (by decide)) (fun _ hk => hk.2) (.int .i64 t634)) (fun _ hk => hk.2) (.int .i64 t635)) (fun _ hk => hk.2) (.int .i64 t636)) (fun _ hk => hk.2) (.slice Ao165 t637.length co165)) (fun _ h_ => h_.1))) hb); have n1_ := Xam (Kd.R_below (by (with_reducible repeat (first | apply Xra | apply Xrn | apply Xrd)); exact (Kd.R_mono (Kd.R_far (p := ⟨gb640, 3, none⟩) (Kd.R_far (p := ⟨gb640, 2, none⟩) (Kd.R_far (p := ⟨gb640, 1, none⟩) (Kd.R_far (p := ⟨gb640, 0, none⟩) (Kd.R_types HO625.out BK640.out (by decide)) (fun _ hk => hk.2) (.int .i64 t634)) (fun _ hk => hk.2) (.int .i64 t635)) (fun _ hk => hk.2) (.int .i64 t636)) (fun _ hk => hk.2) (.slice Ao165 t637.length co165)) (fun _ h_ => h_.1))) hb); have n2_ := Xam (Kd.R_below (by (with_reducible repeat (first | apply Xra | apply Xrn | apply Xrd)); exact (Kd.R_mono (Kd.R_far (p := ⟨gb640, 3, none⟩) (Kd.R_far (p := ⟨gb640, 2, none⟩) (Kd.R_far (p := ⟨gb640, 1, none⟩) (Kd.R_far (p := ⟨gb640, 0, none⟩) (Kd.R_types HO632.out BK640.out (by decide)) (fun _ hk => hk.2) (.int .i64 t634)) (fun _ hk => hk.2) (.int .i64 t635)) (fun _ hk => hk.2) (.int .i64 t636)) (fun _ hk => hk.2) (.slice Ao165 t637.length co165)) (fun _ h_ => h_.1))) hb); have n3_ := Xam (Kd.R_below (by (with_reducible repeat (first | apply Xra | apply Xrn | apply Xrd)); exact (Kd.R_mono (Kd.R_far (p := ⟨gb640, 3, none⟩) (Kd.R_far (p := ⟨gb640, 2, none⟩) (Kd.R_far (p := ⟨gb640, 1, none⟩) (Kd.R_far (p := ⟨gb640, 0, none⟩) (Kd.R_types HO639.out BK640.out (by decide)) (fun _ hk => hk.2) (.int .i64 t634)) (fun _ hk => hk.2) (.int .i64 t635)) (fun _ hk => hk.2) (.int .i64 t636)) (fun _ hk => hk.2) (.slice Ao165 t637.length co165)) (fun _ h_ => h_.1))) hb); have n4_ := Xam (Xbb (g := gb610) (o := .cells #[.int .i64 a0_0, .int .i64 a0_1, .int .i64 a0_2, .slice A0_3 l0_3.length c0_3] 64 (0, 0)) (by (with_reducible repeat (first | refine Xkn ?_ _ | refine Xkd ?_ | refine Xka ?_ _)); refine blk_far ?_ NB610_640.out _; (with_reducible repeat (first | refine Xkn ?_ _ | refine Xkd ?_ | refine Xka ?_ _)); refine blk_far ?_ NB610_640.out _; (with_reducible repeat (first | refine Xkn ?_ _ | refine Xkd ?_ | refine Xka ?_ _)); refine blk_far ?_ NB610_640.out _; (with_reducible repeat (first | refine Xkn ?_ _ | refine Xkd ?_ | refine Xka ?_ _)); refine blk_far ?_ NB610_640.out _; (with_reducible repeat (first | refine Xkn ?_ _ | refine Xkd ?_ | refine Xka ?_ _)); exact BK610.out) hb); have n5_ := Xam (Xbb (g := gb611) (o := .cells #[.int .i64 a1_0, .int .i64 a1_1, .int .i64 a1_2, .slice A1_3 l1_3.length c1_3] 64 (0, 0)) (by (with_reducible repeat (first | refine Xkn ?_ _ | refine Xkd ?_ | refine Xka ?_ _)); refine blk_far ?_ NB611_640.out _; (with_reducible repeat (first | refine Xkn ?_ _ | refine Xkd ?_ | refine Xka ?_ _)); refine blk_far ?_ NB611_640.out _; (with_reducible repeat (first | refine Xkn ?_ _ | refine Xkd ?_ | refine Xka ?_ _)); refine blk_far ?_ NB611_640.out _; (with_reducible repeat (first | refine Xkn ?_ _ | refine Xkd ?_ | refine Xka ?_ _)); refine blk_far ?_ NB611_640.out _; (with_reducible repeat (first | refine Xkn ?_ _ | refine Xkd ?_ | refine Xka ?_ _)); exact BK611.out) hb); have n6_ := Xam (Xbb (g := gb633) (o := .cells #[.int .i64 t627, .int .i64 t628, .int .i64 t629, .slice Ao157 t630.length co157] 67 (0, 0)) (by (with_reducible repeat (first | refine Xkn ?_ _ | refine Xkd ?_ | refine Xka ?_ _)); refine blk_far ?_ NB633_640.out _; (with_reducible repeat (first | refine Xkn ?_ _ | refine Xkd ?_ | refine Xka ?_ _)); refine blk_far ?_ NB633_640.out _; (with_reducible repeat (first | refine Xkn ?_ _ | refine Xkd ?_ | refine Xka ?_ _)); refine blk_far ?_ NB633_640.out _; (with_reducible repeat (first | refine Xkn ?_ _ | refine Xkd ?_ | refine Xka ?_ _)); refine blk_far ?_ NB633_640.out _; (with_reducible repeat (first | refine Xkn ?_ _ | refine Xkd ?_ | refine Xka ?_ _)); exact BK633.out) hb); have n7_ := Xam (Xbb (g := gb640) (o := .cells #[.int .i64 t634, .int .i64 t635, .int .i64 t636, .slice Ao165 t637.length co165] 67 (0, 0)) (by (with_reducible repeat (first | refine Xkn ?_ _ | refine Xkd ?_ | refine Xka ?_ _)); refine blk_put (cs := #[.int .i64 t634, .int .i64 t635, .int .i64 t636, .slice none 0 0]) ?_ 3 _ rfl; (with_reducible repeat (first | refine Xkn ?_ _ | refine Xkd ?_ | refine Xka ?_ _)); refine blk_put (cs := #[.int .i64 t634, .int .i64 t635, .int .i64 0, .slice none 0 0]) ?_ 2 _ rfl; (with_reducible repeat (first | refine Xkn ?_ _ | refine Xkd ?_ | refine Xka ?_ _)); refine blk_put (cs := #[.int .i64 t634, .int .i64 0, .int .i64 0, .slice none 0 0]) ?_ 1 _ rfl; (with_reducible repeat (first | refine Xkn ?_ _ | refine Xkd ?_ | refine Xka ?_ _)); refine blk_put (cs := #[.int .i64 0, .int .i64 0, .int .i64 0, .slice none 0 0]) ?_ 0 _ rfl; (with_reducible repeat (first | refine Xkn ?_ _ | refine Xkd ?_ | refine Xka ?_ _)); exact BK640.out) hb); have n8_ := Xam (Xbt (by repeat (first | (with_reducible first | exact HB.out | apply Xba | apply Xbn | apply Xbd | refine Xbe ?_ GE610.out | refine Xbe ?_ GE611.out | refine Xbe ?_ GE633.out | refine Xbe ?_ GE640.out) | exact HB.out)) hb); clear HO619; clear HO625; clear HO632; clear HO639; clear BK610; clear BK611; clear BK633; clear BK640; clear HB; have HO619 := n0_; have HO625 := n1_; have HO632 := n2_; have HO639 := n3_; have BK610 := n4_; have BK611 := n5_; have BK633 := n6_; have BK640 := n7_; have HB := n8_; clear n0_ n1_ n2_ n3_ n4_ n5_ n6_ n7_ n8_; (try clear hb); (try clear hb2); (try clear hk); (try clear hi)))
          have n0_ := Xam (Xrd HO619.out)
          have n1_ := Xam (Xrd HO625.out)
          have n2_ := Xam (Xrd HO632.out)
          have n3_ := Xam (Xrd HO639.out)
          have n4_ := Xam (Xkd BK610.out)
          have n5_ := Xam (Xkd BK611.out)
          have n6_ := Xam (Xkd BK633.out)
          have n7_ := Xam (Xkd BK640.out)
          have n8_ := Xam (Xbd HB.out)
          clear HO619
          clear HO625
          clear HO632
          clear HO639
          clear BK610
          clear BK611
          clear BK633
          clear BK640
          clear HB
          have HO619 := n0_
          have HO625 := n1_
          have HO632 := n2_
          have HO639 := n3_
          have BK610 := n4_
          have BK611 := n5_
          have BK633 := n6_
          have BK640 := n7_
          have HB := n8_
          clear n0_ n1_ n2_ n3_ n4_ n5_ n6_ n7_ n8_
          refine start_ (n := 5) (S := fun w' => w'.cell? ⟨gb633, 0, none⟩ = some (.int .i64 t627) ∧ w'.cell? ⟨gb633, 1, none⟩ = some (.int .i64 t628) ∧ w'.cell? ⟨gb633, 2, none⟩ = some (.int .i64 t629) ∧ w'.cell? ⟨gb633, 3, none⟩ = some (.slice Ao157 t630.length co157) ∧ w'.cell? ⟨gb610, 0, none⟩ = some (.int .i64 a0_0) ∧ w'.cell? ⟨gb610, 1, none⟩ = some (.int .i64 a0_1) ∧ w'.cell? ⟨gb610, 2, none⟩ = some (.int .i64 a0_2) ∧ w'.cell? ⟨gb610, 3, none⟩ = some (.slice A0_3 l0_3.length c0_3)) (ds := []) #[false, false, false, false, false] (by kernel_rfl) rfl rfl ⟨(Xbc BK633.out 0).trans rfl, (Xbc BK633.out 1).trans rfl, (Xbc BK633.out 2).trans rfl, (Xbc BK633.out 3).trans rfl, (Xbc BK610.out 0).trans rfl, (Xbc BK610.out 1).trans rfl, (Xbc BK610.out 2).trans rfl, (Xbc BK610.out 3).trans rfl⟩ (fun hHeld => ?_)
          generalize w167.drew = w168 at HO619 HO625 HO632 HO639 BK610 BK611 BK633 BK640 HB hHeld ⊢
          refine take_ (i := 0) (N := some 35) (v := ?_) (a' := ?_) #[true, false, false, false, false] rfl rfl (by kernel_rfl) (fun _ _ _ h => h) (Or.inl ⟨by rfl, ?_⟩) hHeld ?_ ?_
          rotate_left
          · rintro w' ⟨s0, s1, s2, s3, s4, s5, s6, s7⟩
            go_simp
            with_reducible rfl
          rotate_left
          · simp only [Act.put, List.setIfInBounds_toArray, List.set_cons_zero, List.set_cons_succ, i64_w, i32_w]
            rfl
          refine take_ (i := 1) (N := some 36) (v := ?_) (a' := ?_) #[true, true, false, false, false] rfl rfl (by kernel_rfl) (fun _ _ _ h => h) (Or.inl ⟨by rfl, ?_⟩) hHeld ?_ ?_
          rotate_left
          · rintro w' ⟨s0, s1, s2, s3, s4, s5, s6, s7⟩
            go_simp
            with_reducible rfl
          rotate_left
          · simp only [Act.put, List.setIfInBounds_toArray, List.set_cons_zero, List.set_cons_succ, i64_w, i32_w]
            rfl
          refine one_ (i := 2) (N := some 37) #[true, true, true, false, false] rfl rfl (by kernel_rfl) (by decide) (fun K hK => ?_)
          refine goes_ Try.func49 (by kernel_rfl) rfl #[.agg #[.int .i64 a0_0, .int .i64 a0_1, .int .i64 a0_2, .slice A0_3 l0_3.length c0_3]] (by rfl) rfl rfl (by (try simp only [List.map_toArray, List.map_cons, List.map_nil]); first | done | rfl | (simp only [List.length_drop, List.length_take]; rfl)) ?_
          with_reducible refine (laws_toSenderGroup.calls k a0_0 a0_1 a0_2 _ _ l0_3 t642 t643 t644 t645 _ ?side1 ?side2 A56.out).mono ?_
          (case side1 => repeat (first | exact (Kd.C_below HR0_3.out HB.out) | (with_reducible refine Xca ?_ _) | (with_reducible refine Xcn ?_ _) | (with_reducible refine Xcd ?_)))
          (case side2 => exact HC0_3.out)
          rintro e w169 ⟨v646, rfl, ho0, hb⟩
          refine ⟨_, rfl, ?_⟩
          have n0_ := Xam (Kd.R_elder' (by (with_reducible repeat (first | apply Xra | apply Xrn | apply Xrd)); exact HO619.out) (Kd.R_base ho0) hb)
          have n1_ := Xam (Kd.R_elder' (by (with_reducible repeat (first | apply Xra | apply Xrn | apply Xrd)); exact HO625.out) (Kd.R_base ho0) hb)
          have n2_ := Xam (Kd.R_elder' (by (with_reducible repeat (first | apply Xra | apply Xrn | apply Xrd)); exact HO632.out) (Kd.R_base ho0) hb)
          have n3_ := Xam (Kd.R_elder' (by (with_reducible repeat (first | apply Xra | apply Xrn | apply Xrd)); exact HO639.out) (Kd.R_base ho0) hb)
          have n4_ := Xam (Kd.R_lower (Kd.R_new' (Kd.R_new' (Kd.R_new' (Kd.R_new' ho0 (Kd.R_lt (by (with_reducible repeat (first | apply Xra | apply Xrn | apply Xrd)); exact HO619.out))) (Kd.R_lt (by (with_reducible repeat (first | apply Xra | apply Xrn | apply Xrd)); exact HO625.out))) (Kd.R_lt (by (with_reducible repeat (first | apply Xra | apply Xrn | apply Xrd)); exact HO632.out))) (Kd.R_lt (by (with_reducible repeat (first | apply Xra | apply Xrn | apply Xrd)); exact HO639.out))) (Xbs (by repeat (first | (with_reducible first | exact HB.out | apply Xba | apply Xbn | apply Xbd | refine Xbe ?_ GE610.out | refine Xbe ?_ GE611.out | refine Xbe ?_ GE633.out | refine Xbe ?_ GE640.out) | exact HB.out))))
          have n5_ := Xam (Xbb (g := gb610) (o := .cells #[.int .i64 a0_0, .int .i64 a0_1, .int .i64 a0_2, .slice A0_3 l0_3.length c0_3] 64 (0, 0)) (by (with_reducible repeat (first | refine Xkn ?_ _ | refine Xkd ?_ | refine Xka ?_ _)); exact BK610.out) hb)
          have n6_ := Xam (Xbb (g := gb611) (o := .cells #[.int .i64 a1_0, .int .i64 a1_1, .int .i64 a1_2, .slice A1_3 l1_3.length c1_3] 64 (0, 0)) (by (with_reducible repeat (first | refine Xkn ?_ _ | refine Xkd ?_ | refine Xka ?_ _)); exact BK611.out) hb)
          have n7_ := Xam (Xbb (g := gb633) (o := .cells #[.int .i64 t627, .int .i64 t628, .int .i64 t629, .slice Ao157 t630.length co157] 67 (0, 0)) (by (with_reducible repeat (first | refine Xkn ?_ _ | refine Xkd ?_ | refine Xka ?_ _)); exact BK633.out) hb)
          have n8_ := Xam (Xbb (g := gb640) (o := .cells #[.int .i64 t634, .int .i64 t635, .int .i64 t636, .slice Ao165 t637.length co165] 67 (0, 0)) (by (with_reducible repeat (first | refine Xkn ?_ _ | refine Xkd ?_ | refine Xka ?_ _)); exact BK640.out) hb)
          have n9_ := Xam (Xbt (by repeat (first | (with_reducible first | exact HB.out | apply Xba | apply Xbn | apply Xbd | refine Xbe ?_ GE610.out | refine Xbe ?_ GE611.out | refine Xbe ?_ GE633.out | refine Xbe ?_ GE640.out) | exact HB.out)) hb)
          clear HO619
          clear HO625
          clear HO632
          clear HO639
          clear BK610
          clear BK611
          clear BK633
          clear BK640
          clear HB
          have HO619 := n0_
          have HO625 := n1_
          have HO632 := n2_
          have HO639 := n3_
          have HO647 := n4_
          have BK610 := n5_
          have BK611 := n6_
          have BK633 := n7_
          have BK640 := n8_
          have HB := n9_
          clear n0_ n1_ n2_ n3_ n4_ n5_ n6_ n7_ n8_ n9_
          (try clear hb)
          (try clear hb2)
          (try clear hk)
          (try clear hi)
          (try clear ho0)
          obtain ⟨Ao170, co170, eo170⟩ := Kd.R_slice HO647.out
          (first | subst eo170 | (injection eo170 with f1_ f2_ f3_; have f4_ := f1_.symm; have f5_ := f3_.symm; clear f1_ f2_ f3_; subst f4_; subst f5_))
          refine hK.out _ _ ⟨(Xbc BK633.out 0).trans rfl, (Xbc BK633.out 1).trans rfl, (Xbc BK633.out 2).trans rfl, (Xbc BK633.out 3).trans rfl, (Xbc BK610.out 0).trans rfl, (Xbc BK610.out 1).trans rfl, (Xbc BK610.out 2).trans rfl, (Xbc BK610.out 3).trans rfl⟩ (fun hHeld => ?_)
          clear hK K
          refine norm_ (a' := ?_) ?_ ?_
          rotate_left
          · show Act.put _ (some 37) _ = _
            simp only [Act.put, List.setIfInBounds_toArray, List.set_cons_zero, List.set_cons_succ, i64_w, i32_w]
            rfl
          refine one_ (i := 3) (N := some 38) #[true, true, true, true, false] rfl rfl (by kernel_rfl) (by decide) (fun K hK => ?_)
          refine goes_ Try.func51 (by kernel_rfl) rfl #[.agg #[.int .i64 t627, .int .i64 t628, .int .i64 t629, .slice Ao157 t630.length co157], .agg #[.int .i64 t642, .int .i64 t643, .int .i64 t644, .slice Ao170 t645.length co170]] (by rfl) rfl rfl (by (try simp only [List.map_toArray, List.map_cons, List.map_nil]); first | done | rfl | (simp only [List.length_drop, List.length_take]; rfl)) ?_
          with_reducible refine (laws_eqSenderGroup.calls k t627 t628 t629 _ _ t630 t642 t643 t644 _ _ t645 false _ ?side1 ?side2 ?side3 ?side4 A57.out).mono ?_
          (case side1 => repeat (first | exact (Kd.R_reads' HO632.out).2.2 | (with_reducible refine Xca ?_ _) | (with_reducible refine Xcn ?_ _) | (with_reducible refine Xcd ?_)))
          (case side2 => exact (Kd.R_reads' HO632.out).2.1)
          (case side3 => repeat (first | exact (Kd.R_reads' HO647.out).2.2 | (with_reducible refine Xca ?_ _) | (with_reducible refine Xcn ?_ _) | (with_reducible refine Xcd ?_)))
          (case side4 => exact (Kd.R_reads' HO647.out).2.1)
          rintro e w171 ⟨rfl, hb⟩
          refine ⟨_, rfl, ?_⟩
          have n0_ := Xam (Kd.R_below (by (with_reducible repeat (first | apply Xra | apply Xrn | apply Xrd)); exact HO619.out) hb)
          have n1_ := Xam (Kd.R_below (by (with_reducible repeat (first | apply Xra | apply Xrn | apply Xrd)); exact HO625.out) hb)
          have n2_ := Xam (Kd.R_below (by (with_reducible repeat (first | apply Xra | apply Xrn | apply Xrd)); exact HO632.out) hb)
          have n3_ := Xam (Kd.R_below (by (with_reducible repeat (first | apply Xra | apply Xrn | apply Xrd)); exact HO639.out) hb)
          have n4_ := Xam (Kd.R_below (by (with_reducible repeat (first | apply Xra | apply Xrn | apply Xrd)); exact HO647.out) hb)
          have n5_ := Xam (Xbb (g := gb610) (o := .cells #[.int .i64 a0_0, .int .i64 a0_1, .int .i64 a0_2, .slice A0_3 l0_3.length c0_3] 64 (0, 0)) (by (with_reducible repeat (first | refine Xkn ?_ _ | refine Xkd ?_ | refine Xka ?_ _)); exact BK610.out) hb)
          have n6_ := Xam (Xbb (g := gb611) (o := .cells #[.int .i64 a1_0, .int .i64 a1_1, .int .i64 a1_2, .slice A1_3 l1_3.length c1_3] 64 (0, 0)) (by (with_reducible repeat (first | refine Xkn ?_ _ | refine Xkd ?_ | refine Xka ?_ _)); exact BK611.out) hb)
          have n7_ := Xam (Xbb (g := gb633) (o := .cells #[.int .i64 t627, .int .i64 t628, .int .i64 t629, .slice Ao157 t630.length co157] 67 (0, 0)) (by (with_reducible repeat (first | refine Xkn ?_ _ | refine Xkd ?_ | refine Xka ?_ _)); exact BK633.out) hb)
          have n8_ := Xam (Xbb (g := gb640) (o := .cells #[.int .i64 t634, .int .i64 t635, .int .i64 t636, .slice Ao165 t637.length co165] 67 (0, 0)) (by (with_reducible repeat (first | refine Xkn ?_ _ | refine Xkd ?_ | refine Xka ?_ _)); exact BK640.out) hb)
          have n9_ := Xam (Xbt (by repeat (first | (with_reducible first | exact HB.out | apply Xba | apply Xbn | apply Xbd | refine Xbe ?_ GE610.out | refine Xbe ?_ GE611.out | refine Xbe ?_ GE633.out | refine Xbe ?_ GE640.out) | exact HB.out)) hb)
          clear HO619
          clear HO625
          clear HO632
          clear HO639
          clear HO647
          clear BK610
          clear BK611
          clear BK633
          clear BK640
          clear HB
          have HO619 := n0_
          have HO625 := n1_
          have HO632 := n2_
          have HO639 := n3_
          have HO647 := n4_
          have BK610 := n5_
          have BK611 := n6_
          have BK633 := n7_
          have BK640 := n8_
          have HB := n9_
          clear n0_ n1_ n2_ n3_ n4_ n5_ n6_ n7_ n8_ n9_
          (try clear hb)
          (try clear hb2)
          (try clear hk)
          (try clear hi)
          refine hK.out _ _ ⟨(Xbc BK633.out 0).trans rfl, (Xbc BK633.out 1).trans rfl, (Xbc BK633.out 2).trans rfl, (Xbc BK633.out 3).trans rfl, (Xbc BK610.out 0).trans rfl, (Xbc BK610.out 1).trans rfl, (Xbc BK610.out 2).trans rfl, (Xbc BK610.out 3).trans rfl⟩ (fun hHeld => ?_)
          clear hK K
          refine norm_ (a' := ?_) ?_ ?_
          rotate_left
          · show Act.put _ (some 38) _ = _
            simp only [Act.put, List.setIfInBounds_toArray, List.set_cons_zero, List.set_cons_succ, i64_w, i32_w]
            rfl
          refine pure_ (i := 4) (N := some 39) (v := ?_) (a' := ?_) #[true, true, true, true, true] rfl rfl (by kernel_rfl) (fun _ _ _ h => h) (Or.inl ⟨by rfl, ?_⟩) ?_ ?_
          rotate_left
          · intro w'
            go_simp
            with_reducible rfl
          rotate_left
          · simp only [Act.put, List.setIfInBounds_toArray, List.set_cons_zero, List.set_cons_succ, i64_w, i32_w]
            rfl
          refine done_ (by kernel_rfl) ?_
          try go_wp2
          go_ret
          exact ⟨by first | rfl | (simp [errW_none, errW_some] <;> rfl) | (simp [*, errW_none, errW_some] <;> rfl), by repeat (first | (with_reducible first | exact HB.out | apply Xba | apply Xbn | apply Xbd | refine Xbe ?_ GE610.out | refine Xbe ?_ GE611.out | refine Xbe ?_ GE633.out | refine Xbe ?_ GE640.out) | exact HB.out)⟩

/-- THE ONE PURE STATEMENT of laws_FnExactEqualGroups. -/
def laws_FnExactEqualGroups.Pure : Prop := ∀ (a0_0 : Int) (a0_1 : Int) (a0_2 : Int) (l0_3 : List Int) (a1_0 : Int) (a1_1 : Int) (a1_2 : Int) (l1_3 : List Int), ((Lit.int .i64 a0_0).wf = true) → ((Lit.int .i64 a0_1).wf = true) → ((Lit.int .i64 a0_2).wf = true) → (l0_3.length ≤ maxLen ∧ ∀ z656 ∈ l0_3, (Lit.int .i64 z656).wf = true) → ((Lit.int .i64 a1_0).wf = true) → ((Lit.int .i64 a1_1).wf = true) → ((Lit.int .i64 a1_2).wf = true) → (l1_3.length ≤ maxLen ∧ ∀ z657 ∈ l1_3, (Lit.int .i64 z657).wf = true) → ∃ k, laws_FnExactEqualGroups.f k a0_0 a0_1 a0_2 l0_3 a1_0 a1_1 a1_2 l1_3 = some true

end Go.Proofs.Ytbffeiakdigdmaa.Q
