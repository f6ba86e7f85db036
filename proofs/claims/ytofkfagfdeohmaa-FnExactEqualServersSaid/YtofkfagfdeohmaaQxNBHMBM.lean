-- written by a program of this session (qprint.py) over the kit's print.py
import Derived.Test.YtofkfagfdeohmaaQx0
import Derived.Test.YtofkfagfdeohmaaQxILMMGI
import Derived.Test.YtofkfagfdeohmaaQxMKENFN
import Derived.Test.YtofkfagfdeohmaaQxOHBOJO
namespace Go.Proofs.Ytofkfagfdeohmaa.Q
open Go.RowKit Go.Proofs.YtofkfagfdeohmaaW.PrintWords Go.Proofs.YtofkfagfdeohmaaW.PrintLast Go.Proofs.YtofkfagfdeohmaaW.PrintMore Go.Proofs.YtofkfagfdeohmaaW.PrintWords Go.Proofs.YtofkfagfdeohmaaW.PrintWords.QPW
attribute [local go_sem] max2_int min2_int max_two min_two max_three min_three max_four min_four   -- for this text's walks alone
set_option linter.unusedVariables false
set_option linter.unusedSimpArgs false

/-! ### laws_FnExactEqualServers: function 13 -/
def laws_FnExactEqualServers.f (k : Nat) (a0_0 : Int) (a0_1 : Int) (a0_2 : Int) (l0_3 : List (S161)) (a0_4 : Int) (a1_0 : Int) (a1_1 : Int) (a1_2 : Int) (l1_3 : List (S161)) (a1_4 : Int) : Option (Bool) := (laws_szServer.f k a0_0 a0_1 a0_2 l0_3 a0_4 1048576).bind fun t103 => (if t103 < 0 then (some true) else ((laws_szServer.f k a1_0 a1_1 a1_2 l1_3 a1_4 t103).bind fun t104 => (if t104 < 0 then (some true) else ((laws_toServer.f k a0_0 a0_1 a0_2 l0_3 a0_4).bind fun bt105 => ((laws_toServer.f k a1_0 a1_1 a1_2 l1_3 a1_4).bind fun bt112 => ((spec_EqualServers.f k bt105.1 bt105.2.1 bt105.2.2.1 bt105.2.2.2.1 bt105.2.2.2.2 bt112.1 bt112.2.1 bt112.2.2.1 bt112.2.2.2.1 bt112.2.2.2.2).bind fun t119 => ((laws_toServer.f k a0_0 a0_1 a0_2 l0_3 a0_4).bind fun bt120 => ((laws_toServer.f k a1_0 a1_1 a1_2 l1_3 a1_4).bind fun bt128 => ((impl_EqualServers.f k bt120.1 bt120.2.1 bt120.2.2.1 bt120.2.2.2.1 bt120.2.2.2.2 bt128.1 bt128.2.1 bt128.2.2.1 bt128.2.2.2.1 bt128.2.2.2.2).bind fun t136 => (if (t136 != t119) = true then (none) else ((laws_toServer.f k a0_0 a0_1 a0_2 l0_3 a0_4).bind fun bt137 => ((laws_eqServer.f k bt120.1 bt120.2.1 bt120.2.2.1 bt120.2.2.2.1 bt120.2.2.2.2 bt137.1 bt137.2.1 bt137.2.2.1 bt137.2.2.2.1 bt137.2.2.2.2).bind fun t144 => (if t144 = true then ((laws_toServer.f k a1_0 a1_1 a1_2 l1_3 a1_4).bind fun bt145 => ((laws_eqServer.f k bt128.1 bt128.2.1 bt128.2.2.1 bt128.2.2.2.1 bt128.2.2.2.2 bt145.1 bt145.2.1 bt145.2.2.1 bt145.2.2.2.1 bt145.2.2.2.2).bind fun t152 => (if t152 = true then (some true) else (none)))) else (none))))))))))))))
theorem laws_FnExactEqualServers.mono : ∀ a0 a1 a2 a3 a4 a5 a6 a7 a8 a9 k, LeO (laws_FnExactEqualServers.f k a0 a1 a2 a3 a4 a5 a6 a7 a8 a9) (laws_FnExactEqualServers.f (k + 1) a0 a1 a2 a3 a4 a5 a6 a7 a8 a9) := by
  intro a0 a1 a2 a3 a4 a5 a6 a7 a8 a9 k
  unfold laws_FnExactEqualServers.f
  repeat' first
      | (with_reducible exact impl_EqualServers.mono _ _ _ _ _ _ _ _ _ _ _)
      | (with_reducible exact laws_eqServer.mono _ _ _ _ _ _ _ _ _ _ _)
      | (with_reducible exact laws_szServer.mono _ _ _ _ _ _ _)
      | (with_reducible exact laws_toServer.mono _ _ _ _ _ _)
      | (with_reducible exact spec_EqualServers.mono _ _ _ _ _ _ _ _ _ _ _)
      | (with_reducible exact LeO.refl _)
      | (with_reducible exact LeO.none _)
      | (with_reducible refine LeO.ite ?_ ?_)
      | (with_reducible refine LeO.bind ?_ (fun _ => ?_))
      | exact impl_EqualServers.mono _ _ _ _ _ _ _ _ _ _ _
      | exact laws_eqServer.mono _ _ _ _ _ _ _ _ _ _ _
      | exact laws_szServer.mono _ _ _ _ _ _ _
      | exact laws_toServer.mono _ _ _ _ _ _
      | exact spec_EqualServers.mono _ _ _ _ _ _ _ _ _ _ _
      | exact LeO.none _
      | refine LeO.ite ?_ ?_
      | refine LeO.bind ?_ (fun _ => ?_)
set_option maxHeartbeats 8000000 in
set_option maxRecDepth 100000 in
theorem laws_FnExactEqualServers.calls (k : Nat) (a0_0 : Int) (a0_1 : Int) (a0_2 : Int) (A0_3 : Option Addr) (c0_3 : Nat) (l0_3 : List (S161)) (a0_4 : Int) (a1_0 : Int) (a1_1 : Int) (a1_2 : Int) (A1_3 : Option Addr) (c1_3 : Nat) (l1_3 : List (S161)) (a1_4 : Int) (r : Bool) (w : World) (hr0_3 : Kd.C k161 w A0_3 l0_3.length l0_3) (hc0_3 : l0_3.length ≤ c0_3) (hr1_3 : Kd.C k161 w A1_3 l1_3.length l1_3) (hc1_3 : l1_3.length ≤ c1_3) (h : laws_FnExactEqualServers.f k a0_0 a0_1 a0_2 l0_3 a0_4 a1_0 a1_1 a1_2 l1_3 a1_4 = some r) :
    Calls Try.prog 13 #[.agg #[.int .i64 a0_0, .int .i64 a0_1, .int .i64 a0_2, .slice A0_3 l0_3.length c0_3, .int .i64 a0_4], .agg #[.int .i64 a1_0, .int .i64 a1_1, .int .i64 a1_2, .slice A1_3 l1_3.length c1_3, .int .i64 a1_4]] w fun e w' => e = .returned (.bool r) ∧ Below w.heap.size w w' := by
  have hu61 := Try.underlying61
  have hu66 := Try.underlying66
  have HR0_3 := Xam hr0_3
  have HC0_3 := Xam hc0_3
  clear hr0_3 hc0_3
  have HR1_3 := Xam hr1_3
  have HC1_3 := Xam hc1_3
  clear hr1_3 hc1_3
  have HB := Xam (Below.refl w.heap.size w)
  have H : ((laws_szServer.f k a0_0 a0_1 a0_2 l0_3 a0_4 1048576).bind fun t103 => (if t103 < 0 then (some true) else ((laws_szServer.f k a1_0 a1_1 a1_2 l1_3 a1_4 t103).bind fun t104 => (if t104 < 0 then (some true) else ((laws_toServer.f k a0_0 a0_1 a0_2 l0_3 a0_4).bind fun bt105 => ((laws_toServer.f k a1_0 a1_1 a1_2 l1_3 a1_4).bind fun bt112 => ((spec_EqualServers.f k bt105.1 bt105.2.1 bt105.2.2.1 bt105.2.2.2.1 bt105.2.2.2.2 bt112.1 bt112.2.1 bt112.2.2.1 bt112.2.2.2.1 bt112.2.2.2.2).bind fun t119 => ((laws_toServer.f k a0_0 a0_1 a0_2 l0_3 a0_4).bind fun bt120 => ((laws_toServer.f k a1_0 a1_1 a1_2 l1_3 a1_4).bind fun bt128 => ((impl_EqualServers.f k bt120.1 bt120.2.1 bt120.2.2.1 bt120.2.2.2.1 bt120.2.2.2.2 bt128.1 bt128.2.1 bt128.2.2.1 bt128.2.2.2.1 bt128.2.2.2.2).bind fun t136 => (if (t136 != t119) = true then (none) else ((laws_toServer.f k a0_0 a0_1 a0_2 l0_3 a0_4).bind fun bt137 => ((laws_eqServer.f k bt120.1 bt120.2.1 bt120.2.2.1 bt120.2.2.2.1 bt120.2.2.2.2 bt137.1 bt137.2.1 bt137.2.2.1 bt137.2.2.2.1 bt137.2.2.2.2).bind fun t144 => (if t144 = true then ((laws_toServer.f k a1_0 a1_1 a1_2 l1_3 a1_4).bind fun bt145 => ((laws_eqServer.f k bt128.1 bt128.2.1 bt128.2.2.1 bt128.2.2.2.1 bt128.2.2.2.2 bt145.1 bt145.2.1 bt145.2.2.1 bt145.2.2.2.1 bt145.2.2.2.2).bind fun t152 => (if t152 = true then (some true) else (none)))) else (none))))))))))))))) = some r := h
  clear h
  replace H := Option.bind_eq_some_iff.mp H
  obtain ⟨t103, A30, H⟩ := H
  replace H : (if t103 < 0 then (some true) else ((laws_szServer.f k a1_0 a1_1 a1_2 l1_3 a1_4 t103).bind fun t104 => (if t104 < 0 then (some true) else ((laws_toServer.f k a0_0 a0_1 a0_2 l0_3 a0_4).bind fun bt105 => ((laws_toServer.f k a1_0 a1_1 a1_2 l1_3 a1_4).bind fun bt112 => ((spec_EqualServers.f k bt105.1 bt105.2.1 bt105.2.2.1 bt105.2.2.2.1 bt105.2.2.2.2 bt112.1 bt112.2.1 bt112.2.2.1 bt112.2.2.2.1 bt112.2.2.2.2).bind fun t119 => ((laws_toServer.f k a0_0 a0_1 a0_2 l0_3 a0_4).bind fun bt120 => ((laws_toServer.f k a1_0 a1_1 a1_2 l1_3 a1_4).bind fun bt128 => ((impl_EqualServers.f k bt120.1 bt120.2.1 bt120.2.2.1 bt120.2.2.2.1 bt120.2.2.2.2 bt128.1 bt128.2.1 bt128.2.2.1 bt128.2.2.2.1 bt128.2.2.2.2).bind fun t136 => (if (t136 != t119) = true then (none) else ((laws_toServer.f k a0_0 a0_1 a0_2 l0_3 a0_4).bind fun bt137 => ((laws_eqServer.f k bt120.1 bt120.2.1 bt120.2.2.1 bt120.2.2.2.1 bt120.2.2.2.2 bt137.1 bt137.2.1 bt137.2.2.1 bt137.2.2.2.1 bt137.2.2.2.2).bind fun t144 => (if t144 = true then ((laws_toServer.f k a1_0 a1_1 a1_2 l1_3 a1_4).bind fun bt145 => ((laws_eqServer.f k bt128.1 bt128.2.1 bt128.2.2.1 bt128.2.2.2.1 bt128.2.2.2.2 bt145.1 bt145.2.1 bt145.2.2.1 bt145.2.2.2.1 bt145.2.2.2.2).bind fun t152 => (if t152 = true then (some true) else (none)))) else (none)))))))))))))) = some r := H
  have A3 := Xam A30
  clear A30
  by_cases c4 : t103 < 0
  · rw [if_pos c4] at H
    have c4b0 : decide (t103 < 0) = true := decide_eq_true c4
    clear c4
    obtain rfl := Option.some.inj H
    go_enter Try.func13, Try.ntmps13
    go_wp2_with (first | ((with_reducible refine gate_dst (N := 2) rfl ?_); refine box_event ?hg (N := 2) ?hd (cs := #[.int .i64 a0_0, .int .i64 a0_1, .int .i64 a0_2, .slice A0_3 l0_3.length c0_3, .int .i64 a0_4]) (t := 61) ?hr ?_; (case hd => rfl); (case hg => rfl); (case hr => first | (go_simp; done) | (go_simp; rfl)); intro gb101 hg w5 hbox hb; have n0_ := Xam (Xbt (by repeat (first | (with_reducible first | exact HB.out | apply Xba | apply Xbn | apply Xbd) | exact HB.out)) hb); have n1_ := Xam (hbox); have n2_ := Xam ((by rw [hg]; exact (Xbs (by repeat (first | (with_reducible first | exact HB.out | apply Xba | apply Xbn | apply Xbd) | exact HB.out))) : w.heap.size ≤ gb101)); have n3_ := Xam ((by rw [hg]; exact (Xbs (by repeat (first | (with_reducible first | exact HB.out | apply Xba | apply Xbn | apply Xbd) | exact HB.out))) : w.heap.size ≤ gb101)); clear HB; have HB := n0_; have BK101 := n1_; have GW101 := n2_; have GE101 := n3_; clear n0_ n1_ n2_ n3_; clear hb hbox hg) | ((with_reducible refine gate_dst (N := 3) rfl ?_); refine box_event ?hg (N := 3) ?hd (cs := #[.int .i64 a1_0, .int .i64 a1_1, .int .i64 a1_2, .slice A1_3 l1_3.length c1_3, .int .i64 a1_4]) (t := 61) ?hr ?_; (case hd => rfl); (case hg => rfl); (case hr => first | (go_simp; done) | (go_simp; rfl)); intro gb102 hg w6 hbox hb; have n0_ := Xam (Xbb (g := gb101) (o := .cells #[.int .i64 a0_0, .int .i64 a0_1, .int .i64 a0_2, .slice A0_3 l0_3.length c0_3, .int .i64 a0_4] 61 (0, 0)) (by (with_reducible repeat (first | refine Xkn ?_ _ | refine Xkd ?_ | refine Xka ?_ _)); exact BK101.out) hb); have n1_ := Xam (Xbt (by repeat (first | (with_reducible first | exact HB.out | apply Xba | apply Xbn | apply Xbd | refine Xbe ?_ GE101.out) | exact HB.out)) hb); have n2_ := Xam (hbox); have n3_ := Xam ((by rw [hg]; exact (Xbs (by repeat (first | (with_reducible first | exact HB.out | apply Xba | apply Xbn | apply Xbd | refine Xbe ?_ GE101.out) | exact HB.out))) : w.heap.size ≤ gb102)); have n4_ := Xam ((by rw [hg]; exact (Xbs (by repeat (first | (with_reducible first | exact HB.out | apply Xba | apply Xbn | apply Xbd | refine Xbe ?_ GE101.out) | exact HB.out))) : w.heap.size ≤ gb102)); have n5_ := Xam ((by rw [hg]; exact Nat.ne_of_lt (Xbl (g := gb101) (o := .cells #[.int .i64 a0_0, .int .i64 a0_1, .int .i64 a0_2, .slice A0_3 l0_3.length c0_3, .int .i64 a0_4] 61 (0, 0)) (by (with_reducible repeat (first | refine Xkn ?_ _ | refine Xkd ?_ | refine Xka ?_ _)); exact BK101.out)) : gb101 ≠ gb102)); have n6_ := Xam ((by rw [hg]; exact Nat.ne_of_gt (Xbl (g := gb101) (o := .cells #[.int .i64 a0_0, .int .i64 a0_1, .int .i64 a0_2, .slice A0_3 l0_3.length c0_3, .int .i64 a0_4] 61 (0, 0)) (by (with_reducible repeat (first | refine Xkn ?_ _ | refine Xkd ?_ | refine Xka ?_ _)); exact BK101.out)) : gb102 ≠ gb101)); clear BK101; clear HB; have BK101 := n0_; have HB := n1_; have BK102 := n2_; have GW102 := n3_; have GE102 := n4_; have NB101_102 := n5_; have NB102_101 := n6_; clear n0_ n1_ n2_ n3_ n4_ n5_ n6_; clear hb hbox hg; have hnb7 := NB101_102.out; have hnc7 := NB102_101.out; have hcz8_0 : w6.cell? ⟨gb101, 0, none⟩ = some (.int .i64 a0_0) := (Xbc BK101.out 0).trans rfl; have hcz8_1 : w6.cell? ⟨gb101, 1, none⟩ = some (.int .i64 a0_1) := (Xbc BK101.out 1).trans rfl; have hcz8_2 : w6.cell? ⟨gb101, 2, none⟩ = some (.int .i64 a0_2) := (Xbc BK101.out 2).trans rfl; have hcz8_3 : w6.cell? ⟨gb101, 3, none⟩ = some (.slice A0_3 l0_3.length c0_3) := (Xbc BK101.out 3).trans rfl; have hcz8_4 : w6.cell? ⟨gb101, 4, none⟩ = some (.int .i64 a0_4) := (Xbc BK101.out 4).trans rfl; have hfz8_0 := Xbf BK101.out 0; have hfz8_1 := Xbf BK101.out 1; have hfz8_2 := Xbf BK101.out 2; have hfz8_3 := Xbf BK101.out 3; have hfz8_4 := Xbf BK101.out 4) | ((with_reducible refine gate_callee (f := 38) rfl ?_); refine goesL_ (some 12) rfl rfl Try.func38 (by kernel_rfl) rfl #[.agg #[.int .i64 a0_0, .int .i64 a0_1, .int .i64 a0_2, .slice A0_3 l0_3.length c0_3, .int .i64 a0_4], .int .i64 1048576] rfl (by (try simp only [List.map_toArray, List.map_cons, List.map_nil]); first | done | rfl | (simp only [List.length_drop, List.length_take]; rfl)) ?_; (with_reducible refine (laws_szServer.calls k a0_0 a0_1 a0_2 _ _ l0_3 a0_4 1048576 t103 _ ?side1 ?side2 A3.out).mono ?_); (case side1 => repeat (first | exact (Kd.C_below HR0_3.out HB.out) | (with_reducible refine Xca ?_ _) | (with_reducible refine Xcn ?_ _) | (with_reducible refine Xcd ?_))); (case side2 => exact HC0_3.out); rintro e w9 ⟨rfl, hb⟩; refine ⟨_, rfl, ?_⟩; have n0_ := Xam (Xbb (g := gb101) (o := .cells #[.int .i64 a0_0, .int .i64 a0_1, .int .i64 a0_2, .slice A0_3 l0_3.length c0_3, .int .i64 a0_4] 61 (0, 0)) (by (with_reducible repeat (first | refine Xkn ?_ _ | refine Xkd ?_ | refine Xka ?_ _)); exact BK101.out) hb); have n1_ := Xam (Xbb (g := gb102) (o := .cells #[.int .i64 a1_0, .int .i64 a1_1, .int .i64 a1_2, .slice A1_3 l1_3.length c1_3, .int .i64 a1_4] 61 (0, 0)) (by (with_reducible repeat (first | refine Xkn ?_ _ | refine Xkd ?_ | refine Xka ?_ _)); exact BK102.out) hb); have n2_ := Xam (Xbt (by repeat (first | (with_reducible first | exact HB.out | apply Xba | apply Xbn | apply Xbd | refine Xbe ?_ GE101.out | refine Xbe ?_ GE102.out) | exact HB.out)) hb); clear BK101; clear BK102; clear HB; have BK101 := n0_; have BK102 := n1_; have HB := n2_; clear n0_ n1_ n2_; (try clear hb); (try clear hb2); (try clear hk); (try clear hi)))
    go_ret
    exact ⟨by first | rfl | (simp [errW_none, errW_some] <;> rfl) | (simp [*, errW_none, errW_some] <;> rfl), by repeat (first | (with_reducible first | exact HB.out | apply Xba | apply Xbn | apply Xbd | refine Xbe ?_ GE101.out | refine Xbe ?_ GE102.out) | exact HB.out)⟩
  · rw [if_neg c4] at H
    have c4b0 : decide (t103 < 0) = false := decide_eq_false c4
    clear c4
    replace H := Option.bind_eq_some_iff.mp H
    obtain ⟨t104, A100, H⟩ := H
    replace H : (if t104 < 0 then (some true) else ((laws_toServer.f k a0_0 a0_1 a0_2 l0_3 a0_4).bind fun bt105 => ((laws_toServer.f k a1_0 a1_1 a1_2 l1_3 a1_4).bind fun bt112 => ((spec_EqualServers.f k bt105.1 bt105.2.1 bt105.2.2.1 bt105.2.2.2.1 bt105.2.2.2.2 bt112.1 bt112.2.1 bt112.2.2.1 bt112.2.2.2.1 bt112.2.2.2.2).bind fun t119 => ((laws_toServer.f k a0_0 a0_1 a0_2 l0_3 a0_4).bind fun bt120 => ((laws_toServer.f k a1_0 a1_1 a1_2 l1_3 a1_4).bind fun bt128 => ((impl_EqualServers.f k bt120.1 bt120.2.1 bt120.2.2.1 bt120.2.2.2.1 bt120.2.2.2.2 bt128.1 bt128.2.1 bt128.2.2.1 bt128.2.2.2.1 bt128.2.2.2.2).bind fun t136 => (if (t136 != t119) = true then (none) else ((laws_toServer.f k a0_0 a0_1 a0_2 l0_3 a0_4).bind fun bt137 => ((laws_eqServer.f k bt120.1 bt120.2.1 bt120.2.2.1 bt120.2.2.2.1 bt120.2.2.2.2 bt137.1 bt137.2.1 bt137.2.2.1 bt137.2.2.2.1 bt137.2.2.2.2).bind fun t144 => (if t144 = true then ((laws_toServer.f k a1_0 a1_1 a1_2 l1_3 a1_4).bind fun bt145 => ((laws_eqServer.f k bt128.1 bt128.2.1 bt128.2.2.1 bt128.2.2.2.1 bt128.2.2.2.2 bt145.1 bt145.2.1 bt145.2.2.1 bt145.2.2.2.1 bt145.2.2.2.2).bind fun t152 => (if t152 = true then (some true) else (none)))) else (none)))))))))))) = some r := H
    have A10 := Xam A100
    clear A100
    by_cases c11 : t104 < 0
    · rw [if_pos c11] at H
      have c11b0 : decide (t104 < 0) = true := decide_eq_true c11
      clear c11
      obtain rfl := Option.some.inj H
      go_enter Try.func13, Try.ntmps13
      go_wp2_with (first | ((with_reducible refine gate_dst (N := 2) rfl ?_); refine box_event ?hg (N := 2) ?hd (cs := #[.int .i64 a0_0, .int .i64 a0_1, .int .i64 a0_2, .slice A0_3 l0_3.length c0_3, .int .i64 a0_4]) (t := 61) ?hr ?_; (case hd => rfl); (case hg => rfl); (case hr => first | (go_simp; done) | (go_simp; rfl)); intro gb101 hg w12 hbox hb; have n0_ := Xam (Xbt (by repeat (first | (with_reducible first | exact HB.out | apply Xba | apply Xbn | apply Xbd) | exact HB.out)) hb); have n1_ := Xam (hbox); have n2_ := Xam ((by rw [hg]; exact (Xbs (by repeat (first | (with_reducible first | exact HB.out | apply Xba | apply Xbn | apply Xbd) | exact HB.out))) : w.heap.size ≤ gb101)); have n3_ := Xam ((by rw [hg]; exact (Xbs (by repeat (first | (with_reducible first | exact HB.out | apply Xba | apply Xbn | apply Xbd) | exact HB.out))) : w.heap.size ≤ gb101)); clear HB; have HB := n0_; have BK101 := n1_; have GW101 := n2_; have GE101 := n3_; clear n0_ n1_ n2_ n3_; clear hb hbox hg) | ((with_reducible refine gate_dst (N := 3) rfl ?_); refine box_event ?hg (N := 3) ?hd (cs := #[.int .i64 a1_0, .int .i64 a1_1, .int .i64 a1_2, .slice A1_3 l1_3.length c1_3, .int .i64 a1_4]) (t := 61) ?hr ?_; (case hd => rfl); (case hg => rfl); (case hr => first | (go_simp; done) | (go_simp; rfl)); intro gb102 hg w13 hbox hb; have n0_ := Xam (Xbb (g := gb101) (o := .cells #[.int .i64 a0_0, .int .i64 a0_1, .int .i64 a0_2, .slice A0_3 l0_3.length c0_3, .int .i64 a0_4] 61 (0, 0)) (by (with_reducible repeat (first | refine Xkn ?_ _ | refine Xkd ?_ | refine Xka ?_ _)); exact BK101.out) hb); have n1_ := Xam (Xbt (by repeat (first | (with_reducible first | exact HB.out | apply Xba | apply Xbn | apply Xbd | refine Xbe ?_ GE101.out) | exact HB.out)) hb); have n2_ := Xam (hbox); have n3_ := Xam ((by rw [hg]; exact (Xbs (by repeat (first | (with_reducible first | exact HB.out | apply Xba | apply Xbn | apply Xbd | refine Xbe ?_ GE101.out) | exact HB.out))) : w.heap.size ≤ gb102)); have n4_ := Xam ((by rw [hg]; exact (Xbs (by repeat (first | (with_reducible first | exact HB.out | apply Xba | apply Xbn | apply Xbd | refine Xbe ?_ GE101.out) | exact HB.out))) : w.heap.size ≤ gb102)); have n5_ := Xam ((by rw [hg]; exact Nat.ne_of_lt (Xbl (g := gb101) (o := .cells #[.int .i64 a0_0, .int .i64 a0_1, .int .i64 a0_2, .slice A0_3 l0_3.length c0_3, .int .i64 a0_4] 61 (0, 0)) (by (with_reducible repeat (first | refine Xkn ?_ _ | refine Xkd ?_ | refine Xka ?_ _)); exact BK101.out)) : gb101 ≠ gb102)); have n6_ := Xam ((by rw [hg]; exact Nat.ne_of_gt (Xbl (g := gb101) (o := .cells #[.int .i64 a0_0, .int .i64 a0_1, .int .i64 a0_2, .slice A0_3 l0_3.length c0_3, .int .i64 a0_4] 61 (0, 0)) (by (with_reducible repeat (first | refine Xkn ?_ _ | refine Xkd ?_ | refine Xka ?_ _)); exact BK101.out)) : gb102 ≠ gb101)); clear BK101; clear HB; have BK101 := n0_; have HB := n1_; have BK102 := n2_; have GW102 := n3_; have GE102 := n4_; have NB101_102 := n5_; have NB102_101 := n6_; clear n0_ n1_ n2_ n3_ n4_ n5_ n6_; clear hb hbox hg; have hnb14 := NB101_102.out; have hnc14 := NB102_101.out; have hcz15_0 : w13.cell? ⟨gb101, 0, none⟩ = some (.int .i64 a0_0) := (Xbc BK101.out 0).trans rfl; have hcz15_1 : w13.cell? ⟨gb101, 1, none⟩ = some (.int .i64 a0_1) := (Xbc BK101.out 1).trans rfl; have hcz15_2 : w13.cell? ⟨gb101, 2, none⟩ = some (.int .i64 a0_2) := (Xbc BK101.out 2).trans rfl; have hcz15_3 : w13.cell? ⟨gb101, 3, none⟩ = some (.slice A0_3 l0_3.length c0_3) := (Xbc BK101.out 3).trans rfl; have hcz15_4 : w13.cell? ⟨gb101, 4, none⟩ = some (.int .i64 a0_4) := (Xbc BK101.out 4).trans rfl; have hfz15_0 := Xbf BK101.out 0; have hfz15_1 := Xbf BK101.out 1; have hfz15_2 := Xbf BK101.out 2; have hfz15_3 := Xbf BK101.out 3; have hfz15_4 := Xbf BK101.out 4) | ((with_reducible refine gate_callee (f := 38) rfl ?_); refine goesL_ (some 12) rfl rfl Try.func38 (by kernel_rfl) rfl #[.agg #[.int .i64 a0_0, .int .i64 a0_1, .int .i64 a0_2, .slice A0_3 l0_3.length c0_3, .int .i64 a0_4], .int .i64 1048576] rfl (by (try simp only [List.map_toArray, List.map_cons, List.map_nil]); first | done | rfl | (simp only [List.length_drop, List.length_take]; rfl)) ?_; (with_reducible refine (laws_szServer.calls k a0_0 a0_1 a0_2 _ _ l0_3 a0_4 1048576 t103 _ ?side1 ?side2 A3.out).mono ?_); (case side1 => repeat (first | exact (Kd.C_below HR0_3.out HB.out) | (with_reducible refine Xca ?_ _) | (with_reducible refine Xcn ?_ _) | (with_reducible refine Xcd ?_))); (case side2 => exact HC0_3.out); rintro e w16 ⟨rfl, hb⟩; refine ⟨_, rfl, ?_⟩; have n0_ := Xam (Xbb (g := gb101) (o := .cells #[.int .i64 a0_0, .int .i64 a0_1, .int .i64 a0_2, .slice A0_3 l0_3.length c0_3, .int .i64 a0_4] 61 (0, 0)) (by (with_reducible repeat (first | refine Xkn ?_ _ | refine Xkd ?_ | refine Xka ?_ _)); exact BK101.out) hb); have n1_ := Xam (Xbb (g := gb102) (o := .cells #[.int .i64 a1_0, .int .i64 a1_1, .int .i64 a1_2, .slice A1_3 l1_3.length c1_3, .int .i64 a1_4] 61 (0, 0)) (by (with_reducible repeat (first | refine Xkn ?_ _ | refine Xkd ?_ | refine Xka ?_ _)); exact BK102.out) hb); have n2_ := Xam (Xbt (by repeat (first | (with_reducible first | exact HB.out | apply Xba | apply Xbn | apply Xbd | refine Xbe ?_ GE101.out | refine Xbe ?_ GE102.out) | exact HB.out)) hb); clear BK101; clear BK102; clear HB; have BK101 := n0_; have BK102 := n1_; have HB := n2_; clear n0_ n1_ n2_; (try clear hb); (try clear hb2); (try clear hk); (try clear hi); have hcz17_0 : w16.cell? ⟨gb102, 0, none⟩ = some (.int .i64 a1_0) := (Xbc BK102.out 0).trans rfl; have hcz17_1 : w16.cell? ⟨gb102, 1, none⟩ = some (.int .i64 a1_1) := (Xbc BK102.out 1).trans rfl; have hcz17_2 : w16.cell? ⟨gb102, 2, none⟩ = some (.int .i64 a1_2) := (Xbc BK102.out 2).trans rfl; have hcz17_3 : w16.cell? ⟨gb102, 3, none⟩ = some (.slice A1_3 l1_3.length c1_3) := (Xbc BK102.out 3).trans rfl; have hcz17_4 : w16.cell? ⟨gb102, 4, none⟩ = some (.int .i64 a1_4) := (Xbc BK102.out 4).trans rfl; have hfz17_0 := Xbf BK102.out 0; have hfz17_1 := Xbf BK102.out 1; have hfz17_2 := Xbf BK102.out 2; have hfz17_3 := Xbf BK102.out 3; have hfz17_4 := Xbf BK102.out 4) | ((with_reducible refine gate_callee (f := 38) rfl ?_); refine goesL_ (some 17) rfl rfl Try.func38 (by kernel_rfl) rfl #[.agg #[.int .i64 a1_0, .int .i64 a1_1, .int .i64 a1_2, .slice A1_3 l1_3.length c1_3, .int .i64 a1_4], .int .i64 t103] rfl (by (try simp only [List.map_toArray, List.map_cons, List.map_nil]); first | done | rfl | (simp only [List.length_drop, List.length_take]; rfl)) ?_; (with_reducible refine (laws_szServer.calls k a1_0 a1_1 a1_2 _ _ l1_3 a1_4 t103 t104 _ ?side1 ?side2 A10.out).mono ?_); (case side1 => repeat (first | exact (Kd.C_below HR1_3.out HB.out) | (with_reducible refine Xca ?_ _) | (with_reducible refine Xcn ?_ _) | (with_reducible refine Xcd ?_))); (case side2 => exact HC1_3.out); rintro e w18 ⟨rfl, hb⟩; refine ⟨_, rfl, ?_⟩; have n0_ := Xam (Xbb (g := gb101) (o := .cells #[.int .i64 a0_0, .int .i64 a0_1, .int .i64 a0_2, .slice A0_3 l0_3.length c0_3, .int .i64 a0_4] 61 (0, 0)) (by (with_reducible repeat (first | refine Xkn ?_ _ | refine Xkd ?_ | refine Xka ?_ _)); exact BK101.out) hb); have n1_ := Xam (Xbb (g := gb102) (o := .cells #[.int .i64 a1_0, .int .i64 a1_1, .int .i64 a1_2, .slice A1_3 l1_3.length c1_3, .int .i64 a1_4] 61 (0, 0)) (by (with_reducible repeat (first | refine Xkn ?_ _ | refine Xkd ?_ | refine Xka ?_ _)); exact BK102.out) hb); have n2_ := Xam (Xbt (by repeat (first | (with_reducible first | exact HB.out | apply Xba | apply Xbn | apply Xbd | refine Xbe ?_ GE101.out | refine Xbe ?_ GE102.out) | exact HB.out)) hb); clear BK101; clear BK102; clear HB; have BK101 := n0_; have BK102 := n1_; have HB := n2_; clear n0_ n1_ n2_; (try clear hb); (try clear hb2); (try clear hk); (try clear hi)))
      go_ret
      exact ⟨by first | rfl | (simp [errW_none, errW_some] <;> rfl) | (simp [*, errW_none, errW_some] <;> rfl), by repeat (first | (with_reducible first | exact HB.out | apply Xba | apply Xbn | apply Xbd | refine Xbe ?_ GE101.out | refine Xbe ?_ GE102.out) | exact HB.out)⟩
    · rw [if_neg c11] at H
      have c11b0 : decide (t104 < 0) = false := decide_eq_false c11
      clear c11
      replace H := Option.bind_eq_some_iff.mp H
      obtain ⟨⟨t105, t106, t107, t108, t111⟩, A190, H⟩ := H
      replace H : ((laws_toServer.f k a1_0 a1_1 a1_2 l1_3 a1_4).bind fun bt112 => ((spec_EqualServers.f k t105 t106 t107 t108 t111 bt112.1 bt112.2.1 bt112.2.2.1 bt112.2.2.2.1 bt112.2.2.2.2).bind fun t119 => ((laws_toServer.f k a0_0 a0_1 a0_2 l0_3 a0_4).bind fun bt120 => ((laws_toServer.f k a1_0 a1_1 a1_2 l1_3 a1_4).bind fun bt128 => ((impl_EqualServers.f k bt120.1 bt120.2.1 bt120.2.2.1 bt120.2.2.2.1 bt120.2.2.2.2 bt128.1 bt128.2.1 bt128.2.2.1 bt128.2.2.2.1 bt128.2.2.2.2).bind fun t136 => (if (t136 != t119) = true then (none) else ((laws_toServer.f k a0_0 a0_1 a0_2 l0_3 a0_4).bind fun bt137 => ((laws_eqServer.f k bt120.1 bt120.2.1 bt120.2.2.1 bt120.2.2.2.1 bt120.2.2.2.2 bt137.1 bt137.2.1 bt137.2.2.1 bt137.2.2.2.1 bt137.2.2.2.2).bind fun t144 => (if t144 = true then ((laws_toServer.f k a1_0 a1_1 a1_2 l1_3 a1_4).bind fun bt145 => ((laws_eqServer.f k bt128.1 bt128.2.1 bt128.2.2.1 bt128.2.2.2.1 bt128.2.2.2.2 bt145.1 bt145.2.1 bt145.2.2.1 bt145.2.2.2.1 bt145.2.2.2.2).bind fun t152 => (if t152 = true then (some true) else (none)))) else (none)))))))))) = some r := H
      have A19 := Xam A190
      clear A190
      replace H := Option.bind_eq_some_iff.mp H
      obtain ⟨⟨t112, t113, t114, t115, t118⟩, A200, H⟩ := H
      replace H : ((spec_EqualServers.f k t105 t106 t107 t108 t111 t112 t113 t114 t115 t118).bind fun t119 => ((laws_toServer.f k a0_0 a0_1 a0_2 l0_3 a0_4).bind fun bt120 => ((laws_toServer.f k a1_0 a1_1 a1_2 l1_3 a1_4).bind fun bt128 => ((impl_EqualServers.f k bt120.1 bt120.2.1 bt120.2.2.1 bt120.2.2.2.1 bt120.2.2.2.2 bt128.1 bt128.2.1 bt128.2.2.1 bt128.2.2.2.1 bt128.2.2.2.2).bind fun t136 => (if (t136 != t119) = true then (none) else ((laws_toServer.f k a0_0 a0_1 a0_2 l0_3 a0_4).bind fun bt137 => ((laws_eqServer.f k bt120.1 bt120.2.1 bt120.2.2.1 bt120.2.2.2.1 bt120.2.2.2.2 bt137.1 bt137.2.1 bt137.2.2.1 bt137.2.2.2.1 bt137.2.2.2.2).bind fun t144 => (if t144 = true then ((laws_toServer.f k a1_0 a1_1 a1_2 l1_3 a1_4).bind fun bt145 => ((laws_eqServer.f k bt128.1 bt128.2.1 bt128.2.2.1 bt128.2.2.2.1 bt128.2.2.2.2 bt145.1 bt145.2.1 bt145.2.2.1 bt145.2.2.2.1 bt145.2.2.2.2).bind fun t152 => (if t152 = true then (some true) else (none)))) else (none))))))))) = some r := H
      have A20 := Xam A200
      clear A200
      replace H := Option.bind_eq_some_iff.mp H
      obtain ⟨t119, A210, H⟩ := H
      replace H : ((laws_toServer.f k a0_0 a0_1 a0_2 l0_3 a0_4).bind fun bt120 => ((laws_toServer.f k a1_0 a1_1 a1_2 l1_3 a1_4).bind fun bt128 => ((impl_EqualServers.f k bt120.1 bt120.2.1 bt120.2.2.1 bt120.2.2.2.1 bt120.2.2.2.2 bt128.1 bt128.2.1 bt128.2.2.1 bt128.2.2.2.1 bt128.2.2.2.2).bind fun t136 => (if (t136 != t119) = true then (none) else ((laws_toServer.f k a0_0 a0_1 a0_2 l0_3 a0_4).bind fun bt137 => ((laws_eqServer.f k bt120.1 bt120.2.1 bt120.2.2.1 bt120.2.2.2.1 bt120.2.2.2.2 bt137.1 bt137.2.1 bt137.2.2.1 bt137.2.2.2.1 bt137.2.2.2.2).bind fun t144 => (if t144 = true then ((laws_toServer.f k a1_0 a1_1 a1_2 l1_3 a1_4).bind fun bt145 => ((laws_eqServer.f k bt128.1 bt128.2.1 bt128.2.2.1 bt128.2.2.2.1 bt128.2.2.2.2 bt145.1 bt145.2.1 bt145.2.2.1 bt145.2.2.2.1 bt145.2.2.2.2).bind fun t152 => (if t152 = true then (some true) else (none)))) else (none)))))))) = some r := H
      have A21 := Xam A210
      clear A210
      replace H := Option.bind_eq_some_iff.mp H
      obtain ⟨⟨t120, t121, t122, t123, t126⟩, A220, H⟩ := H
      replace H : ((laws_toServer.f k a1_0 a1_1 a1_2 l1_3 a1_4).bind fun bt128 => ((impl_EqualServers.f k t120 t121 t122 t123 t126 bt128.1 bt128.2.1 bt128.2.2.1 bt128.2.2.2.1 bt128.2.2.2.2).bind fun t136 => (if (t136 != t119) = true then (none) else ((laws_toServer.f k a0_0 a0_1 a0_2 l0_3 a0_4).bind fun bt137 => ((laws_eqServer.f k t120 t121 t122 t123 t126 bt137.1 bt137.2.1 bt137.2.2.1 bt137.2.2.2.1 bt137.2.2.2.2).bind fun t144 => (if t144 = true then ((laws_toServer.f k a1_0 a1_1 a1_2 l1_3 a1_4).bind fun bt145 => ((laws_eqServer.f k bt128.1 bt128.2.1 bt128.2.2.1 bt128.2.2.2.1 bt128.2.2.2.2 bt145.1 bt145.2.1 bt145.2.2.1 bt145.2.2.2.1 bt145.2.2.2.2).bind fun t152 => (if t152 = true then (some true) else (none)))) else (none))))))) = some r := H
      have A22 := Xam A220
      clear A220
      replace H := Option.bind_eq_some_iff.mp H
      obtain ⟨⟨t128, t129, t130, t131, t134⟩, A230, H⟩ := H
      replace H : ((impl_EqualServers.f k t120 t121 t122 t123 t126 t128 t129 t130 t131 t134).bind fun t136 => (if (t136 != t119) = true then (none) else ((laws_toServer.f k a0_0 a0_1 a0_2 l0_3 a0_4).bind fun bt137 => ((laws_eqServer.f k t120 t121 t122 t123 t126 bt137.1 bt137.2.1 bt137.2.2.1 bt137.2.2.2.1 bt137.2.2.2.2).bind fun t144 => (if t144 = true then ((laws_toServer.f k a1_0 a1_1 a1_2 l1_3 a1_4).bind fun bt145 => ((laws_eqServer.f k t128 t129 t130 t131 t134 bt145.1 bt145.2.1 bt145.2.2.1 bt145.2.2.2.1 bt145.2.2.2.2).bind fun t152 => (if t152 = true then (some true) else (none)))) else (none)))))) = some r := H
      have A23 := Xam A230
      clear A230
      replace H := Option.bind_eq_some_iff.mp H
      obtain ⟨t136, A240, H⟩ := H
      replace H : (if (t136 != t119) = true then (none) else ((laws_toServer.f k a0_0 a0_1 a0_2 l0_3 a0_4).bind fun bt137 => ((laws_eqServer.f k t120 t121 t122 t123 t126 bt137.1 bt137.2.1 bt137.2.2.1 bt137.2.2.2.1 bt137.2.2.2.2).bind fun t144 => (if t144 = true then ((laws_toServer.f k a1_0 a1_1 a1_2 l1_3 a1_4).bind fun bt145 => ((laws_eqServer.f k t128 t129 t130 t131 t134 bt145.1 bt145.2.1 bt145.2.2.1 bt145.2.2.2.1 bt145.2.2.2.2).bind fun t152 => (if t152 = true then (some true) else (none)))) else (none))))) = some r := H
      have A24 := Xam A240
      clear A240
      by_cases c25 : (t136 != t119) = true
      · rw [if_pos c25] at H
        exact absurd H (by simp)
      · rw [if_neg c25] at H
        have c25b0 : (t136 != t119) = false := by simpa using c25
        (try (have c25b1 : decide (t136 = t119) = true := by simpa using c25))
        (try (have c25b2 : (t136 == t119) = true := by simpa using c25))
        clear c25
        replace H := Option.bind_eq_some_iff.mp H
        obtain ⟨⟨t137, t138, t139, t140, t143⟩, A260, H⟩ := H
        replace H : ((laws_eqServer.f k t120 t121 t122 t123 t126 t137 t138 t139 t140 t143).bind fun t144 => (if t144 = true then ((laws_toServer.f k a1_0 a1_1 a1_2 l1_3 a1_4).bind fun bt145 => ((laws_eqServer.f k t128 t129 t130 t131 t134 bt145.1 bt145.2.1 bt145.2.2.1 bt145.2.2.2.1 bt145.2.2.2.2).bind fun t152 => (if t152 = true then (some true) else (none)))) else (none))) = some r := H
        have A26 := Xam A260
        clear A260
        replace H := Option.bind_eq_some_iff.mp H
        obtain ⟨t144, A270, H⟩ := H
        replace H : (if t144 = true then ((laws_toServer.f k a1_0 a1_1 a1_2 l1_3 a1_4).bind fun bt145 => ((laws_eqServer.f k t128 t129 t130 t131 t134 bt145.1 bt145.2.1 bt145.2.2.1 bt145.2.2.2.1 bt145.2.2.2.2).bind fun t152 => (if t152 = true then (some true) else (none)))) else (none)) = some r := H
        have A27 := Xam A270
        clear A270
        by_cases c28 : t144 = true
        · subst c28
          have H1 : ((laws_toServer.f k a1_0 a1_1 a1_2 l1_3 a1_4).bind fun bt145 => ((laws_eqServer.f k t128 t129 t130 t131 t134 bt145.1 bt145.2.1 bt145.2.2.1 bt145.2.2.2.1 bt145.2.2.2.2).bind fun t152 => (if t152 = true then (some true) else (none)))) = some r := by rw [if_pos rfl] at H; exact H
          clear H
          have H := H1
          clear H1
          replace H := Option.bind_eq_some_iff.mp H
          obtain ⟨⟨t145, t146, t147, t148, t151⟩, A290, H⟩ := H
          replace H : ((laws_eqServer.f k t128 t129 t130 t131 t134 t145 t146 t147 t148 t151).bind fun t152 => (if t152 = true then (some true) else (none))) = some r := H
          have A29 := Xam A290
          clear A290
          replace H := Option.bind_eq_some_iff.mp H
          obtain ⟨t152, A300, H⟩ := H
          replace H : (if t152 = true then (some true) else (none)) = some r := H
          have A30 := Xam A300
          clear A300
          by_cases c31 : t152 = true
          · subst c31
            have H1 : (some true) = some r := by rw [if_pos rfl] at H; exact H
            clear H
            have H := H1
            clear H1
            obtain rfl := Option.some.inj H
            go_enter Try.func13, Try.ntmps13
            try go_wp2_with (first | ((with_reducible refine gate_dst (N := 2) rfl ?_); refine box_event ?hg (N := 2) ?hd (cs := #[.int .i64 a0_0, .int .i64 a0_1, .int .i64 a0_2, .slice A0_3 l0_3.length c0_3, .int .i64 a0_4]) (t := 61) ?hr ?_; (case hd => rfl); (case hg => rfl); (case hr => first | (go_simp; done) | (go_simp; rfl)); intro gb101 hg w32 hbox hb; have n0_ := Xam (Xbt (by repeat (first | (with_reducible first | exact HB.out | apply Xba | apply Xbn | apply Xbd) | exact HB.out)) hb); have n1_ := Xam (hbox); have n2_ := Xam ((by rw [hg]; exact (Xbs (by repeat (first | (with_reducible first | exact HB.out | apply Xba | apply Xbn | apply Xbd) | exact HB.out))) : w.heap.size ≤ gb101)); have n3_ := Xam ((by rw [hg]; exact (Xbs (by repeat (first | (with_reducible first | exact HB.out | apply Xba | apply Xbn | apply Xbd) | exact HB.out))) : w.heap.size ≤ gb101)); clear HB; have HB := n0_; have BK101 := n1_; have GW101 := n2_; have GE101 := n3_; clear n0_ n1_ n2_ n3_; clear hb hbox hg) | ((with_reducible refine gate_dst (N := 3) rfl ?_); refine box_event ?hg (N := 3) ?hd (cs := #[.int .i64 a1_0, .int .i64 a1_1, .int .i64 a1_2, .slice A1_3 l1_3.length c1_3, .int .i64 a1_4]) (t := 61) ?hr ?_; (case hd => rfl); (case hg => rfl); (case hr => first | (go_simp; done) | (go_simp; rfl)); intro gb102 hg w33 hbox hb; have n0_ := Xam (Xbb (g := gb101) (o := .cells #[.int .i64 a0_0, .int .i64 a0_1, .int .i64 a0_2, .slice A0_3 l0_3.length c0_3, .int .i64 a0_4] 61 (0, 0)) (by (with_reducible repeat (first | refine Xkn ?_ _ | refine Xkd ?_ | refine Xka ?_ _)); exact BK101.out) hb); have n1_ := Xam (Xbt (by repeat (first | (with_reducible first | exact HB.out | apply Xba | apply Xbn | apply Xbd | refine Xbe ?_ GE101.out) | exact HB.out)) hb); have n2_ := Xam (hbox); have n3_ := Xam ((by rw [hg]; exact (Xbs (by repeat (first | (with_reducible first | exact HB.out | apply Xba | apply Xbn | apply Xbd | refine Xbe ?_ GE101.out) | exact HB.out))) : w.heap.size ≤ gb102)); have n4_ := Xam ((by rw [hg]; exact (Xbs (by repeat (first | (with_reducible first | exact HB.out | apply Xba | apply Xbn | apply Xbd | refine Xbe ?_ GE101.out) | exact HB.out))) : w.heap.size ≤ gb102)); have n5_ := Xam ((by rw [hg]; exact Nat.ne_of_lt (Xbl (g := gb101) (o := .cells #[.int .i64 a0_0, .int .i64 a0_1, .int .i64 a0_2, .slice A0_3 l0_3.length c0_3, .int .i64 a0_4] 61 (0, 0)) (by (with_reducible repeat (first | refine Xkn ?_ _ | refine Xkd ?_ | refine Xka ?_ _)); exact BK101.out)) : gb101 ≠ gb102)); have n6_ := Xam ((by rw [hg]; exact Nat.ne_of_gt (Xbl (g := gb101) (o := .cells #[.int .i64 a0_0, .int .i64 a0_1, .int .i64 a0_2, .slice A0_3 l0_3.length c0_3, .int .i64 a0_4] 61 (0, 0)) (by (with_reducible repeat (first | refine Xkn ?_ _ | refine Xkd ?_ | refine Xka ?_ _)); exact BK101.out)) : gb102 ≠ gb101)); clear BK101; clear HB; have BK101 := n0_; have HB := n1_; have BK102 := n2_; have GW102 := n3_; have GE102 := n4_; have NB101_102 := n5_; have NB102_101 := n6_; clear n0_ n1_ n2_ n3_ n4_ n5_ n6_; clear hb hbox hg; have hnb34 := NB101_102.out; have hnc34 := NB102_101.out; have hcz35_0 : w33.cell? ⟨gb101, 0, none⟩ = some (.int .i64 a0_0) := (Xbc BK101.out 0).trans rfl; have hcz35_1 : w33.cell? ⟨gb101, 1, none⟩ = some (.int .i64 a0_1) := (Xbc BK101.out 1).trans rfl; have hcz35_2 : w33.cell? ⟨gb101, 2, none⟩ = some (.int .i64 a0_2) := (Xbc BK101.out 2).trans rfl; have hcz35_3 : w33.cell? ⟨gb101, 3, none⟩ = some (.slice A0_3 l0_3.length c0_3) := (Xbc BK101.out 3).trans rfl; have hcz35_4 : w33.cell? ⟨gb101, 4, none⟩ = some (.int .i64 a0_4) := (Xbc BK101.out 4).trans rfl; have hfz35_0 := Xbf BK101.out 0; have hfz35_1 := Xbf BK101.out 1; have hfz35_2 := Xbf BK101.out 2; have hfz35_3 := Xbf BK101.out 3; have hfz35_4 := Xbf BK101.out 4) | ((with_reducible refine gate_callee (f := 38) rfl ?_); refine goesL_ (some 12) rfl rfl Try.func38 (by kernel_rfl) rfl #[.agg #[.int .i64 a0_0, .int .i64 a0_1, .int .i64 a0_2, .slice A0_3 l0_3.length c0_3, .int .i64 a0_4], .int .i64 1048576] rfl (by (try simp only [List.map_toArray, List.map_cons, List.map_nil]); first | done | rfl | (simp only [List.length_drop, List.length_take]; rfl)) ?_; (with_reducible refine (laws_szServer.calls k a0_0 a0_1 a0_2 _ _ l0_3 a0_4 1048576 t103 _ ?side1 ?side2 A3.out).mono ?_); (case side1 => repeat (first | exact (Kd.C_below HR0_3.out HB.out) | (with_reducible refine Xca ?_ _) | (with_reducible refine Xcn ?_ _) | (with_reducible refine Xcd ?_))); (case side2 => exact HC0_3.out); rintro e w36 ⟨rfl, hb⟩; refine ⟨_, rfl, ?_⟩; have n0_ := Xam (Xbb (g := gb101) (o := .cells #[.int .i64 a0_0, .int .i64 a0_1, .int .i64 a0_2, .slice A0_3 l0_3.length c0_3, .int .i64 a0_4] 61 (0, 0)) (by (with_reducible repeat (first | refine Xkn ?_ _ | refine Xkd ?_ | refine Xka ?_ _)); exact BK101.out) hb); have n1_ := Xam (Xbb (g := gb102) (o := .cells #[.int .i64 a1_0, .int .i64 a1_1, .int .i64 a1_2, .slice A1_3 l1_3.length c1_3, .int .i64 a1_4] 61 (0, 0)) (by (with_reducible repeat (first | refine Xkn ?_ _ | refine Xkd ?_ | refine Xka ?_ _)); exact BK102.out) hb); have n2_ := Xam (Xbt (by repeat (first | (with_reducible first | exact HB.out | apply Xba | apply Xbn | apply Xbd | refine Xbe ?_ GE101.out | refine Xbe ?_ GE102.out) | exact HB.out)) hb); clear BK101; clear BK102; clear HB; have BK101 := n0_; have BK102 := n1_; have HB := n2_; clear n0_ n1_ n2_; (try clear hb); (try clear hb2); (try clear hk); (try clear hi); have hcz37_0 : w36.cell? ⟨gb102, 0, none⟩ = some (.int .i64 a1_0) := (Xbc BK102.out 0).trans rfl; have hcz37_1 : w36.cell? ⟨gb102, 1, none⟩ = some (.int .i64 a1_1) := (Xbc BK102.out 1).trans rfl; have hcz37_2 : w36.cell? ⟨gb102, 2, none⟩ = some (.int .i64 a1_2) := (Xbc BK102.out 2).trans rfl; have hcz37_3 : w36.cell? ⟨gb102, 3, none⟩ = some (.slice A1_3 l1_3.length c1_3) := (Xbc BK102.out 3).trans rfl; have hcz37_4 : w36.cell? ⟨gb102, 4, none⟩ = some (.int .i64 a1_4) := (Xbc BK102.out 4).trans rfl; have hfz37_0 := Xbf BK102.out 0; have hfz37_1 := Xbf BK102.out 1; have hfz37_2 := Xbf BK102.out 2; have hfz37_3 := Xbf BK102.out 3; have hfz37_4 := Xbf BK102.out 4) | ((with_reducible refine gate_callee (f := 38) rfl ?_); refine goesL_ (some 17) rfl rfl Try.func38 (by kernel_rfl) rfl #[.agg #[.int .i64 a1_0, .int .i64 a1_1, .int .i64 a1_2, .slice A1_3 l1_3.length c1_3, .int .i64 a1_4], .int .i64 t103] rfl (by (try simp only [List.map_toArray, List.map_cons, List.map_nil]); first | done | rfl | (simp only [List.length_drop, List.length_take]; rfl)) ?_; (with_reducible refine (laws_szServer.calls k a1_0 a1_1 a1_2 _ _ l1_3 a1_4 t103 t104 _ ?side1 ?side2 A10.out).mono ?_); (case side1 => repeat (first | exact (Kd.C_below HR1_3.out HB.out) | (with_reducible refine Xca ?_ _) | (with_reducible refine Xcn ?_ _) | (with_reducible refine Xcd ?_))); (case side2 => exact HC1_3.out); rintro e w38 ⟨rfl, hb⟩; refine ⟨_, rfl, ?_⟩; have n0_ := Xam (Xbb (g := gb101) (o := .cells #[.int .i64 a0_0, .int .i64 a0_1, .int .i64 a0_2, .slice A0_3 l0_3.length c0_3, .int .i64 a0_4] 61 (0, 0)) (by (with_reducible repeat (first | refine Xkn ?_ _ | refine Xkd ?_ | refine Xka ?_ _)); exact BK101.out) hb); have n1_ := Xam (Xbb (g := gb102) (o := .cells #[.int .i64 a1_0, .int .i64 a1_1, .int .i64 a1_2, .slice A1_3 l1_3.length c1_3, .int .i64 a1_4] 61 (0, 0)) (by (with_reducible repeat (first | refine Xkn ?_ _ | refine Xkd ?_ | refine Xka ?_ _)); exact BK102.out) hb); have n2_ := Xam (Xbt (by repeat (first | (with_reducible first | exact HB.out | apply Xba | apply Xbn | apply Xbd | refine Xbe ?_ GE101.out | refine Xbe ?_ GE102.out) | exact HB.out)) hb); clear BK101; clear BK102; clear HB; have BK101 := n0_; have BK102 := n1_; have HB := n2_; clear n0_ n1_ n2_; (try clear hb); (try clear hb2); (try clear hk); (try clear hi)))
            have n0_ := Xam (Xkd BK101.out)
            have n1_ := Xam (Xkd BK102.out)
            have n2_ := Xam (Xbd HB.out)
            clear BK101
            clear BK102
            clear HB
            have BK101 := n0_
            have BK102 := n1_
            have HB := n2_
            clear n0_ n1_ n2_
            refine start_ (n := 6) (S := fun w' => w'.cell? ⟨gb101, 0, none⟩ = some (.int .i64 a0_0) ∧ w'.cell? ⟨gb101, 1, none⟩ = some (.int .i64 a0_1) ∧ w'.cell? ⟨gb101, 2, none⟩ = some (.int .i64 a0_2) ∧ w'.cell? ⟨gb101, 3, none⟩ = some (.slice A0_3 l0_3.length c0_3) ∧ w'.cell? ⟨gb101, 4, none⟩ = some (.int .i64 a0_4) ∧ w'.cell? ⟨gb102, 0, none⟩ = some (.int .i64 a1_0) ∧ w'.cell? ⟨gb102, 1, none⟩ = some (.int .i64 a1_1) ∧ w'.cell? ⟨gb102, 2, none⟩ = some (.int .i64 a1_2) ∧ w'.cell? ⟨gb102, 3, none⟩ = some (.slice A1_3 l1_3.length c1_3) ∧ w'.cell? ⟨gb102, 4, none⟩ = some (.int .i64 a1_4)) (ds := []) #[false, false, false, false, false, false] (by kernel_rfl) rfl rfl ⟨(Xbc BK101.out 0).trans rfl, (Xbc BK101.out 1).trans rfl, (Xbc BK101.out 2).trans rfl, (Xbc BK101.out 3).trans rfl, (Xbc BK101.out 4).trans rfl, (Xbc BK102.out 0).trans rfl, (Xbc BK102.out 1).trans rfl, (Xbc BK102.out 2).trans rfl, (Xbc BK102.out 3).trans rfl, (Xbc BK102.out 4).trans rfl⟩ (fun hHeld => ?_)
            generalize w38.drew = w39 at BK101 BK102 HB hHeld ⊢
            refine take_ (i := 0) (N := some 20) (v := ?_) (a' := ?_) #[true, false, false, false, false, false] rfl rfl (by kernel_rfl) (fun _ _ _ h => h) (Or.inl ⟨by rfl, ?_⟩) hHeld ?_ ?_
            rotate_left
            · rintro w' ⟨s0, s1, s2, s3, s4, s5, s6, s7, s8, s9⟩
              go_simp
              with_reducible rfl
            rotate_left
            · simp only [Act.put, List.setIfInBounds_toArray, List.set_cons_zero, List.set_cons_succ, i64_w, i32_w]
              rfl
            refine take_ (i := 2) (N := some 22) (v := ?_) (a' := ?_) #[true, false, true, false, false, false] rfl rfl (by kernel_rfl) (fun _ _ _ h => h) (Or.inl ⟨by rfl, ?_⟩) hHeld ?_ ?_
            rotate_left
            · rintro w' ⟨s0, s1, s2, s3, s4, s5, s6, s7, s8, s9⟩
              go_simp
              with_reducible rfl
            rotate_left
            · simp only [Act.put, List.setIfInBounds_toArray, List.set_cons_zero, List.set_cons_succ, i64_w, i32_w]
              rfl
            refine one_ (i := 1) (N := some 21) #[true, true, true, false, false, false] rfl rfl (by kernel_rfl) (by decide) (fun K hK => ?_)
            refine goes_ Try.func40 (by kernel_rfl) rfl #[.agg #[.int .i64 a0_0, .int .i64 a0_1, .int .i64 a0_2, .slice A0_3 l0_3.length c0_3, .int .i64 a0_4]] (by rfl) rfl rfl (by (try simp only [List.map_toArray, List.map_cons, List.map_nil]); first | done | rfl | (simp only [List.length_drop, List.length_take]; rfl)) ?_
            with_reducible refine (laws_toServer.calls k a0_0 a0_1 a0_2 _ _ l0_3 a0_4 t105 t106 t107 t108 t111 _ ?side1 ?side2 A19.out).mono ?_
            (case side1 => repeat (first | exact (Kd.C_below HR0_3.out HB.out) | (with_reducible refine Xca ?_ _) | (with_reducible refine Xcn ?_ _) | (with_reducible refine Xcd ?_)))
            (case side2 => exact HC0_3.out)
            rintro e w40 ⟨v109, rfl, ho0, hb⟩
            refine ⟨_, rfl, ?_⟩
            have n0_ := Xam (Kd.R_lower ho0 (Xbs (by repeat (first | (with_reducible first | exact HB.out | apply Xba | apply Xbn | apply Xbd | refine Xbe ?_ GE101.out | refine Xbe ?_ GE102.out) | exact HB.out))))
            have n1_ := Xam (Xbb (g := gb101) (o := .cells #[.int .i64 a0_0, .int .i64 a0_1, .int .i64 a0_2, .slice A0_3 l0_3.length c0_3, .int .i64 a0_4] 61 (0, 0)) (by (with_reducible repeat (first | refine Xkn ?_ _ | refine Xkd ?_ | refine Xka ?_ _)); exact BK101.out) hb)
            have n2_ := Xam (Xbb (g := gb102) (o := .cells #[.int .i64 a1_0, .int .i64 a1_1, .int .i64 a1_2, .slice A1_3 l1_3.length c1_3, .int .i64 a1_4] 61 (0, 0)) (by (with_reducible repeat (first | refine Xkn ?_ _ | refine Xkd ?_ | refine Xka ?_ _)); exact BK102.out) hb)
            have n3_ := Xam (Xbt (by repeat (first | (with_reducible first | exact HB.out | apply Xba | apply Xbn | apply Xbd | refine Xbe ?_ GE101.out | refine Xbe ?_ GE102.out) | exact HB.out)) hb)
            clear BK101
            clear BK102
            clear HB
            have HO110 := n0_
            have BK101 := n1_
            have BK102 := n2_
            have HB := n3_
            clear n0_ n1_ n2_ n3_
            (try clear hb)
            (try clear hb2)
            (try clear hk)
            (try clear hi)
            (try clear ho0)
            refine hK.out _ _ ⟨(Xbc BK101.out 0).trans rfl, (Xbc BK101.out 1).trans rfl, (Xbc BK101.out 2).trans rfl, (Xbc BK101.out 3).trans rfl, (Xbc BK101.out 4).trans rfl, (Xbc BK102.out 0).trans rfl, (Xbc BK102.out 1).trans rfl, (Xbc BK102.out 2).trans rfl, (Xbc BK102.out 3).trans rfl, (Xbc BK102.out 4).trans rfl⟩ (fun hHeld => ?_)
            clear hK K
            refine norm_ (a' := ?_) ?_ ?_
            rotate_left
            · show Act.put _ (some 21) _ = _
              simp only [Act.put, List.setIfInBounds_toArray, List.set_cons_zero, List.set_cons_succ, i64_w, i32_w]
              rfl
            refine one_ (i := 3) (N := some 23) #[true, true, true, true, false, false] rfl rfl (by kernel_rfl) (by decide) (fun K hK => ?_)
            refine goes_ Try.func40 (by kernel_rfl) rfl #[.agg #[.int .i64 a1_0, .int .i64 a1_1, .int .i64 a1_2, .slice A1_3 l1_3.length c1_3, .int .i64 a1_4]] (by rfl) rfl rfl (by (try simp only [List.map_toArray, List.map_cons, List.map_nil]); first | done | rfl | (simp only [List.length_drop, List.length_take]; rfl)) ?_
            with_reducible refine (laws_toServer.calls k a1_0 a1_1 a1_2 _ _ l1_3 a1_4 t112 t113 t114 t115 t118 _ ?side1 ?side2 A20.out).mono ?_
            (case side1 => repeat (first | exact (Kd.C_below HR1_3.out HB.out) | (with_reducible refine Xca ?_ _) | (with_reducible refine Xcn ?_ _) | (with_reducible refine Xcd ?_)))
            (case side2 => exact HC1_3.out)
            rintro e w41 ⟨v116, rfl, ho0, hb⟩
            refine ⟨_, rfl, ?_⟩
            have n0_ := Xam (Kd.R_elder' (by (with_reducible repeat (first | apply Xra | apply Xrn | apply Xrd)); exact HO110.out) (Kd.R_base ho0) hb)
            have n1_ := Xam (Kd.R_lower (Kd.R_new' ho0 (Kd.R_lt (by (with_reducible repeat (first | apply Xra | apply Xrn | apply Xrd)); exact HO110.out))) (Xbs (by repeat (first | (with_reducible first | exact HB.out | apply Xba | apply Xbn | apply Xbd | refine Xbe ?_ GE101.out | refine Xbe ?_ GE102.out) | exact HB.out))))
            have n2_ := Xam (Xbb (g := gb101) (o := .cells #[.int .i64 a0_0, .int .i64 a0_1, .int .i64 a0_2, .slice A0_3 l0_3.length c0_3, .int .i64 a0_4] 61 (0, 0)) (by (with_reducible repeat (first | refine Xkn ?_ _ | refine Xkd ?_ | refine Xka ?_ _)); exact BK101.out) hb)
            have n3_ := Xam (Xbb (g := gb102) (o := .cells #[.int .i64 a1_0, .int .i64 a1_1, .int .i64 a1_2, .slice A1_3 l1_3.length c1_3, .int .i64 a1_4] 61 (0, 0)) (by (with_reducible repeat (first | refine Xkn ?_ _ | refine Xkd ?_ | refine Xka ?_ _)); exact BK102.out) hb)
            have n4_ := Xam (Xbt (by repeat (first | (with_reducible first | exact HB.out | apply Xba | apply Xbn | apply Xbd | refine Xbe ?_ GE101.out | refine Xbe ?_ GE102.out) | exact HB.out)) hb)
            clear HO110
            clear BK101
            clear BK102
            clear HB
            have HO110 := n0_
            have HO117 := n1_
            have BK101 := n2_
            have BK102 := n3_
            have HB := n4_
            clear n0_ n1_ n2_ n3_ n4_
            (try clear hb)
            (try clear hb2)
            (try clear hk)
            (try clear hi)
            (try clear ho0)
            obtain ⟨Ao42, co42, eo42⟩ := Kd.R_slice HO110.out
            (first | subst eo42 | (injection eo42 with f1_ f2_ f3_; have f4_ := f1_.symm; have f5_ := f3_.symm; clear f1_ f2_ f3_; subst f4_; subst f5_))
            obtain ⟨Ao43, co43, eo43⟩ := Kd.R_slice HO117.out
            (first | subst eo43 | (injection eo43 with f1_ f2_ f3_; have f4_ := f1_.symm; have f5_ := f3_.symm; clear f1_ f2_ f3_; subst f4_; subst f5_))
            refine hK.out _ _ ⟨(Xbc BK101.out 0).trans rfl, (Xbc BK101.out 1).trans rfl, (Xbc BK101.out 2).trans rfl, (Xbc BK101.out 3).trans rfl, (Xbc BK101.out 4).trans rfl, (Xbc BK102.out 0).trans rfl, (Xbc BK102.out 1).trans rfl, (Xbc BK102.out 2).trans rfl, (Xbc BK102.out 3).trans rfl, (Xbc BK102.out 4).trans rfl⟩ (fun hHeld => ?_)
            clear hK K
            refine norm_ (a' := ?_) ?_ ?_
            rotate_left
            · show Act.put _ (some 23) _ = _
              simp only [Act.put, List.setIfInBounds_toArray, List.set_cons_zero, List.set_cons_succ, i64_w, i32_w]
              rfl
            refine one_ (i := 4) (N := some 24) #[true, true, true, true, true, false] rfl rfl (by kernel_rfl) (by decide) (fun K hK => ?_)
            refine goes_ Try.func66 (by kernel_rfl) rfl #[.agg #[.int .i64 t105, .int .i64 t106, .int .i64 t107, .slice Ao42 t108.length co42, .int .i64 t111], .agg #[.int .i64 t112, .int .i64 t113, .int .i64 t114, .slice Ao43 t115.length co43, .int .i64 t118]] (by rfl) rfl rfl (by (try simp only [List.map_toArray, List.map_cons, List.map_nil]); first | done | rfl | (simp only [List.length_drop, List.length_take]; rfl)) ?_
            with_reducible refine (spec_EqualServers.calls k t105 t106 t107 _ _ t108 t111 t112 t113 t114 _ _ t115 t118 t119 _ ?side1 ?side2 ?side3 ?side4 A21.out).mono ?_
            (case side1 => repeat (first | exact (Kd.R_reads' HO110.out).2.2 | (with_reducible refine Xca ?_ _) | (with_reducible refine Xcn ?_ _) | (with_reducible refine Xcd ?_)))
            (case side2 => exact (Kd.R_reads' HO110.out).2.1)
            (case side3 => repeat (first | exact (Kd.R_reads' HO117.out).2.2 | (with_reducible refine Xca ?_ _) | (with_reducible refine Xcn ?_ _) | (with_reducible refine Xcd ?_)))
            (case side4 => exact (Kd.R_reads' HO117.out).2.1)
            rintro e w44 ⟨rfl, hb⟩
            refine ⟨_, rfl, ?_⟩
            have n0_ := Xam (Kd.R_below (by (with_reducible repeat (first | apply Xra | apply Xrn | apply Xrd)); exact HO110.out) hb)
            have n1_ := Xam (Kd.R_below (by (with_reducible repeat (first | apply Xra | apply Xrn | apply Xrd)); exact HO117.out) hb)
            have n2_ := Xam (Xbb (g := gb101) (o := .cells #[.int .i64 a0_0, .int .i64 a0_1, .int .i64 a0_2, .slice A0_3 l0_3.length c0_3, .int .i64 a0_4] 61 (0, 0)) (by (with_reducible repeat (first | refine Xkn ?_ _ | refine Xkd ?_ | refine Xka ?_ _)); exact BK101.out) hb)
            have n3_ := Xam (Xbb (g := gb102) (o := .cells #[.int .i64 a1_0, .int .i64 a1_1, .int .i64 a1_2, .slice A1_3 l1_3.length c1_3, .int .i64 a1_4] 61 (0, 0)) (by (with_reducible repeat (first | refine Xkn ?_ _ | refine Xkd ?_ | refine Xka ?_ _)); exact BK102.out) hb)
            have n4_ := Xam (Xbt (by repeat (first | (with_reducible first | exact HB.out | apply Xba | apply Xbn | apply Xbd | refine Xbe ?_ GE101.out | refine Xbe ?_ GE102.out) | exact HB.out)) hb)
            clear HO110
            clear HO117
            clear BK101
            clear BK102
            clear HB
            have HO110 := n0_
            have HO117 := n1_
            have BK101 := n2_
            have BK102 := n3_
            have HB := n4_
            clear n0_ n1_ n2_ n3_ n4_
            (try clear hb)
            (try clear hb2)
            (try clear hk)
            (try clear hi)
            refine hK.out _ _ ⟨(Xbc BK101.out 0).trans rfl, (Xbc BK101.out 1).trans rfl, (Xbc BK101.out 2).trans rfl, (Xbc BK101.out 3).trans rfl, (Xbc BK101.out 4).trans rfl, (Xbc BK102.out 0).trans rfl, (Xbc BK102.out 1).trans rfl, (Xbc BK102.out 2).trans rfl, (Xbc BK102.out 3).trans rfl, (Xbc BK102.out 4).trans rfl⟩ (fun hHeld => ?_)
            clear hK K
            refine norm_ (a' := ?_) ?_ ?_
            rotate_left
            · show Act.put _ (some 24) _ = _
              simp only [Act.put, List.setIfInBounds_toArray, List.set_cons_zero, List.set_cons_succ, i64_w, i32_w]
              rfl
            refine pure_ (i := 5) (N := some 6) (v := ?_) (a' := ?_) #[true, true, true, true, true, true] rfl rfl (by kernel_rfl) (fun _ _ _ h => h) (Or.inl ⟨by rfl, ?_⟩) ?_ ?_
            rotate_left
            · intro w'
              go_simp
              with_reducible rfl
            rotate_left
            · simp only [Act.put, List.setIfInBounds_toArray, List.set_cons_zero, List.set_cons_succ, i64_w, i32_w]
              rfl
            refine done_ (by kernel_rfl) ?_
            have hcz45_0 : w44.cell? ⟨gb101, 0, none⟩ = some (.int .i64 a0_0) := (Xbc BK101.out 0).trans rfl
            have hcz45_1 : w44.cell? ⟨gb101, 1, none⟩ = some (.int .i64 a0_1) := (Xbc BK101.out 1).trans rfl
            have hcz45_2 : w44.cell? ⟨gb101, 2, none⟩ = some (.int .i64 a0_2) := (Xbc BK101.out 2).trans rfl
            have hcz45_3 : w44.cell? ⟨gb101, 3, none⟩ = some (.slice A0_3 l0_3.length c0_3) := (Xbc BK101.out 3).trans rfl
            have hcz45_4 : w44.cell? ⟨gb101, 4, none⟩ = some (.int .i64 a0_4) := (Xbc BK101.out 4).trans rfl
            have hfz45_0 := Xbf BK101.out 0
            have hfz45_1 := Xbf BK101.out 1
            have hfz45_2 := Xbf BK101.out 2
            have hfz45_3 := Xbf BK101.out 3
            have hfz45_4 := Xbf BK101.out 4
            try go_wp2_with (first | ((with_reducible refine gate_callee (f := 40) rfl ?_); refine goesL_ (some 26) rfl rfl Try.func40 (by kernel_rfl) rfl #[.agg #[.int .i64 a0_0, .int .i64 a0_1, .int .i64 a0_2, .slice A0_3 l0_3.length c0_3, .int .i64 a0_4]] rfl (by (try simp only [List.map_toArray, List.map_cons, List.map_nil]); first | done | rfl | (simp only [List.length_drop, List.length_take]; rfl)) ?_; (with_reducible refine (laws_toServer.calls k a0_0 a0_1 a0_2 _ _ l0_3 a0_4 t120 t121 t122 t123 t126 _ ?side1 ?side2 A22.out).mono ?_); (case side1 => repeat (first | exact (Kd.C_below HR0_3.out HB.out) | (with_reducible refine Xca ?_ _) | (with_reducible refine Xcn ?_ _) | (with_reducible refine Xcd ?_))); (case side2 => exact HC0_3.out); rintro e w46 ⟨v124, rfl, ho0, hb⟩; refine ⟨_, rfl, ?_⟩; have n0_ := Xam (Kd.R_elder' (by (with_reducible repeat (first | apply Xra | apply Xrn | apply Xrd)); exact HO110.out) (Kd.R_base ho0) hb); have n1_ := Xam (Kd.R_elder' (by (with_reducible repeat (first | apply Xra | apply Xrn | apply Xrd)); exact HO117.out) (Kd.R_base ho0) hb); have n2_ := Xam (Kd.R_lower (Kd.R_new' (Kd.R_new' ho0 (Kd.R_lt (by (with_reducible repeat (first | apply Xra | apply Xrn | apply Xrd)); exact HO110.out))) (Kd.R_lt (by (with_reducible repeat (first | apply Xra | apply Xrn | apply Xrd)); exact HO117.out))) (Xbs (by repeat (first | (with_reducible first | exact HB.out | apply Xba | apply Xbn | apply Xbd | refine Xbe ?_ GE101.out | refine Xbe ?_ GE102.out) | exact HB.out)))); have n3_ := Xam (Xbb (g := gb101) (o := .cells #[.int .i64 a0_0, .int .i64 a0_1, .int .i64 a0_2, .slice A0_3 l0_3.length c0_3, .int .i64 a0_4] 61 (0, 0)) (by (with_reducible repeat (first | refine Xkn ?_ _ | refine Xkd ?_ | refine Xka ?_ _)); exact BK101.out) hb); have n4_ := Xam (Xbb (g := gb102) (o := .cells #[.int .i64 a1_0, .int .i64 a1_1, .int .i64 a1_2, .slice A1_3 l1_3.length c1_3, .int .i64 a1_4] 61 (0, 0)) (by (with_reducible repeat (first | refine Xkn ?_ _ | refine Xkd ?_ | refine Xka ?_ _)); exact BK102.out) hb); have n5_ := Xam (Xbt (by repeat (first | (with_reducible first | exact HB.out | apply Xba | apply Xbn | apply Xbd | refine Xbe ?_ GE101.out | refine Xbe ?_ GE102.out) | exact HB.out)) hb); clear HO110; clear HO117; clear BK101; clear BK102; clear HB; have HO110 := n0_; have HO117 := n1_; have HO125 := n2_; have BK101 := n3_; have BK102 := n4_; have HB := n5_; clear n0_ n1_ n2_ n3_ n4_ n5_; (try clear hb); (try clear hb2); (try clear hk); (try clear hi); (try clear ho0)) | ((with_reducible refine gate_dst (N := 7) rfl ?_); refine box_event ?hg (N := 7) ?hd (cs := #[.int .i64 0, .int .i64 0, .int .i64 0, .slice none 0 0, .int .i64 0]) (t := 66) ?hr ?_; (case hd => rfl); (case hg => rfl); (case hr => first | (go_simp; done) | (go_simp; rfl)); intro gb127 hg w47 hbox hb; have n0_ := Xam (Kd.R_below (by (with_reducible repeat (first | apply Xra | apply Xrn | apply Xrd)); exact HO110.out) hb); have n1_ := Xam (Kd.R_below (by (with_reducible repeat (first | apply Xra | apply Xrn | apply Xrd)); exact HO117.out) hb); have n2_ := Xam (Kd.R_below (by (with_reducible repeat (first | apply Xra | apply Xrn | apply Xrd)); exact HO125.out) hb); have n3_ := Xam (Xbb (g := gb101) (o := .cells #[.int .i64 a0_0, .int .i64 a0_1, .int .i64 a0_2, .slice A0_3 l0_3.length c0_3, .int .i64 a0_4] 61 (0, 0)) (by (with_reducible repeat (first | refine Xkn ?_ _ | refine Xkd ?_ | refine Xka ?_ _)); exact BK101.out) hb); have n4_ := Xam (Xbb (g := gb102) (o := .cells #[.int .i64 a1_0, .int .i64 a1_1, .int .i64 a1_2, .slice A1_3 l1_3.length c1_3, .int .i64 a1_4] 61 (0, 0)) (by (with_reducible repeat (first | refine Xkn ?_ _ | refine Xkd ?_ | refine Xka ?_ _)); exact BK102.out) hb); have n5_ := Xam (Xbt (by repeat (first | (with_reducible first | exact HB.out | apply Xba | apply Xbn | apply Xbd | refine Xbe ?_ GE101.out | refine Xbe ?_ GE102.out) | exact HB.out)) hb); have n6_ := Xam (hbox); have n7_ := Xam ((by rw [hg]; exact (Xbs (by repeat (first | (with_reducible first | exact HB.out | apply Xba | apply Xbn | apply Xbd | refine Xbe ?_ GE101.out | refine Xbe ?_ GE102.out) | exact HB.out))) : w.heap.size ≤ gb127)); have n8_ := Xam ((by rw [hg]; exact (Xbs (by repeat (first | (with_reducible first | exact HB.out | apply Xba | apply Xbn | apply Xbd | refine Xbe ?_ GE101.out | refine Xbe ?_ GE102.out) | exact HB.out))) : w.heap.size ≤ gb127)); have n9_ := Xam ((by rw [hg]; exact Nat.ne_of_lt (Xbl (g := gb101) (o := .cells #[.int .i64 a0_0, .int .i64 a0_1, .int .i64 a0_2, .slice A0_3 l0_3.length c0_3, .int .i64 a0_4] 61 (0, 0)) (by (with_reducible repeat (first | refine Xkn ?_ _ | refine Xkd ?_ | refine Xka ?_ _)); exact BK101.out)) : gb101 ≠ gb127)); have n10_ := Xam ((by rw [hg]; exact Nat.ne_of_gt (Xbl (g := gb101) (o := .cells #[.int .i64 a0_0, .int .i64 a0_1, .int .i64 a0_2, .slice A0_3 l0_3.length c0_3, .int .i64 a0_4] 61 (0, 0)) (by (with_reducible repeat (first | refine Xkn ?_ _ | refine Xkd ?_ | refine Xka ?_ _)); exact BK101.out)) : gb127 ≠ gb101)); have n11_ := Xam ((by rw [hg]; exact Nat.ne_of_lt (Xbl (g := gb102) (o := .cells #[.int .i64 a1_0, .int .i64 a1_1, .int .i64 a1_2, .slice A1_3 l1_3.length c1_3, .int .i64 a1_4] 61 (0, 0)) (by (with_reducible repeat (first | refine Xkn ?_ _ | refine Xkd ?_ | refine Xka ?_ _)); exact BK102.out)) : gb102 ≠ gb127)); have n12_ := Xam ((by rw [hg]; exact Nat.ne_of_gt (Xbl (g := gb102) (o := .cells #[.int .i64 a1_0, .int .i64 a1_1, .int .i64 a1_2, .slice A1_3 l1_3.length c1_3, .int .i64 a1_4] 61 (0, 0)) (by (with_reducible repeat (first | refine Xkn ?_ _ | refine Xkd ?_ | refine Xka ?_ _)); exact BK102.out)) : gb127 ≠ gb102)); clear HO110; clear HO117; clear HO125; clear BK101; clear BK102; clear HB; have HO110 := n0_; have HO117 := n1_; have HO125 := n2_; have BK101 := n3_; have BK102 := n4_; have HB := n5_; have BK127 := n6_; have GW127 := n7_; have GE127 := n8_; have NB101_127 := n9_; have NB127_101 := n10_; have NB102_127 := n11_; have NB127_102 := n12_; clear n0_ n1_ n2_ n3_ n4_ n5_ n6_ n7_ n8_ n9_ n10_ n11_ n12_; clear hb hbox hg; have hnb48 := NB127_101.out; have hnc48 := NB101_127.out; have hnb49 := NB127_102.out; have hnc49 := NB102_127.out; have hcz50_0 : w47.cell? ⟨gb127, 0, none⟩ = some (.int .i64 0) := (Xbc BK127.out 0).trans rfl; have hcz50_1 : w47.cell? ⟨gb127, 1, none⟩ = some (.int .i64 0) := (Xbc BK127.out 1).trans rfl; have hcz50_2 : w47.cell? ⟨gb127, 2, none⟩ = some (.int .i64 0) := (Xbc BK127.out 2).trans rfl; have hcz50_3 : w47.cell? ⟨gb127, 3, none⟩ = some (.slice none 0 0) := (Xbc BK127.out 3).trans rfl; have hcz50_4 : w47.cell? ⟨gb127, 4, none⟩ = some (.int .i64 0) := (Xbc BK127.out 4).trans rfl; have hfz50_0 := Xbf BK127.out 0; have hfz50_1 := Xbf BK127.out 1; have hfz50_2 := Xbf BK127.out 2; have hfz50_3 := Xbf BK127.out 3; have hfz50_4 := Xbf BK127.out 4; obtain ⟨Ao51, co51, eo51⟩ := Kd.R_slice HO125.out; subst eo51; have hcz52_0 : w47.cell? ⟨gb102, 0, none⟩ = some (.int .i64 a1_0) := (Xbc BK102.out 0).trans rfl; have hcz52_1 : w47.cell? ⟨gb102, 1, none⟩ = some (.int .i64 a1_1) := (Xbc BK102.out 1).trans rfl; have hcz52_2 : w47.cell? ⟨gb102, 2, none⟩ = some (.int .i64 a1_2) := (Xbc BK102.out 2).trans rfl; have hcz52_3 : w47.cell? ⟨gb102, 3, none⟩ = some (.slice A1_3 l1_3.length c1_3) := (Xbc BK102.out 3).trans rfl; have hcz52_4 : w47.cell? ⟨gb102, 4, none⟩ = some (.int .i64 a1_4) := (Xbc BK102.out 4).trans rfl; have hfz52_0 := Xbf BK102.out 0; have hfz52_1 := Xbf BK102.out 1; have hfz52_2 := Xbf BK102.out 2; have hfz52_3 := Xbf BK102.out 3; have hfz52_4 := Xbf BK102.out 4) | ((with_reducible refine gate_callee (f := 40) rfl ?_); refine goesL_ (some 28) rfl rfl Try.func40 (by kernel_rfl) rfl #[.agg #[.int .i64 a1_0, .int .i64 a1_1, .int .i64 a1_2, .slice A1_3 l1_3.length c1_3, .int .i64 a1_4]] rfl (by (try simp only [List.map_toArray, List.map_cons, List.map_nil]); first | done | rfl | (simp only [List.length_drop, List.length_take]; rfl)) ?_; (with_reducible refine (laws_toServer.calls k a1_0 a1_1 a1_2 _ _ l1_3 a1_4 t128 t129 t130 t131 t134 _ ?side1 ?side2 A23.out).mono ?_); (case side1 => exact Kd.C_below HR1_3.out (by repeat (first | (with_reducible first | exact HB.out | apply Xba | apply Xbn | apply Xbd | refine Xbe ?_ GE101.out | refine Xbe ?_ GE102.out | refine Xbe ?_ GE127.out) | exact HB.out))); (case side2 => exact HC1_3.out); rintro e w53 ⟨v132, rfl, ho0, hb⟩; refine ⟨_, rfl, ?_⟩; have n0_ := Xam (Kd.R_elder' (by (with_reducible repeat (first | apply Xra | apply Xrn | apply Xrd)); exact (Kd.R_mono (Kd.R_far (p := ⟨gb127, 4, none⟩) (Kd.R_far (p := ⟨gb127, 3, none⟩) (Kd.R_far (p := ⟨gb127, 2, none⟩) (Kd.R_far (p := ⟨gb127, 1, none⟩) (Kd.R_far (p := ⟨gb127, 0, none⟩) (Kd.R_types HO110.out BK127.out (by decide)) (fun _ hk => hk.2) (.int .i64 t120)) (fun _ hk => hk.2) (.int .i64 t121)) (fun _ hk => hk.2) (.int .i64 t122)) (fun _ hk => hk.2) (.slice Ao51 t123.length co51)) (fun _ hk => hk.2) (.int .i64 t126)) (fun _ h_ => h_.1))) (Kd.R_base ho0) hb); have n1_ := Xam (Kd.R_elder' (by (with_reducible repeat (first | apply Xra | apply Xrn | apply Xrd)); exact (Kd.R_mono (Kd.R_far (p := ⟨gb127, 4, none⟩) (Kd.R_far (p := ⟨gb127, 3, none⟩) (Kd.R_far (p := ⟨gb127, 2, none⟩) (Kd.R_far (p := ⟨gb127, 1, none⟩) (Kd.R_far (p := ⟨gb127, 0, none⟩) (Kd.R_types HO117.out BK127.out (by decide)) (fun _ hk => hk.2) (.int .i64 t120)) (fun _ hk => hk.2) (.int .i64 t121)) (fun _ hk => hk.2) (.int .i64 t122)) (fun _ hk => hk.2) (.slice Ao51 t123.length co51)) (fun _ hk => hk.2) (.int .i64 t126)) (fun _ h_ => h_.1))) (Kd.R_base ho0) hb); have n2_ := Xam (Kd.R_elder' (by (with_reducible repeat (first | apply Xra | apply Xrn | apply Xrd)); exact (Kd.R_mono (Kd.R_far (p := ⟨gb127, 4, none⟩) (Kd.R_far (p := ⟨gb127, 3, none⟩) (Kd.R_far (p := ⟨gb127, 2, none⟩) (Kd.R_far (p := ⟨gb127, 1, none⟩) (Kd.R_far (p := ⟨gb127, 0, none⟩) (Kd.R_types HO125.out BK127.out (by decide)) (fun _ hk => hk.2) (.int .i64 t120)) (fun _ hk => hk.2) (.int .i64 t121)) (fun _ hk => hk.2) (.int .i64 t122)) (fun _ hk => hk.2) (.slice Ao51 t123.length co51)) (fun _ hk => hk.2) (.int .i64 t126)) (fun _ h_ => h_.1))) (Kd.R_base ho0) hb); have n3_ := Xam (Kd.R_lower (Kd.R_new' (Kd.R_new' (Kd.R_new' ho0 (Kd.R_lt (by (with_reducible repeat (first | apply Xra | apply Xrn | apply Xrd)); exact (Kd.R_mono (Kd.R_far (p := ⟨gb127, 4, none⟩) (Kd.R_far (p := ⟨gb127, 3, none⟩) (Kd.R_far (p := ⟨gb127, 2, none⟩) (Kd.R_far (p := ⟨gb127, 1, none⟩) (Kd.R_far (p := ⟨gb127, 0, none⟩) (Kd.R_types HO110.out BK127.out (by decide)) (fun _ hk => hk.2) (.int .i64 t120)) (fun _ hk => hk.2) (.int .i64 t121)) (fun _ hk => hk.2) (.int .i64 t122)) (fun _ hk => hk.2) (.slice Ao51 t123.length co51)) (fun _ hk => hk.2) (.int .i64 t126)) (fun _ h_ => h_.1))))) (Kd.R_lt (by (with_reducible repeat (first | apply Xra | apply Xrn | apply Xrd)); exact (Kd.R_mono (Kd.R_far (p := ⟨gb127, 4, none⟩) (Kd.R_far (p := ⟨gb127, 3, none⟩) (Kd.R_far (p := ⟨gb127, 2, none⟩) (Kd.R_far (p := ⟨gb127, 1, none⟩) (Kd.R_far (p := ⟨gb127, 0, none⟩) (Kd.R_types HO117.out BK127.out (by decide)) (fun _ hk => hk.2) (.int .i64 t120)) (fun _ hk => hk.2) (.int .i64 t121)) (fun _ hk => hk.2) (.int .i64 t122)) (fun _ hk => hk.2) (.slice Ao51 t123.length co51)) (fun _ hk => hk.2) (.int .i64 t126)) (fun _ h_ => h_.1))))) (Kd.R_lt (by (with_reducible repeat (first | apply Xra | apply Xrn | apply Xrd)); exact (Kd.R_mono (Kd.R_far (p := ⟨gb127, 4, none⟩) (Kd.R_far (p := ⟨gb127, 3, none⟩) (Kd.R_far (p := ⟨gb127, 2, none⟩) (Kd.R_far (p := ⟨gb127, 1, none⟩) (Kd.R_far (p := ⟨gb127, 0, none⟩) (Kd.R_types HO125.out BK127.out (by decide)) (fun _ hk => hk.2) (.int .i64 t120)) (fun _ hk => hk.2) (.int .i64 t121)) (fun _ hk => hk.2) (.int .i64 t122)) (fun _ hk => hk.2) (.slice Ao51 t123.length co51)) (fun _ hk => hk.2) (.int .i64 t126)) (fun _ h_ => h_.1))))) (Xbs (by repeat (first | (with_reducible first | exact HB.out | apply Xba | apply Xbn | apply Xbd | refine Xbe ?_ GE101.out | refine Xbe ?_ GE102.out | refine Xbe ?_ GE127.out) | exact HB.out)))); have n4_ := Xam (Xbb (g := gb101) (o := .cells #[.int .i64 a0_0, .int .i64 a0_1, .int .i64 a0_2, .slice A0_3 l0_3.length c0_3, .int .i64 a0_4] 61 (0, 0)) (by (with_reducible repeat (first | refine Xkn ?_ _ | refine Xkd ?_ | refine Xka ?_ _)); refine blk_far ?_ NB101_127.out _; (with_reducible repeat (first | refine Xkn ?_ _ | refine Xkd ?_ | refine Xka ?_ _)); refine blk_far ?_ NB101_127.out _; (with_reducible repeat (first | refine Xkn ?_ _ | refine Xkd ?_ | refine Xka ?_ _)); refine blk_far ?_ NB101_127.out _; (with_reducible repeat (first | refine Xkn ?_ _ | refine Xkd ?_ | refine Xka ?_ _)); refine blk_far ?_ NB101_127.out _; (with_reducible repeat (first | refine Xkn ?_ _ | refine Xkd ?_ | refine Xka ?_ _)); refine blk_far ?_ NB101_127.out _; (with_reducible repeat (first | refine Xkn ?_ _ | refine Xkd ?_ | refine Xka ?_ _)); exact BK101.out) hb); have n5_ := Xam (Xbb (g := gb102) (o := .cells #[.int .i64 a1_0, .int .i64 a1_1, .int .i64 a1_2, .slice A1_3 l1_3.length c1_3, .int .i64 a1_4] 61 (0, 0)) (by (with_reducible repeat (first | refine Xkn ?_ _ | refine Xkd ?_ | refine Xka ?_ _)); refine blk_far ?_ NB102_127.out _; (with_reducible repeat (first | refine Xkn ?_ _ | refine Xkd ?_ | refine Xka ?_ _)); refine blk_far ?_ NB102_127.out _; (with_reducible repeat (first | refine Xkn ?_ _ | refine Xkd ?_ | refine Xka ?_ _)); refine blk_far ?_ NB102_127.out _; (with_reducible repeat (first | refine Xkn ?_ _ | refine Xkd ?_ | refine Xka ?_ _)); refine blk_far ?_ NB102_127.out _; (with_reducible repeat (first | refine Xkn ?_ _ | refine Xkd ?_ | refine Xka ?_ _)); refine blk_far ?_ NB102_127.out _; (with_reducible repeat (first | refine Xkn ?_ _ | refine Xkd ?_ | refine Xka ?_ _)); exact BK102.out) hb); have n6_ := Xam (Xbb (g := gb127) (o := .cells #[.int .i64 t120, .int .i64 t121, .int .i64 t122, .slice Ao51 t123.length co51, .int .i64 t126] 66 (0, 0)) (by (with_reducible repeat (first | refine Xkn ?_ _ | refine Xkd ?_ | refine Xka ?_ _)); refine blk_put (cs := #[.int .i64 t120, .int .i64 t121, .int .i64 t122, .slice Ao51 t123.length co51, .int .i64 0]) ?_ 4 _ rfl; (with_reducible repeat (first | refine Xkn ?_ _ | refine Xkd ?_ | refine Xka ?_ _)); refine blk_put (cs := #[.int .i64 t120, .int .i64 t121, .int .i64 t122, .slice none 0 0, .int .i64 0]) ?_ 3 _ rfl; (with_reducible repeat (first | refine Xkn ?_ _ | refine Xkd ?_ | refine Xka ?_ _)); refine blk_put (cs := #[.int .i64 t120, .int .i64 t121, .int .i64 0, .slice none 0 0, .int .i64 0]) ?_ 2 _ rfl; (with_reducible repeat (first | refine Xkn ?_ _ | refine Xkd ?_ | refine Xka ?_ _)); refine blk_put (cs := #[.int .i64 t120, .int .i64 0, .int .i64 0, .slice none 0 0, .int .i64 0]) ?_ 1 _ rfl; (with_reducible repeat (first | refine Xkn ?_ _ | refine Xkd ?_ | refine Xka ?_ _)); refine blk_put (cs := #[.int .i64 0, .int .i64 0, .int .i64 0, .slice none 0 0, .int .i64 0]) ?_ 0 _ rfl; (with_reducible repeat (first | refine Xkn ?_ _ | refine Xkd ?_ | refine Xka ?_ _)); exact BK127.out) hb); have n7_ := Xam (Xbt (by repeat (first | (with_reducible first | exact HB.out | apply Xba | apply Xbn | apply Xbd | refine Xbe ?_ GE101.out | refine Xbe ?_ GE102.out | refine Xbe ?_ GE127.out) | exact HB.out)) hb); clear HO110; clear HO117; clear HO125; clear BK101; clear BK102; clear BK127; clear HB; have HO110 := n0_; have HO117 := n1_; have HO125 := n2_; have HO133 := n3_; have BK101 := n4_; have BK102 := n5_; have BK127 := n6_; have HB := n7_; clear n0_ n1_ n2_ n3_ n4_ n5_ n6_ n7_; (try clear hb); (try clear hb2); (try clear hk); (try clear hi); (try clear ho0)) | ((with_reducible refine gate_dst (N := 8) rfl ?_); refine box_event ?hg (N := 8) ?hd (cs := #[.int .i64 0, .int .i64 0, .int .i64 0, .slice none 0 0, .int .i64 0]) (t := 66) ?hr ?_; (case hd => rfl); (case hg => rfl); (case hr => first | (go_simp; done) | (go_simp; rfl)); intro gb135 hg w54 hbox hb; have n0_ := Xam (Kd.R_below (by (with_reducible repeat (first | apply Xra | apply Xrn | apply Xrd)); exact HO110.out) hb); have n1_ := Xam (Kd.R_below (by (with_reducible repeat (first | apply Xra | apply Xrn | apply Xrd)); exact HO117.out) hb); have n2_ := Xam (Kd.R_below (by (with_reducible repeat (first | apply Xra | apply Xrn | apply Xrd)); exact HO125.out) hb); have n3_ := Xam (Kd.R_below (by (with_reducible repeat (first | apply Xra | apply Xrn | apply Xrd)); exact HO133.out) hb); have n4_ := Xam (Xbb (g := gb101) (o := .cells #[.int .i64 a0_0, .int .i64 a0_1, .int .i64 a0_2, .slice A0_3 l0_3.length c0_3, .int .i64 a0_4] 61 (0, 0)) (by (with_reducible repeat (first | refine Xkn ?_ _ | refine Xkd ?_ | refine Xka ?_ _)); exact BK101.out) hb); have n5_ := Xam (Xbb (g := gb102) (o := .cells #[.int .i64 a1_0, .int .i64 a1_1, .int .i64 a1_2, .slice A1_3 l1_3.length c1_3, .int .i64 a1_4] 61 (0, 0)) (by (with_reducible repeat (first | refine Xkn ?_ _ | refine Xkd ?_ | refine Xka ?_ _)); exact BK102.out) hb); have n6_ := Xam (Xbb (g := gb127) (o := .cells #[.int .i64 t120, .int .i64 t121, .int .i64 t122, .slice Ao51 t123.length co51, .int .i64 t126] 66 (0, 0)) (by (with_reducible repeat (first | refine Xkn ?_ _ | refine Xkd ?_ | refine Xka ?_ _)); exact BK127.out) hb); have n7_ := Xam (Xbt (by repeat (first | (with_reducible first | exact HB.out | apply Xba | apply Xbn | apply Xbd | refine Xbe ?_ GE101.out | refine Xbe ?_ GE102.out | refine Xbe ?_ GE127.out) | exact HB.out)) hb); have n8_ := Xam (hbox); have n9_ := Xam ((by rw [hg]; exact (Xbs (by repeat (first | (with_reducible first | exact HB.out | apply Xba | apply Xbn | apply Xbd | refine Xbe ?_ GE101.out | refine Xbe ?_ GE102.out | refine Xbe ?_ GE127.out) | exact HB.out))) : w.heap.size ≤ gb135)); have n10_ := Xam ((by rw [hg]; exact (Xbs (by repeat (first | (with_reducible first | exact HB.out | apply Xba | apply Xbn | apply Xbd | refine Xbe ?_ GE101.out | refine Xbe ?_ GE102.out | refine Xbe ?_ GE127.out) | exact HB.out))) : w.heap.size ≤ gb135)); have n11_ := Xam ((by rw [hg]; exact Nat.ne_of_lt (Xbl (g := gb101) (o := .cells #[.int .i64 a0_0, .int .i64 a0_1, .int .i64 a0_2, .slice A0_3 l0_3.length c0_3, .int .i64 a0_4] 61 (0, 0)) (by (with_reducible repeat (first | refine Xkn ?_ _ | refine Xkd ?_ | refine Xka ?_ _)); exact BK101.out)) : gb101 ≠ gb135)); have n12_ := Xam ((by rw [hg]; exact Nat.ne_of_gt (Xbl (g := gb101) (o := .cells #[.int .i64 a0_0, .int .i64 a0_1, .int .i64 a0_2, .slice A0_3 l0_3.length c0_3, .int .i64 a0_4] 61 (0, 0)) (by (with_reducible repeat (first | refine Xkn ?_ _ | refine Xkd ?_ | refine Xka ?_ _)); exact BK101.out)) : gb135 ≠ gb101)); have n13_ := Xam ((by rw [hg]; exact Nat.ne_of_lt (Xbl (g := gb102) (o := .cells #[.int .i64 a1_0, .int .i64 a1_1, .int .i64 a1_2, .slice A1_3 l1_3.length c1_3, .int .i64 a1_4] 61 (0, 0)) (by (with_reducible repeat (first | refine Xkn ?_ _ | refine Xkd ?_ | refine Xka ?_ _)); exact BK102.out)) : gb102 ≠ gb135)); have n14_ := Xam ((by rw [hg]; exact Nat.ne_of_gt (Xbl (g := gb102) (o := .cells #[.int .i64 a1_0, .int .i64 a1_1, .int .i64 a1_2, .slice A1_3 l1_3.length c1_3, .int .i64 a1_4] 61 (0, 0)) (by (with_reducible repeat (first | refine Xkn ?_ _ | refine Xkd ?_ | refine Xka ?_ _)); exact BK102.out)) : gb135 ≠ gb102)); have n15_ := Xam ((by rw [hg]; exact Nat.ne_of_lt (Xbl (g := gb127) (o := .cells #[.int .i64 t120, .int .i64 t121, .int .i64 t122, .slice Ao51 t123.length co51, .int .i64 t126] 66 (0, 0)) (by (with_reducible repeat (first | refine Xkn ?_ _ | refine Xkd ?_ | refine Xka ?_ _)); exact BK127.out)) : gb127 ≠ gb135)); have n16_ := Xam ((by rw [hg]; exact Nat.ne_of_gt (Xbl (g := gb127) (o := .cells #[.int .i64 t120, .int .i64 t121, .int .i64 t122, .slice Ao51 t123.length co51, .int .i64 t126] 66 (0, 0)) (by (with_reducible repeat (first | refine Xkn ?_ _ | refine Xkd ?_ | refine Xka ?_ _)); exact BK127.out)) : gb135 ≠ gb127)); clear HO110; clear HO117; clear HO125; clear HO133; clear BK101; clear BK102; clear BK127; clear HB; have HO110 := n0_; have HO117 := n1_; have HO125 := n2_; have HO133 := n3_; have BK101 := n4_; have BK102 := n5_; have BK127 := n6_; have HB := n7_; have BK135 := n8_; have GW135 := n9_; have GE135 := n10_; have NB101_135 := n11_; have NB135_101 := n12_; have NB102_135 := n13_; have NB135_102 := n14_; have NB127_135 := n15_; have NB135_127 := n16_; clear n0_ n1_ n2_ n3_ n4_ n5_ n6_ n7_ n8_ n9_ n10_ n11_ n12_ n13_ n14_ n15_ n16_; clear hb hbox hg; have hnb55 := NB135_101.out; have hnc55 := NB101_135.out; have hnb56 := NB135_102.out; have hnc56 := NB102_135.out; have hnb57 := NB135_127.out; have hnc57 := NB127_135.out; have hcz58_0 : w54.cell? ⟨gb135, 0, none⟩ = some (.int .i64 0) := (Xbc BK135.out 0).trans rfl; have hcz58_1 : w54.cell? ⟨gb135, 1, none⟩ = some (.int .i64 0) := (Xbc BK135.out 1).trans rfl; have hcz58_2 : w54.cell? ⟨gb135, 2, none⟩ = some (.int .i64 0) := (Xbc BK135.out 2).trans rfl; have hcz58_3 : w54.cell? ⟨gb135, 3, none⟩ = some (.slice none 0 0) := (Xbc BK135.out 3).trans rfl; have hcz58_4 : w54.cell? ⟨gb135, 4, none⟩ = some (.int .i64 0) := (Xbc BK135.out 4).trans rfl; have hfz58_0 := Xbf BK135.out 0; have hfz58_1 := Xbf BK135.out 1; have hfz58_2 := Xbf BK135.out 2; have hfz58_3 := Xbf BK135.out 3; have hfz58_4 := Xbf BK135.out 4; obtain ⟨Ao59, co59, eo59⟩ := Kd.R_slice HO133.out; subst eo59; have hcz60_0 : w54.cell? ⟨gb127, 0, none⟩ = some (.int .i64 t120) := (Xbc BK127.out 0).trans rfl; have hcz60_1 : w54.cell? ⟨gb127, 1, none⟩ = some (.int .i64 t121) := (Xbc BK127.out 1).trans rfl; have hcz60_2 : w54.cell? ⟨gb127, 2, none⟩ = some (.int .i64 t122) := (Xbc BK127.out 2).trans rfl; have hcz60_3 : w54.cell? ⟨gb127, 3, none⟩ = some (.slice Ao51 t123.length co51) := (Xbc BK127.out 3).trans rfl; have hcz60_4 : w54.cell? ⟨gb127, 4, none⟩ = some (.int .i64 t126) := (Xbc BK127.out 4).trans rfl; have hfz60_0 := Xbf BK127.out 0; have hfz60_1 := Xbf BK127.out 1; have hfz60_2 := Xbf BK127.out 2; have hfz60_3 := Xbf BK127.out 3; have hfz60_4 := Xbf BK127.out 4) | ((with_reducible refine gate_callee (f := 67) rfl ?_); refine goesL_ (some 31) rfl rfl Try.func67 (by kernel_rfl) rfl #[.agg #[.int .i64 t120, .int .i64 t121, .int .i64 t122, .slice Ao51 t123.length co51, .int .i64 t126], .agg #[.int .i64 t128, .int .i64 t129, .int .i64 t130, .slice Ao59 t131.length co59, .int .i64 t134]] rfl (by (try simp only [List.map_toArray, List.map_cons, List.map_nil]); first | done | rfl | (simp only [List.length_drop, List.length_take]; rfl)) ?_; (with_reducible refine (impl_EqualServers.calls k t120 t121 t122 _ _ t123 t126 t128 t129 t130 _ _ t131 t134 t136 _ ?side1 ?side2 ?side3 ?side4 A24.out).mono ?_); (case side1 => refine (Kd.R_reads' (e := 125) (base := w.heap.size) (ok := fun k_ => (((True ∧ some k_ ≠ (.slice Ao42 t108.length co42 : Value).ownBlock) ∧ some k_ ≠ (.slice Ao43 t115.length co43 : Value).ownBlock) ∧ some k_ ≠ (.slice Ao59 t131.length co59 : Value).ownBlock)) (n := t123.length) (c := co51) ?_).2.2; exact (by (with_reducible repeat (first | apply Xra | apply Xrn | apply Xrd)); exact (Kd.R_mono (Kd.R_far (p := ⟨gb135, 4, none⟩) (Kd.R_far (p := ⟨gb135, 3, none⟩) (Kd.R_far (p := ⟨gb135, 2, none⟩) (Kd.R_far (p := ⟨gb135, 1, none⟩) (Kd.R_far (p := ⟨gb135, 0, none⟩) (Kd.R_types HO125.out BK135.out (by decide)) (fun _ hk => hk.2) (.int .i64 t128)) (fun _ hk => hk.2) (.int .i64 t129)) (fun _ hk => hk.2) (.int .i64 t130)) (fun _ hk => hk.2) (.slice Ao59 t131.length co59)) (fun _ hk => hk.2) (.int .i64 t134)) (fun _ h_ => h_.1)))); (case side2 => exact (Kd.R_reads' HO125.out).2.1); (case side3 => refine (Kd.R_reads' (e := 125) (base := w.heap.size) (ok := fun k_ => (((True ∧ some k_ ≠ (.slice Ao42 t108.length co42 : Value).ownBlock) ∧ some k_ ≠ (.slice Ao43 t115.length co43 : Value).ownBlock) ∧ some k_ ≠ (.slice Ao51 t123.length co51 : Value).ownBlock)) (n := t131.length) (c := co59) ?_).2.2; exact (by (with_reducible repeat (first | apply Xra | apply Xrn | apply Xrd)); exact (Kd.R_mono (Kd.R_far (p := ⟨gb135, 4, none⟩) (Kd.R_far (p := ⟨gb135, 3, none⟩) (Kd.R_far (p := ⟨gb135, 2, none⟩) (Kd.R_far (p := ⟨gb135, 1, none⟩) (Kd.R_far (p := ⟨gb135, 0, none⟩) (Kd.R_types HO133.out BK135.out (by decide)) (fun _ hk => hk.2) (.int .i64 t128)) (fun _ hk => hk.2) (.int .i64 t129)) (fun _ hk => hk.2) (.int .i64 t130)) (fun _ hk => hk.2) (.slice Ao59 t131.length co59)) (fun _ hk => hk.2) (.int .i64 t134)) (fun _ h_ => h_.1)))); (case side4 => exact (Kd.R_reads' HO133.out).2.1); rintro e w61 ⟨rfl, hb⟩; refine ⟨_, rfl, ?_⟩; have n0_ := Xam (Kd.R_below (by (with_reducible repeat (first | apply Xra | apply Xrn | apply Xrd)); exact (Kd.R_mono (Kd.R_far (p := ⟨gb135, 4, none⟩) (Kd.R_far (p := ⟨gb135, 3, none⟩) (Kd.R_far (p := ⟨gb135, 2, none⟩) (Kd.R_far (p := ⟨gb135, 1, none⟩) (Kd.R_far (p := ⟨gb135, 0, none⟩) (Kd.R_types HO110.out BK135.out (by decide)) (fun _ hk => hk.2) (.int .i64 t128)) (fun _ hk => hk.2) (.int .i64 t129)) (fun _ hk => hk.2) (.int .i64 t130)) (fun _ hk => hk.2) (.slice Ao59 t131.length co59)) (fun _ hk => hk.2) (.int .i64 t134)) (fun _ h_ => h_.1))) hb); have n1_ := Xam (Kd.R_below (by (with_reducible repeat (first | apply Xra | apply Xrn | apply Xrd)); exact (Kd.R_mono (Kd.R_far (p := ⟨gb135, 4, none⟩) (Kd.R_far (p := ⟨gb135, 3, none⟩) (Kd.R_far (p := ⟨gb135, 2, none⟩) (Kd.R_far (p := ⟨gb135, 1, none⟩) (Kd.R_far (p := ⟨gb135, 0, none⟩) (Kd.R_types HO117.out BK135.out (by decide)) (fun _ hk => hk.2) (.int .i64 t128)) (fun _ hk => hk.2) (.int .i64 t129)) (fun _ hk => hk.2) (.int .i64 t130)) (fun _ hk => hk.2) (.slice Ao59 t131.length co59)) (fun _ hk => hk.2) (.int .i64 t134)) (fun _ h_ => h_.1))) hb); have n2_ := Xam (Kd.R_below (by (with_reducible repeat (first | apply Xra | apply Xrn | apply Xrd)); exact (Kd.R_mono (Kd.R_far (p := ⟨gb135, 4, none⟩) (Kd.R_far (p := ⟨gb135, 3, none⟩) (Kd.R_far (p := ⟨gb135, 2, none⟩) (Kd.R_far (p := ⟨gb135, 1, none⟩) (Kd.R_far (p := ⟨gb135, 0, none⟩) (Kd.R_types HO125.out BK135.out (by decide)) (fun _ hk => hk.2) (.int .i64 t128)) (fun _ hk => hk.2) (.int .i64 t129)) (fun _ hk => hk.2) (.int .i64 t130)) (fun _ hk => hk.2) (.slice Ao59 t131.length co59)) (fun _ hk => hk.2) (.int .i64 t134)) (fun _ h_ => h_.1))) hb); have n3_ := Xam (Kd.R_below (by (with_reducible repeat (first | apply Xra | apply Xrn | apply Xrd)); exact (Kd.R_mono (Kd.R_far (p := ⟨gb135, 4, none⟩) (Kd.R_far (p := ⟨gb135, 3, none⟩) (Kd.R_far (p := ⟨gb135, 2, none⟩) (Kd.R_far (p := ⟨gb135, 1, none⟩) (Kd.R_far (p := ⟨gb135, 0, none⟩) (Kd.R_types HO133.out BK135.out (by decide)) (fun _ hk => hk.2) (.int .i64 t128)) (fun _ hk => hk.2) (.int .i64 t129)) (fun _ hk => hk.2) (.int .i64 t130)) (fun _ hk => hk.2) (.slice Ao59 t131.length co59)) (fun _ hk => hk.2) (.int .i64 t134)) (fun _ h_ => h_.1))) hb); have n4_ := Xam (Xbb (g := gb101) (o := .cells #[.int .i64 a0_0, .int .i64 a0_1, .int .i64 a0_2, .slice A0_3 l0_3.length c0_3, .int .i64 a0_4] 61 (0, 0)) (by (with_reducible repeat (first | refine Xkn ?_ _ | refine Xkd ?_ | refine Xka ?_ _)); refine blk_far ?_ NB101_135.out _; (with_reducible repeat (first | refine Xkn ?_ _ | refine Xkd ?_ | refine Xka ?_ _)); refine blk_far ?_ NB101_135.out _; (with_reducible repeat (first | refine Xkn ?_ _ | refine Xkd ?_ | refine Xka ?_ _)); refine blk_far ?_ NB101_135.out _; (with_reducible repeat (first | refine Xkn ?_ _ | refine Xkd ?_ | refine Xka ?_ _)); refine blk_far ?_ NB101_135.out _; (with_reducible repeat (first | refine Xkn ?_ _ | refine Xkd ?_ | refine Xka ?_ _)); refine blk_far ?_ NB101_135.out _; (with_reducible repeat (first | refine Xkn ?_ _ | refine Xkd ?_ | refine Xka ?_ _)); exact BK101.out) hb); have n5_ := Xam (Xbb (g := gb102) (o := .cells #[.int .i64 a1_0, .int .i64 a1_1, .int .i64 a1_2, .slice A1_3 l1_3.length c1_3, .int .i64 a1_4] 61 (0, 0)) (by (with_reducible repeat (first | refine Xkn ?_ _ | refine Xkd ?_ | refine Xka ?_ _)); refine blk_far ?_ NB102_135.out _; (with_reducible repeat (first | refine Xkn ?_ _ | refine Xkd ?_ | refine Xka ?_ _)); refine blk_far ?_ NB102_135.out _; (with_reducible repeat (first | refine Xkn ?_ _ | refine Xkd ?_ | refine Xka ?_ _)); refine blk_far ?_ NB102_135.out _; (with_reducible repeat (first | refine Xkn ?_ _ | refine Xkd ?_ | refine Xka ?_ _)); refine blk_far ?_ NB102_135.out _; (with_reducible repeat (first | refine Xkn ?_ _ | refine Xkd ?_ | refine Xka ?_ _)); refine blk_far ?_ NB102_135.out _; (with_reducible repeat (first | refine Xkn ?_ _ | refine Xkd ?_ | refine Xka ?_ _)); exact BK102.out) hb); have n6_ := Xam (Xbb (g := gb127) (o := .cells #[.int .i64 t120, .int .i64 t121, .int .i64 t122, .slice Ao51 t123.length co51, .int .i64 t126] 66 (0, 0)) (by (with_reducible repeat (first | refine Xkn ?_ _ | refine Xkd ?_ | refine Xka ?_ _)); refine blk_far ?_ NB127_135.out _; (with_reducible repeat (first | refine Xkn ?_ _ | refine Xkd ?_ | refine Xka ?_ _)); refine blk_far ?_ NB127_135.out _; (with_reducible repeat (first | refine Xkn ?_ _ | refine Xkd ?_ | refine Xka ?_ _)); refine blk_far ?_ NB127_135.out _; (with_reducible repeat (first | refine Xkn ?_ _ | refine Xkd ?_ | refine Xka ?_ _)); refine blk_far ?_ NB127_135.out _; (with_reducible repeat (first | refine Xkn ?_ _ | refine Xkd ?_ | refine Xka ?_ _)); refine blk_far ?_ NB127_135.out _; (with_reducible repeat (first | refine Xkn ?_ _ | refine Xkd ?_ | refine Xka ?_ _)); exact BK127.out) hb); have n7_ := Xam (Xbb (g := gb135) (o := .cells #[.int .i64 t128, .int .i64 t129, .int .i64 t130, .slice Ao59 t131.length co59, .int .i64 t134] 66 (0, 0)) (by (with_reducible repeat (first | refine Xkn ?_ _ | refine Xkd ?_ | refine Xka ?_ _)); refine blk_put (cs := #[.int .i64 t128, .int .i64 t129, .int .i64 t130, .slice Ao59 t131.length co59, .int .i64 0]) ?_ 4 _ rfl; (with_reducible repeat (first | refine Xkn ?_ _ | refine Xkd ?_ | refine Xka ?_ _)); refine blk_put (cs := #[.int .i64 t128, .int .i64 t129, .int .i64 t130, .slice none 0 0, .int .i64 0]) ?_ 3 _ rfl; (with_reducible repeat (first | refine Xkn ?_ _ | refine Xkd ?_ | refine Xka ?_ _)); refine blk_put (cs := #[.int .i64 t128, .int .i64 t129, .int .i64 0, .slice none 0 0, .int .i64 0]) ?_ 2 _ rfl; (with_reducible repeat (first | refine Xkn ?_ _ | refine Xkd ?_ | refine Xka ?_ _)); refine blk_put (cs := #[.int .i64 t128, .int .i64 0, .int .i64 0, .slice none 0 0, .int .i64 0]) ?_ 1 _ rfl; (with_reducible repeat (first | refine Xkn ?_ _ | refine Xkd ?_ | refine Xka ?_ _)); refine blk_put (cs := #[.int .i64 0, .int .i64 0, .int .i64 0, .slice none 0 0, .int .i64 0]) ?_ 0 _ rfl; (with_reducible repeat (first | refine Xkn ?_ _ | refine Xkd ?_ | refine Xka ?_ _)); exact BK135.out) hb); have n8_ := Xam (Xbt (by repeat (first | (with_reducible first | exact HB.out | apply Xba | apply Xbn | apply Xbd | refine Xbe ?_ GE101.out | refine Xbe ?_ GE102.out | refine Xbe ?_ GE127.out | refine Xbe ?_ GE135.out) | exact HB.out)) hb); clear HO110; clear HO117; clear HO125; clear HO133; clear BK101; clear BK102; clear BK127; clear BK135; clear HB; have HO110 := n0_; have HO117 := n1_; have HO125 := n2_; have HO133 := n3_; have BK101 := n4_; have BK102 := n5_; have BK127 := n6_; have BK135 := n7_; have HB := n8_; clear n0_ n1_ n2_ n3_ n4_ n5_ n6_ n7_ n8_; (try clear hb); (try clear hb2); (try clear hk); (try clear hi)))
            have n0_ := Xam (Xrd HO110.out)
            have n1_ := Xam (Xrd HO117.out)
            have n2_ := Xam (Xrd HO125.out)
            have n3_ := Xam (Xrd HO133.out)
            have n4_ := Xam (Xkd BK101.out)
            have n5_ := Xam (Xkd BK102.out)
            have n6_ := Xam (Xkd BK127.out)
            have n7_ := Xam (Xkd BK135.out)
            have n8_ := Xam (Xbd HB.out)
            clear HO110
            clear HO117
            clear HO125
            clear HO133
            clear BK101
            clear BK102
            clear BK127
            clear BK135
            clear HB
            have HO110 := n0_
            have HO117 := n1_
            have HO125 := n2_
            have HO133 := n3_
            have BK101 := n4_
            have BK102 := n5_
            have BK127 := n6_
            have BK135 := n7_
            have HB := n8_
            clear n0_ n1_ n2_ n3_ n4_ n5_ n6_ n7_ n8_
            refine start_ (n := 5) (S := fun w' => w'.cell? ⟨gb127, 0, none⟩ = some (.int .i64 t120) ∧ w'.cell? ⟨gb127, 1, none⟩ = some (.int .i64 t121) ∧ w'.cell? ⟨gb127, 2, none⟩ = some (.int .i64 t122) ∧ w'.cell? ⟨gb127, 3, none⟩ = some (.slice Ao51 t123.length co51) ∧ w'.cell? ⟨gb127, 4, none⟩ = some (.int .i64 t126) ∧ w'.cell? ⟨gb101, 0, none⟩ = some (.int .i64 a0_0) ∧ w'.cell? ⟨gb101, 1, none⟩ = some (.int .i64 a0_1) ∧ w'.cell? ⟨gb101, 2, none⟩ = some (.int .i64 a0_2) ∧ w'.cell? ⟨gb101, 3, none⟩ = some (.slice A0_3 l0_3.length c0_3) ∧ w'.cell? ⟨gb101, 4, none⟩ = some (.int .i64 a0_4)) (ds := []) #[false, false, false, false, false] (by kernel_rfl) rfl rfl ⟨(Xbc BK127.out 0).trans rfl, (Xbc BK127.out 1).trans rfl, (Xbc BK127.out 2).trans rfl, (Xbc BK127.out 3).trans rfl, (Xbc BK127.out 4).trans rfl, (Xbc BK101.out 0).trans rfl, (Xbc BK101.out 1).trans rfl, (Xbc BK101.out 2).trans rfl, (Xbc BK101.out 3).trans rfl, (Xbc BK101.out 4).trans rfl⟩ (fun hHeld => ?_)
            generalize w61.drew = w62 at HO110 HO117 HO125 HO133 BK101 BK102 BK127 BK135 HB hHeld ⊢
            refine take_ (i := 0) (N := some 35) (v := ?_) (a' := ?_) #[true, false, false, false, false] rfl rfl (by kernel_rfl) (fun _ _ _ h => h) (Or.inl ⟨by rfl, ?_⟩) hHeld ?_ ?_
            rotate_left
            · rintro w' ⟨s0, s1, s2, s3, s4, s5, s6, s7, s8, s9⟩
              go_simp
              with_reducible rfl
            rotate_left
            · simp only [Act.put, List.setIfInBounds_toArray, List.set_cons_zero, List.set_cons_succ, i64_w, i32_w]
              rfl
            refine take_ (i := 1) (N := some 36) (v := ?_) (a' := ?_) #[true, true, false, false, false] rfl rfl (by kernel_rfl) (fun _ _ _ h => h) (Or.inl ⟨by rfl, ?_⟩) hHeld ?_ ?_
            rotate_left
            · rintro w' ⟨s0, s1, s2, s3, s4, s5, s6, s7, s8, s9⟩
              go_simp
              with_reducible rfl
            rotate_left
            · simp only [Act.put, List.setIfInBounds_toArray, List.set_cons_zero, List.set_cons_succ, i64_w, i32_w]
              rfl
            refine one_ (i := 2) (N := some 37) #[true, true, true, false, false] rfl rfl (by kernel_rfl) (by decide) (fun K hK => ?_)
            refine goes_ Try.func40 (by kernel_rfl) rfl #[.agg #[.int .i64 a0_0, .int .i64 a0_1, .int .i64 a0_2, .slice A0_3 l0_3.length c0_3, .int .i64 a0_4]] (by rfl) rfl rfl (by (try simp only [List.map_toArray, List.map_cons, List.map_nil]); first | done | rfl | (simp only [List.length_drop, List.length_take]; rfl)) ?_
            with_reducible refine (laws_toServer.calls k a0_0 a0_1 a0_2 _ _ l0_3 a0_4 t137 t138 t139 t140 t143 _ ?side1 ?side2 A26.out).mono ?_
            (case side1 => repeat (first | exact (Kd.C_below HR0_3.out HB.out) | (with_reducible refine Xca ?_ _) | (with_reducible refine Xcn ?_ _) | (with_reducible refine Xcd ?_)))
            (case side2 => exact HC0_3.out)
            rintro e w63 ⟨v141, rfl, ho0, hb⟩
            refine ⟨_, rfl, ?_⟩
            have n0_ := Xam (Kd.R_elder' (by (with_reducible repeat (first | apply Xra | apply Xrn | apply Xrd)); exact HO110.out) (Kd.R_base ho0) hb)
            have n1_ := Xam (Kd.R_elder' (by (with_reducible repeat (first | apply Xra | apply Xrn | apply Xrd)); exact HO117.out) (Kd.R_base ho0) hb)
            have n2_ := Xam (Kd.R_elder' (by (with_reducible repeat (first | apply Xra | apply Xrn | apply Xrd)); exact HO125.out) (Kd.R_base ho0) hb)
            have n3_ := Xam (Kd.R_elder' (by (with_reducible repeat (first | apply Xra | apply Xrn | apply Xrd)); exact HO133.out) (Kd.R_base ho0) hb)
            have n4_ := Xam (Kd.R_lower (Kd.R_new' (Kd.R_new' (Kd.R_new' (Kd.R_new' ho0 (Kd.R_lt (by (with_reducible repeat (first | apply Xra | apply Xrn | apply Xrd)); exact HO110.out))) (Kd.R_lt (by (with_reducible repeat (first | apply Xra | apply Xrn | apply Xrd)); exact HO117.out))) (Kd.R_lt (by (with_reducible repeat (first | apply Xra | apply Xrn | apply Xrd)); exact HO125.out))) (Kd.R_lt (by (with_reducible repeat (first | apply Xra | apply Xrn | apply Xrd)); exact HO133.out))) (Xbs (by repeat (first | (with_reducible first | exact HB.out | apply Xba | apply Xbn | apply Xbd | refine Xbe ?_ GE101.out | refine Xbe ?_ GE102.out | refine Xbe ?_ GE127.out | refine Xbe ?_ GE135.out) | exact HB.out))))
            have n5_ := Xam (Xbb (g := gb101) (o := .cells #[.int .i64 a0_0, .int .i64 a0_1, .int .i64 a0_2, .slice A0_3 l0_3.length c0_3, .int .i64 a0_4] 61 (0, 0)) (by (with_reducible repeat (first | refine Xkn ?_ _ | refine Xkd ?_ | refine Xka ?_ _)); exact BK101.out) hb)
            have n6_ := Xam (Xbb (g := gb102) (o := .cells #[.int .i64 a1_0, .int .i64 a1_1, .int .i64 a1_2, .slice A1_3 l1_3.length c1_3, .int .i64 a1_4] 61 (0, 0)) (by (with_reducible repeat (first | refine Xkn ?_ _ | refine Xkd ?_ | refine Xka ?_ _)); exact BK102.out) hb)
            have n7_ := Xam (Xbb (g := gb127) (o := .cells #[.int .i64 t120, .int .i64 t121, .int .i64 t122, .slice Ao51 t123.length co51, .int .i64 t126] 66 (0, 0)) (by (with_reducible repeat (first | refine Xkn ?_ _ | refine Xkd ?_ | refine Xka ?_ _)); exact BK127.out) hb)
            have n8_ := Xam (Xbb (g := gb135) (o := .cells #[.int .i64 t128, .int .i64 t129, .int .i64 t130, .slice Ao59 t131.length co59, .int .i64 t134] 66 (0, 0)) (by (with_reducible repeat (first | refine Xkn ?_ _ | refine Xkd ?_ | refine Xka ?_ _)); exact BK135.out) hb)
            have n9_ := Xam (Xbt (by repeat (first | (with_reducible first | exact HB.out | apply Xba | apply Xbn | apply Xbd | refine Xbe ?_ GE101.out | refine Xbe ?_ GE102.out | refine Xbe ?_ GE127.out | refine Xbe ?_ GE135.out) | exact HB.out)) hb)
            clear HO110
            clear HO117
            clear HO125
            clear HO133
            clear BK101
            clear BK102
            clear BK127
            clear BK135
            clear HB
            have HO110 := n0_
            have HO117 := n1_
            have HO125 := n2_
            have HO133 := n3_
            have HO142 := n4_
            have BK101 := n5_
            have BK102 := n6_
            have BK127 := n7_
            have BK135 := n8_
            have HB := n9_
            clear n0_ n1_ n2_ n3_ n4_ n5_ n6_ n7_ n8_ n9_
            (try clear hb)
            (try clear hb2)
            (try clear hk)
            (try clear hi)
            (try clear ho0)
            obtain ⟨Ao64, co64, eo64⟩ := Kd.R_slice HO142.out
            (first | subst eo64 | (injection eo64 with f1_ f2_ f3_; have f4_ := f1_.symm; have f5_ := f3_.symm; clear f1_ f2_ f3_; subst f4_; subst f5_))
            refine hK.out _ _ ⟨(Xbc BK127.out 0).trans rfl, (Xbc BK127.out 1).trans rfl, (Xbc BK127.out 2).trans rfl, (Xbc BK127.out 3).trans rfl, (Xbc BK127.out 4).trans rfl, (Xbc BK101.out 0).trans rfl, (Xbc BK101.out 1).trans rfl, (Xbc BK101.out 2).trans rfl, (Xbc BK101.out 3).trans rfl, (Xbc BK101.out 4).trans rfl⟩ (fun hHeld => ?_)
            clear hK K
            refine norm_ (a' := ?_) ?_ ?_
            rotate_left
            · show Act.put _ (some 37) _ = _
              simp only [Act.put, List.setIfInBounds_toArray, List.set_cons_zero, List.set_cons_succ, i64_w, i32_w]
              rfl
            refine one_ (i := 3) (N := some 38) #[true, true, true, true, false] rfl rfl (by kernel_rfl) (by decide) (fun K hK => ?_)
            refine goes_ Try.func42 (by kernel_rfl) rfl #[.agg #[.int .i64 t120, .int .i64 t121, .int .i64 t122, .slice Ao51 t123.length co51, .int .i64 t126], .agg #[.int .i64 t137, .int .i64 t138, .int .i64 t139, .slice Ao64 t140.length co64, .int .i64 t143]] (by rfl) rfl rfl (by (try simp only [List.map_toArray, List.map_cons, List.map_nil]); first | done | rfl | (simp only [List.length_drop, List.length_take]; rfl)) ?_
            with_reducible refine (laws_eqServer.calls k t120 t121 t122 _ _ t123 t126 t137 t138 t139 _ _ t140 t143 true _ ?side1 ?side2 ?side3 ?side4 A27.out).mono ?_
            (case side1 => repeat (first | exact (Kd.R_reads' HO125.out).2.2 | (with_reducible refine Xca ?_ _) | (with_reducible refine Xcn ?_ _) | (with_reducible refine Xcd ?_)))
            (case side2 => exact (Kd.R_reads' HO125.out).2.1)
            (case side3 => repeat (first | exact (Kd.R_reads' HO142.out).2.2 | (with_reducible refine Xca ?_ _) | (with_reducible refine Xcn ?_ _) | (with_reducible refine Xcd ?_)))
            (case side4 => exact (Kd.R_reads' HO142.out).2.1)
            rintro e w65 ⟨rfl, hb⟩
            refine ⟨_, rfl, ?_⟩
            have n0_ := Xam (Kd.R_below (by (with_reducible repeat (first | apply Xra | apply Xrn | apply Xrd)); exact HO110.out) hb)
            have n1_ := Xam (Kd.R_below (by (with_reducible repeat (first | apply Xra | apply Xrn | apply Xrd)); exact HO117.out) hb)
            have n2_ := Xam (Kd.R_below (by (with_reducible repeat (first | apply Xra | apply Xrn | apply Xrd)); exact HO125.out) hb)
            have n3_ := Xam (Kd.R_below (by (with_reducible repeat (first | apply Xra | apply Xrn | apply Xrd)); exact HO133.out) hb)
            have n4_ := Xam (Kd.R_below (by (with_reducible repeat (first | apply Xra | apply Xrn | apply Xrd)); exact HO142.out) hb)
            have n5_ := Xam (Xbb (g := gb101) (o := .cells #[.int .i64 a0_0, .int .i64 a0_1, .int .i64 a0_2, .slice A0_3 l0_3.length c0_3, .int .i64 a0_4] 61 (0, 0)) (by (with_reducible repeat (first | refine Xkn ?_ _ | refine Xkd ?_ | refine Xka ?_ _)); exact BK101.out) hb)
            have n6_ := Xam (Xbb (g := gb102) (o := .cells #[.int .i64 a1_0, .int .i64 a1_1, .int .i64 a1_2, .slice A1_3 l1_3.length c1_3, .int .i64 a1_4] 61 (0, 0)) (by (with_reducible repeat (first | refine Xkn ?_ _ | refine Xkd ?_ | refine Xka ?_ _)); exact BK102.out) hb)
            have n7_ := Xam (Xbb (g := gb127) (o := .cells #[.int .i64 t120, .int .i64 t121, .int .i64 t122, .slice Ao51 t123.length co51, .int .i64 t126] 66 (0, 0)) (by (with_reducible repeat (first | refine Xkn ?_ _ | refine Xkd ?_ | refine Xka ?_ _)); exact BK127.out) hb)
            have n8_ := Xam (Xbb (g := gb135) (o := .cells #[.int .i64 t128, .int .i64 t129, .int .i64 t130, .slice Ao59 t131.length co59, .int .i64 t134] 66 (0, 0)) (by (with_reducible repeat (first | refine Xkn ?_ _ | refine Xkd ?_ | refine Xka ?_ _)); exact BK135.out) hb)
            have n9_ := Xam (Xbt (by repeat (first | (with_reducible first | exact HB.out | apply Xba | apply Xbn | apply Xbd | refine Xbe ?_ GE101.out | refine Xbe ?_ GE102.out | refine Xbe ?_ GE127.out | refine Xbe ?_ GE135.out) | exact HB.out)) hb)
            clear HO110
            clear HO117
            clear HO125
            clear HO133
            clear HO142
            clear BK101
            clear BK102
            clear BK127
            clear BK135
            clear HB
            have HO110 := n0_
            have HO117 := n1_
            have HO125 := n2_
            have HO133 := n3_
            have HO142 := n4_
            have BK101 := n5_
            have BK102 := n6_
            have BK127 := n7_
            have BK135 := n8_
            have HB := n9_
            clear n0_ n1_ n2_ n3_ n4_ n5_ n6_ n7_ n8_ n9_
            (try clear hb)
            (try clear hb2)
            (try clear hk)
            (try clear hi)
            refine hK.out _ _ ⟨(Xbc BK127.out 0).trans rfl, (Xbc BK127.out 1).trans rfl, (Xbc BK127.out 2).trans rfl, (Xbc BK127.out 3).trans rfl, (Xbc BK127.out 4).trans rfl, (Xbc BK101.out 0).trans rfl, (Xbc BK101.out 1).trans rfl, (Xbc BK101.out 2).trans rfl, (Xbc BK101.out 3).trans rfl, (Xbc BK101.out 4).trans rfl⟩ (fun hHeld => ?_)
            clear hK K
            refine norm_ (a' := ?_) ?_ ?_
            rotate_left
            · show Act.put _ (some 38) _ = _
              simp only [Act.put, List.setIfInBounds_toArray, List.set_cons_zero, List.set_cons_succ, i64_w, i32_w]
              rfl
            refine pure_ (i := 4) (N := some 39) (v := ?_) (a' := ?_) #[true, true, true, true, true] rfl rfl (by kernel_rfl) (fun _ _ _ h => h) (Or.inl ⟨by rfl, ?_⟩) ?_ ?_
            rotate_left
            · intro w'
              go_simp
              with_reducible rfl
            rotate_left
            · simp only [Act.put, List.setIfInBounds_toArray, List.set_cons_zero, List.set_cons_succ, i64_w, i32_w]
              rfl
            refine done_ (by kernel_rfl) ?_
            try go_wp2
            have n0_ := Xam (Xrd HO110.out)
            have n1_ := Xam (Xrd HO117.out)
            have n2_ := Xam (Xrd HO125.out)
            have n3_ := Xam (Xrd HO133.out)
            have n4_ := Xam (Xrd HO142.out)
            have n5_ := Xam (Xkd BK101.out)
            have n6_ := Xam (Xkd BK102.out)
            have n7_ := Xam (Xkd BK127.out)
            have n8_ := Xam (Xkd BK135.out)
            have n9_ := Xam (Xbd HB.out)
            clear HO110
            clear HO117
            clear HO125
            clear HO133
            clear HO142
            clear BK101
            clear BK102
            clear BK127
            clear BK135
            clear HB
            have HO110 := n0_
            have HO117 := n1_
            have HO125 := n2_
            have HO133 := n3_
            have HO142 := n4_
            have BK101 := n5_
            have BK102 := n6_
            have BK127 := n7_
            have BK135 := n8_
            have HB := n9_
            clear n0_ n1_ n2_ n3_ n4_ n5_ n6_ n7_ n8_ n9_
            refine start_ (n := 5) (S := fun w' => w'.cell? ⟨gb135, 0, none⟩ = some (.int .i64 t128) ∧ w'.cell? ⟨gb135, 1, none⟩ = some (.int .i64 t129) ∧ w'.cell? ⟨gb135, 2, none⟩ = some (.int .i64 t130) ∧ w'.cell? ⟨gb135, 3, none⟩ = some (.slice Ao59 t131.length co59) ∧ w'.cell? ⟨gb135, 4, none⟩ = some (.int .i64 t134) ∧ w'.cell? ⟨gb102, 0, none⟩ = some (.int .i64 a1_0) ∧ w'.cell? ⟨gb102, 1, none⟩ = some (.int .i64 a1_1) ∧ w'.cell? ⟨gb102, 2, none⟩ = some (.int .i64 a1_2) ∧ w'.cell? ⟨gb102, 3, none⟩ = some (.slice A1_3 l1_3.length c1_3) ∧ w'.cell? ⟨gb102, 4, none⟩ = some (.int .i64 a1_4)) (ds := []) #[false, false, false, false, false] (by kernel_rfl) rfl rfl ⟨(Xbc BK135.out 0).trans rfl, (Xbc BK135.out 1).trans rfl, (Xbc BK135.out 2).trans rfl, (Xbc BK135.out 3).trans rfl, (Xbc BK135.out 4).trans rfl, (Xbc BK102.out 0).trans rfl, (Xbc BK102.out 1).trans rfl, (Xbc BK102.out 2).trans rfl, (Xbc BK102.out 3).trans rfl, (Xbc BK102.out 4).trans rfl⟩ (fun hHeld => ?_)
            generalize w65.drew = w66 at HO110 HO117 HO125 HO133 HO142 BK101 BK102 BK127 BK135 HB hHeld ⊢
            refine take_ (i := 0) (N := some 40) (v := ?_) (a' := ?_) #[true, false, false, false, false] rfl rfl (by kernel_rfl) (fun _ _ _ h => h) (Or.inl ⟨by rfl, ?_⟩) hHeld ?_ ?_
            rotate_left
            · rintro w' ⟨s0, s1, s2, s3, s4, s5, s6, s7, s8, s9⟩
              go_simp
              with_reducible rfl
            rotate_left
            · simp only [Act.put, List.setIfInBounds_toArray, List.set_cons_zero, List.set_cons_succ, i64_w, i32_w]
              rfl
            refine take_ (i := 1) (N := some 41) (v := ?_) (a' := ?_) #[true, true, false, false, false] rfl rfl (by kernel_rfl) (fun _ _ _ h => h) (Or.inl ⟨by rfl, ?_⟩) hHeld ?_ ?_
            rotate_left
            · rintro w' ⟨s0, s1, s2, s3, s4, s5, s6, s7, s8, s9⟩
              go_simp
              with_reducible rfl
            rotate_left
            · simp only [Act.put, List.setIfInBounds_toArray, List.set_cons_zero, List.set_cons_succ, i64_w, i32_w]
              rfl
            refine one_ (i := 2) (N := some 42) #[true, true, true, false, false] rfl rfl (by kernel_rfl) (by decide) (fun K hK => ?_)
            refine goes_ Try.func40 (by kernel_rfl) rfl #[.agg #[.int .i64 a1_0, .int .i64 a1_1, .int .i64 a1_2, .slice A1_3 l1_3.length c1_3, .int .i64 a1_4]] (by rfl) rfl rfl (by (try simp only [List.map_toArray, List.map_cons, List.map_nil]); first | done | rfl | (simp only [List.length_drop, List.length_take]; rfl)) ?_
            with_reducible refine (laws_toServer.calls k a1_0 a1_1 a1_2 _ _ l1_3 a1_4 t145 t146 t147 t148 t151 _ ?side1 ?side2 A29.out).mono ?_
            (case side1 => repeat (first | exact (Kd.C_below HR1_3.out HB.out) | (with_reducible refine Xca ?_ _) | (with_reducible refine Xcn ?_ _) | (with_reducible refine Xcd ?_)))
            (case side2 => exact HC1_3.out)
            rintro e w67 ⟨v149, rfl, ho0, hb⟩
            refine ⟨_, rfl, ?_⟩
            have n0_ := Xam (Kd.R_elder' (by (with_reducible repeat (first | apply Xra | apply Xrn | apply Xrd)); exact HO110.out) (Kd.R_base ho0) hb)
            have n1_ := Xam (Kd.R_elder' (by (with_reducible repeat (first | apply Xra | apply Xrn | apply Xrd)); exact HO117.out) (Kd.R_base ho0) hb)
            have n2_ := Xam (Kd.R_elder' (by (with_reducible repeat (first | apply Xra | apply Xrn | apply Xrd)); exact HO125.out) (Kd.R_base ho0) hb)
            have n3_ := Xam (Kd.R_elder' (by (with_reducible repeat (first | apply Xra | apply Xrn | apply Xrd)); exact HO133.out) (Kd.R_base ho0) hb)
            have n4_ := Xam (Kd.R_elder' (by (with_reducible repeat (first | apply Xra | apply Xrn | apply Xrd)); exact HO142.out) (Kd.R_base ho0) hb)
            have n5_ := Xam (Kd.R_lower (Kd.R_new' (Kd.R_new' (Kd.R_new' (Kd.R_new' (Kd.R_new' ho0 (Kd.R_lt (by (with_reducible repeat (first | apply Xra | apply Xrn | apply Xrd)); exact HO110.out))) (Kd.R_lt (by (with_reducible repeat (first | apply Xra | apply Xrn | apply Xrd)); exact HO117.out))) (Kd.R_lt (by (with_reducible repeat (first | apply Xra | apply Xrn | apply Xrd)); exact HO125.out))) (Kd.R_lt (by (with_reducible repeat (first | apply Xra | apply Xrn | apply Xrd)); exact HO133.out))) (Kd.R_lt (by (with_reducible repeat (first | apply Xra | apply Xrn | apply Xrd)); exact HO142.out))) (Xbs (by repeat (first | (with_reducible first | exact HB.out | apply Xba | apply Xbn | apply Xbd | refine Xbe ?_ GE101.out | refine Xbe ?_ GE102.out | refine Xbe ?_ GE127.out | refine Xbe ?_ GE135.out) | exact HB.out))))
            have n6_ := Xam (Xbb (g := gb101) (o := .cells #[.int .i64 a0_0, .int .i64 a0_1, .int .i64 a0_2, .slice A0_3 l0_3.length c0_3, .int .i64 a0_4] 61 (0, 0)) (by (with_reducible repeat (first | refine Xkn ?_ _ | refine Xkd ?_ | refine Xka ?_ _)); exact BK101.out) hb)
            have n7_ := Xam (Xbb (g := gb102) (o := .cells #[.int .i64 a1_0, .int .i64 a1_1, .int .i64 a1_2, .slice A1_3 l1_3.length c1_3, .int .i64 a1_4] 61 (0, 0)) (by (with_reducible repeat (first | refine Xkn ?_ _ | refine Xkd ?_ | refine Xka ?_ _)); exact BK102.out) hb)
            have n8_ := Xam (Xbb (g := gb127) (o := .cells #[.int .i64 t120, .int .i64 t121, .int .i64 t122, .slice Ao51 t123.length co51, .int .i64 t126] 66 (0, 0)) (by (with_reducible repeat (first | refine Xkn ?_ _ | refine Xkd ?_ | refine Xka ?_ _)); exact BK127.out) hb)
            have n9_ := Xam (Xbb (g := gb135) (o := .cells #[.int .i64 t128, .int .i64 t129, .int .i64 t130, .slice Ao59 t131.length co59, .int .i64 t134] 66 (0, 0)) (by (with_reducible repeat (first | refine Xkn ?_ _ | refine Xkd ?_ | refine Xka ?_ _)); exact BK135.out) hb)
            have n10_ := Xam (Xbt (by repeat (first | (with_reducible first | exact HB.out | apply Xba | apply Xbn | apply Xbd | refine Xbe ?_ GE101.out | refine Xbe ?_ GE102.out | refine Xbe ?_ GE127.out | refine Xbe ?_ GE135.out) | exact HB.out)) hb)
            clear HO110
            clear HO117
            clear HO125
            clear HO133
            clear HO142
            clear BK101
            clear BK102
            clear BK127
            clear BK135
            clear HB
            have HO110 := n0_
            have HO117 := n1_
            have HO125 := n2_
            have HO133 := n3_
            have HO142 := n4_
            have HO150 := n5_
            have BK101 := n6_
            have BK102 := n7_
            have BK127 := n8_
            have BK135 := n9_
            have HB := n10_
            clear n0_ n1_ n2_ n3_ n4_ n5_ n6_ n7_ n8_ n9_ n10_
            (try clear hb)
            (try clear hb2)
            (try clear hk)
            (try clear hi)
            (try clear ho0)
            obtain ⟨Ao68, co68, eo68⟩ := Kd.R_slice HO150.out
            (first | subst eo68 | (injection eo68 with f1_ f2_ f3_; have f4_ := f1_.symm; have f5_ := f3_.symm; clear f1_ f2_ f3_; subst f4_; subst f5_))
            refine hK.out _ _ ⟨(Xbc BK135.out 0).trans rfl, (Xbc BK135.out 1).trans rfl, (Xbc BK135.out 2).trans rfl, (Xbc BK135.out 3).trans rfl, (Xbc BK135.out 4).trans rfl, (Xbc BK102.out 0).trans rfl, (Xbc BK102.out 1).trans rfl, (Xbc BK102.out 2).trans rfl, (Xbc BK102.out 3).trans rfl, (Xbc BK102.out 4).trans rfl⟩ (fun hHeld => ?_)
            clear hK K
            refine norm_ (a' := ?_) ?_ ?_
            rotate_left
            · show Act.put _ (some 42) _ = _
              simp only [Act.put, List.setIfInBounds_toArray, List.set_cons_zero, List.set_cons_succ, i64_w, i32_w]
              rfl
            refine one_ (i := 3) (N := some 43) #[true, true, true, true, false] rfl rfl (by kernel_rfl) (by decide) (fun K hK => ?_)
            refine goes_ Try.func42 (by kernel_rfl) rfl #[.agg #[.int .i64 t128, .int .i64 t129, .int .i64 t130, .slice Ao59 t131.length co59, .int .i64 t134], .agg #[.int .i64 t145, .int .i64 t146, .int .i64 t147, .slice Ao68 t148.length co68, .int .i64 t151]] (by rfl) rfl rfl (by (try simp only [List.map_toArray, List.map_cons, List.map_nil]); first | done | rfl | (simp only [List.length_drop, List.length_take]; rfl)) ?_
            with_reducible refine (laws_eqServer.calls k t128 t129 t130 _ _ t131 t134 t145 t146 t147 _ _ t148 t151 true _ ?side1 ?side2 ?side3 ?side4 A30.out).mono ?_
            (case side1 => repeat (first | exact (Kd.R_reads' HO133.out).2.2 | (with_reducible refine Xca ?_ _) | (with_reducible refine Xcn ?_ _) | (with_reducible refine Xcd ?_)))
            (case side2 => exact (Kd.R_reads' HO133.out).2.1)
            (case side3 => repeat (first | exact (Kd.R_reads' HO150.out).2.2 | (with_reducible refine Xca ?_ _) | (with_reducible refine Xcn ?_ _) | (with_reducible refine Xcd ?_)))
            (case side4 => exact (Kd.R_reads' HO150.out).2.1)
            rintro e w69 ⟨rfl, hb⟩
            refine ⟨_, rfl, ?_⟩
            have n0_ := Xam (Kd.R_below (by (with_reducible repeat (first | apply Xra | apply Xrn | apply Xrd)); exact HO110.out) hb)
            have n1_ := Xam (Kd.R_below (by (with_reducible repeat (first | apply Xra | apply Xrn | apply Xrd)); exact HO117.out) hb)
            have n2_ := Xam (Kd.R_below (by (with_reducible repeat (first | apply Xra | apply Xrn | apply Xrd)); exact HO125.out) hb)
            have n3_ := Xam (Kd.R_below (by (with_reducible repeat (first | apply Xra | apply Xrn | apply Xrd)); exact HO133.out) hb)
            have n4_ := Xam (Kd.R_below (by (with_reducible repeat (first | apply Xra | apply Xrn | apply Xrd)); exact HO142.out) hb)
            have n5_ := Xam (Kd.R_below (by (with_reducible repeat (first | apply Xra | apply Xrn | apply Xrd)); exact HO150.out) hb)
            have n6_ := Xam (Xbb (g := gb101) (o := .cells #[.int .i64 a0_0, .int .i64 a0_1, .int .i64 a0_2, .slice A0_3 l0_3.length c0_3, .int .i64 a0_4] 61 (0, 0)) (by (with_reducible repeat (first | refine Xkn ?_ _ | refine Xkd ?_ | refine Xka ?_ _)); exact BK101.out) hb)
            have n7_ := Xam (Xbb (g := gb102) (o := .cells #[.int .i64 a1_0, .int .i64 a1_1, .int .i64 a1_2, .slice A1_3 l1_3.length c1_3, .int .i64 a1_4] 61 (0, 0)) (by (with_reducible repeat (first | refine Xkn ?_ _ | refine Xkd ?_ | refine Xka ?_ _)); exact BK102.out) hb)
            have n8_ := Xam (Xbb (g := gb127) (o := .cells #[.int .i64 t120, .int .i64 t121, .int .i64 t122, .slice Ao51 t123.length co51, .int .i64 t126] 66 (0, 0)) (by (with_reducible repeat (first | refine Xkn ?_ _ | refine Xkd ?_ | refine Xka ?_ _)); exact BK127.out) hb)
            have n9_ := Xam (Xbb (g := gb135) (o := .cells #[.int .i64 t128, .int .i64 t129, .int .i64 t130, .slice Ao59 t131.length co59, .int .i64 t134] 66 (0, 0)) (by (with_reducible repeat (first | refine Xkn ?_ _ | refine Xkd ?_ | refine Xka ?_ _)); exact BK135.out) hb)
            have n10_ := Xam (Xbt (by repeat (first | (with_reducible first | exact HB.out | apply Xba | apply Xbn | apply Xbd | refine Xbe ?_ GE101.out | refine Xbe ?_ GE102.out | refine Xbe ?_ GE127.out | refine Xbe ?_ GE135.out) | exact HB.out)) hb)
            clear HO110
            clear HO117
            clear HO125
            clear HO133
            clear HO142
            clear HO150
            clear BK101
            clear BK102
            clear BK127
            clear BK135
            clear HB
            have HO110 := n0_
            have HO117 := n1_
            have HO125 := n2_
            have HO133 := n3_
            have HO142 := n4_
            have HO150 := n5_
            have BK101 := n6_
            have BK102 := n7_
            have BK127 := n8_
            have BK135 := n9_
            have HB := n10_
            clear n0_ n1_ n2_ n3_ n4_ n5_ n6_ n7_ n8_ n9_ n10_
            (try clear hb)
            (try clear hb2)
            (try clear hk)
            (try clear hi)
            refine hK.out _ _ ⟨(Xbc BK135.out 0).trans rfl, (Xbc BK135.out 1).trans rfl, (Xbc BK135.out 2).trans rfl, (Xbc BK135.out 3).trans rfl, (Xbc BK135.out 4).trans rfl, (Xbc BK102.out 0).trans rfl, (Xbc BK102.out 1).trans rfl, (Xbc BK102.out 2).trans rfl, (Xbc BK102.out 3).trans rfl, (Xbc BK102.out 4).trans rfl⟩ (fun hHeld => ?_)
            clear hK K
            refine norm_ (a' := ?_) ?_ ?_
            rotate_left
            · show Act.put _ (some 43) _ = _
              simp only [Act.put, List.setIfInBounds_toArray, List.set_cons_zero, List.set_cons_succ, i64_w, i32_w]
              rfl
            refine pure_ (i := 4) (N := some 44) (v := ?_) (a' := ?_) #[true, true, true, true, true] rfl rfl (by kernel_rfl) (fun _ _ _ h => h) (Or.inl ⟨by rfl, ?_⟩) ?_ ?_
            rotate_left
            · intro w'
              go_simp
              with_reducible rfl
            rotate_left
            · simp only [Act.put, List.setIfInBounds_toArray, List.set_cons_zero, List.set_cons_succ, i64_w, i32_w]
              rfl
            refine done_ (by kernel_rfl) ?_
            try go_wp2
            go_ret
            exact ⟨by first | rfl | (simp [errW_none, errW_some] <;> rfl) | (simp [*, errW_none, errW_some] <;> rfl), by repeat (first | (with_reducible first | exact HB.out | apply Xba | apply Xbn | apply Xbd | refine Xbe ?_ GE101.out | refine Xbe ?_ GE102.out | refine Xbe ?_ GE127.out | refine Xbe ?_ GE135.out) | exact HB.out)⟩
          · replace c31 := Bool.eq_false_iff.mpr c31
            subst c31
            have H1 : (none) = some r := by rw [if_neg (show ¬ (false = true) by decide)] at H; exact H
            clear H
            have H := H1
            clear H1
            exact absurd H (by simp)
        · replace c28 := Bool.eq_false_iff.mpr c28
          subst c28
          have H1 : (none) = some r := by rw [if_neg (show ¬ (false = true) by decide)] at H; exact H
          clear H
          have H := H1
          clear H1
          exact absurd H (by simp)

/-- THE ONE PURE STATEMENT of laws_FnExactEqualServers. -/
def laws_FnExactEqualServers.Pure : Prop := ∀ (a0_0 : Int) (a0_1 : Int) (a0_2 : Int) (l0_3 : List (S161)) (a0_4 : Int) (a1_0 : Int) (a1_1 : Int) (a1_2 : Int) (l1_3 : List (S161)) (a1_4 : Int), ((Lit.int .i64 a0_0).wf = true) → ((Lit.int .i64 a0_1).wf = true) → ((Lit.int .i64 a0_2).wf = true) → (l0_3.length ≤ maxLen ∧ ∀ z153 ∈ l0_3, ((Lit.int .i64 z153.f0).wf = true) ∧ ((z153.f1.f0.length ≤ maxLen ∧ ∀ z154 ∈ z153.f1.f0, z154.length ≤ maxLen ∧ ∀ z155 ∈ z154, (Lit.int .u8 z155).wf = true))) → ((Lit.int .i64 a0_4).wf = true) → ((Lit.int .i64 a1_0).wf = true) → ((Lit.int .i64 a1_1).wf = true) → ((Lit.int .i64 a1_2).wf = true) → (l1_3.length ≤ maxLen ∧ ∀ z156 ∈ l1_3, ((Lit.int .i64 z156.f0).wf = true) ∧ ((z156.f1.f0.length ≤ maxLen ∧ ∀ z157 ∈ z156.f1.f0, z157.length ≤ maxLen ∧ ∀ z158 ∈ z157, (Lit.int .u8 z158).wf = true))) → ((Lit.int .i64 a1_4).wf = true) → ∃ k, laws_FnExactEqualServers.f k a0_0 a0_1 a0_2 l0_3 a0_4 a1_0 a1_1 a1_2 l1_3 a1_4 = some true

end Go.Proofs.Ytofkfagfdeohmaa.Q
