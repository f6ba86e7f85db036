-- written by a program of this session (qprint.py) over the kit's print.py
import Derived.Test.YtgdfnoipcompkaaQx0
import Derived.Test.YtgdfnoipcompkaaQxIILIAO
import Derived.Test.YtgdfnoipcompkaaQxJGOEDE
import Derived.Test.YtgdfnoipcompkaaQxJHIKEC
import Derived.Test.YtgdfnoipcompkaaQxMMDCKI
namespace Go.Proofs.Ytgdfnoipcompkaa.Q
open Go.RowKit Go.Proofs.YtgdfnoipcompkaaW.PrintWords Go.Proofs.YtgdfnoipcompkaaW.PrintLast Go.Proofs.YtgdfnoipcompkaaW.PrintMore Go.Proofs.YtgdfnoipcompkaaW.PrintWords Go.Proofs.YtgdfnoipcompkaaW.PrintWords.QPW
attribute [local go_sem] max2_int min2_int max_two min_two max_three min_three max_four min_four   -- for this text's walks alone
set_option linter.unusedVariables false
set_option linter.unusedSimpArgs false

/-! ### impl_RemoveMember: function 29 -/
mutual
def impl_RemoveMember.j0 : Nat → Int → Int → Bool → Int → Int → Int → List Int → Option (Int × Int × Int × List Int × Bool)
  | 0, _, _, _, _, _, _, _ => none
  | k + 1, x1, x2, x20, x102000, x102001, x102002, x102003 => if x20 = true then ((impl_copySenders.f x102000 x102001 x102002 x102003).bind fun bt105 => (some (bt105.1, bt105.2.1, bt105.2.2.1, bt105.2.2.2, false))) else ((impl_FreshSecret.f k x2).bind fun t111 => (impl_RemoveMember.l0 k x1 x102003 (x102003.length : Int) 0 x102000 x102001 x102002 x102003 x102000 (wrap64 (x102001 + 1)) t111 ([] : List Int)))
def impl_RemoveMember.l0 : Nat → Int → List Int → Int → Int → Int → Int → Int → List Int → Int → Int → Int → List Int → Option (Int × Int × Int × List Int × Bool)
  | 0, _, _, _, _, _, _, _, _, _, _, _, _ => none
  | k + 1, x1, x32, x33, x34, x102000, x102001, x102002, x102003, x113000, x113001, x113002, x113003 => if x34 < x33 then (if 0 ≤ x34 then (if x34 < (x32.length : Int) then (if (rd x32 x34) = x1 then (impl_RemoveMember.l0 k x1 x32 x33 (wrap64 (x34 + 1)) x102000 x102001 x102002 x102003 x113000 x113001 x113002 x113003) else (if x113003.length < 17592186044416 then (impl_RemoveMember.l0 k x1 x32 x33 (wrap64 (x34 + 1)) x102000 x102001 x102002 x102003 x113000 x113001 x113002 (x113003 ++ [rd x32 x34])) else (none))) else (none)) else (none)) else ((impl_IsValidGroup.f k x113000 x113001 x113002 x113003).bind fun t117 => (if t117 = true then (some (x113000, x113001, x113002, x113003, true)) else ((impl_copySenders.f x102000 x102001 x102002 x102003).bind fun bt118 => (some (bt118.1, bt118.2.1, bt118.2.2.1, bt118.2.2.2, false)))))
end
def impl_RemoveMember.f (k : Nat) (a0_0 : Int) (a0_1 : Int) (a0_2 : Int) (l0_3 : List Int) (a1 : Int) (a2 : Int) : Option (Int × Int × Int × List Int × Bool) := (impl_IsValidGroup.f k a0_0 a0_1 a0_2 l0_3).bind fun t103 => (if t103 = true then ((slices_Contains_int.f k l0_3 a1).bind fun t104 => (impl_RemoveMember.j0 k a1 a2 (!t104) a0_0 a0_1 a0_2 l0_3)) else (impl_RemoveMember.j0 k a1 a2 true a0_0 a0_1 a0_2 l0_3))
theorem impl_RemoveMember.mono_l : ∀ k, (∀ y0 y1 y2 y3 y4 y5 y6, LeO (impl_RemoveMember.j0 k y0 y1 y2 y3 y4 y5 y6) (impl_RemoveMember.j0 (k + 1) y0 y1 y2 y3 y4 y5 y6)) ∧ (∀ y0 y1 y2 y3 y4 y5 y6 y7 y8 y9 y10 y11, LeO (impl_RemoveMember.l0 k y0 y1 y2 y3 y4 y5 y6 y7 y8 y9 y10 y11) (impl_RemoveMember.l0 (k + 1) y0 y1 y2 y3 y4 y5 y6 y7 y8 y9 y10 y11))
  | 0 => ⟨fun _ _ _ _ _ _ _ r h => by simp [impl_RemoveMember.j0] at h, fun _ _ _ _ _ _ _ _ _ _ _ _ r h => by simp [impl_RemoveMember.l0] at h⟩
  | k + 1 => by
    obtain ⟨ih0, ih1⟩ := impl_RemoveMember.mono_l k
    refine ⟨?_, ?_⟩
    · intro y0 y1 y2 y3 y4 y5 y6
      unfold impl_RemoveMember.j0
      repeat' first
      | (with_reducible exact ih0 _ _ _ _ _ _ _)
      | (with_reducible exact ih1 _ _ _ _ _ _ _ _ _ _ _ _)
      | (with_reducible exact impl_FreshSecret.mono _ _)
      | (with_reducible exact impl_IsValidGroup.mono _ _ _ _ _)
      | (with_reducible exact slices_Contains_int.mono _ _ _)
      | (with_reducible exact LeO.refl _)
      | (with_reducible exact LeO.none _)
      | (with_reducible refine LeO.ite ?_ ?_)
      | (with_reducible refine LeO.bind ?_ (fun _ => ?_))
      | exact ih0 _ _ _ _ _ _ _
      | exact ih1 _ _ _ _ _ _ _ _ _ _ _ _
      | exact impl_FreshSecret.mono _ _
      | exact impl_IsValidGroup.mono _ _ _ _ _
      | exact slices_Contains_int.mono _ _ _
      | exact LeO.none _
      | refine LeO.ite ?_ ?_
      | refine LeO.bind ?_ (fun _ => ?_)
    · intro y0 y1 y2 y3 y4 y5 y6 y7 y8 y9 y10 y11
      unfold impl_RemoveMember.l0
      repeat' first
      | (with_reducible exact ih0 _ _ _ _ _ _ _)
      | (with_reducible exact ih1 _ _ _ _ _ _ _ _ _ _ _ _)
      | (with_reducible exact impl_FreshSecret.mono _ _)
      | (with_reducible exact impl_IsValidGroup.mono _ _ _ _ _)
      | (with_reducible exact slices_Contains_int.mono _ _ _)
      | (with_reducible exact LeO.refl _)
      | (with_reducible exact LeO.none _)
      | (with_reducible refine LeO.ite ?_ ?_)
      | (with_reducible refine LeO.bind ?_ (fun _ => ?_))
      | exact ih0 _ _ _ _ _ _ _
      | exact ih1 _ _ _ _ _ _ _ _ _ _ _ _
      | exact impl_FreshSecret.mono _ _
      | exact impl_IsValidGroup.mono _ _ _ _ _
      | exact slices_Contains_int.mono _ _ _
      | exact LeO.none _
      | refine LeO.ite ?_ ?_
      | refine LeO.bind ?_ (fun _ => ?_)
theorem impl_RemoveMember.mono : ∀ a0 a1 a2 a3 a4 a5 k, LeO (impl_RemoveMember.f k a0 a1 a2 a3 a4 a5) (impl_RemoveMember.f (k + 1) a0 a1 a2 a3 a4 a5) := by
  intro a0 a1 a2 a3 a4 a5 k
  obtain ⟨ih0, ih1⟩ := impl_RemoveMember.mono_l k
  unfold impl_RemoveMember.f
  repeat' first
      | (with_reducible exact ih0 _ _ _ _ _ _ _)
      | (with_reducible exact ih1 _ _ _ _ _ _ _ _ _ _ _ _)
      | (with_reducible exact impl_FreshSecret.mono _ _)
      | (with_reducible exact impl_IsValidGroup.mono _ _ _ _ _)
      | (with_reducible exact slices_Contains_int.mono _ _ _)
      | (with_reducible exact LeO.refl _)
      | (with_reducible exact LeO.none _)
      | (with_reducible refine LeO.ite ?_ ?_)
      | (with_reducible refine LeO.bind ?_ (fun _ => ?_))
      | exact ih0 _ _ _ _ _ _ _
      | exact ih1 _ _ _ _ _ _ _ _ _ _ _ _
      | exact impl_FreshSecret.mono _ _
      | exact impl_IsValidGroup.mono _ _ _ _ _
      | exact slices_Contains_int.mono _ _ _
      | exact LeO.none _
      | refine LeO.ite ?_ ?_
      | refine LeO.bind ?_ (fun _ => ?_)
def impl_RemoveMember.T3 : Bool × List (List Nat × List Nat) := (true, [([], []), ([0], [0]), ([], []), ([2], [2]), ([3], [3]), ([], []), ([5], [5]), ([1, 4, 6], [1, 4, 6]), ([], []), ([8, 7, 6, 0, 1, 2, 3, 4, 5, 6, 7, 8], [7, 8])])
def impl_RemoveMember.B3 : List Nat := [0, 1, 0, 4, 12, 0, 32, 127, 0, 511]
theorem impl_RemoveMember.tab3 : rtab .any (opsOf Try.f29 3) = impl_RemoveMember.T3 := by kernel_rfl
theorem impl_RemoveMember.bits3 : waitsOk impl_RemoveMember.T3.2 impl_RemoveMember.B3 = true := by kernel_rfl
set_option maxHeartbeats 8000000 in
set_option maxRecDepth 100000 in
theorem impl_RemoveMember.calls (k : Nat) (a0_0 : Int) (a0_1 : Int) (a0_2 : Int) (A0_3 : Option Addr) (c0_3 : Nat) (l0_3 : List Int) (a1 : Int) (a2 : Int) (r1 : Int) (r2 : Int) (r3 : Int) (r4 : List Int) (r5 : Bool) (w : World) (hr0_3 : Kd.C (Kd.int .i64) w A0_3 l0_3.length l0_3) (hc0_3 : l0_3.length ≤ c0_3) (h : impl_RemoveMember.f k a0_0 a0_1 a0_2 l0_3 a1 a2 = some (r1, r2, r3, r4, r5)) :
    Calls Try.prog 29 #[.agg #[.int .i64 a0_0, .int .i64 a0_1, .int .i64 a0_2, .slice A0_3 l0_3.length c0_3], .int .i64 a1, .int .i64 a2] w fun e w' => ∃ v3_ : Value, e = .returned (.tuple #[.agg #[.int .i64 r1, .int .i64 r2, .int .i64 r3, v3_], .bool r5]) ∧ Kd.R (Kd.int .i64) 3 w' w.heap.size (fun _ => True) v3_ r4 ∧ Below w.heap.size w w' := by
  have hu47 := Try.underlying47
  have HR0_3 := Xam hr0_3
  have HC0_3 := Xam hc0_3
  clear hr0_3 hc0_3
  have HB := Xam (Below.refl w.heap.size w)
  have H : ((impl_IsValidGroup.f k a0_0 a0_1 a0_2 l0_3).bind fun t103 => (if t103 = true then ((slices_Contains_int.f k l0_3 a1).bind fun t104 => (impl_RemoveMember.j0 k a1 a2 (!t104) a0_0 a0_1 a0_2 l0_3)) else (impl_RemoveMember.j0 k a1 a2 true a0_0 a0_1 a0_2 l0_3))) = some (r1, r2, r3, r4, r5) := h
  clear h
  have HC4 := Xam H
  clear H
  go_enter Try.func29, Try.ntmps29
  go_upto_region 1 with (first | ((with_reducible refine gate_dst (N := 3) rfl ?_); refine box_event ?hg (N := 3) ?hd (cs := #[.int .i64 a0_0, .int .i64 a0_1, .int .i64 a0_2, .slice A0_3 l0_3.length c0_3]) (t := 47) ?hr ?_; (case hd => rfl); (case hg => rfl); (case hr => first | (go_simp; done) | (go_simp; rfl)); intro gb101 hg w5 hbox hb; have n0_ := Xam (Xbt (by repeat (first | (with_reducible first | exact HB.out | apply Xba | apply Xbn | apply Xbd) | exact HB.out)) hb); have n1_ := Xam (hbox); have n2_ := Xam ((by rw [hg]; exact (Xbs (by repeat (first | (with_reducible first | exact HB.out | apply Xba | apply Xbn | apply Xbd) | exact HB.out))) : w.heap.size ≤ gb101)); have n3_ := Xam ((by rw [hg]; exact (Xbs (by repeat (first | (with_reducible first | exact HB.out | apply Xba | apply Xbn | apply Xbd) | exact HB.out))) : w.heap.size ≤ gb101)); clear HB; have HB := n0_; have BK101 := n1_; have GW101 := n2_; have GE101 := n3_; clear n0_ n1_ n2_ n3_; clear hb hbox hg) | ((with_reducible refine gate_dst (N := 6) rfl ?_); refine box_event ?hg (N := 6) ?hd (cs := #[.int .i64 0, .int .i64 0, .int .i64 0, .slice none 0 0]) (t := 47) ?hr ?_; (case hd => rfl); (case hg => rfl); (case hr => first | (go_simp; done) | (go_simp; rfl)); intro gb102 hg w6 hbox hb; have n0_ := Xam (Xbb (g := gb101) (o := .cells #[.int .i64 a0_0, .int .i64 a0_1, .int .i64 a0_2, .slice A0_3 l0_3.length c0_3] 47 (0, 0)) (by (with_reducible repeat (first | refine Xkn ?_ _ | refine Xkd ?_ | refine Xka ?_ _)); exact BK101.out) hb); have n1_ := Xam (Xbt (by repeat (first | (with_reducible first | exact HB.out | apply Xba | apply Xbn | apply Xbd | refine Xbe ?_ GE101.out) | exact HB.out)) hb); have n2_ := Xam (hbox); have n3_ := Xam ((by rw [hg]; exact (Xbs (by repeat (first | (with_reducible first | exact HB.out | apply Xba | apply Xbn | apply Xbd | refine Xbe ?_ GE101.out) | exact HB.out))) : w.heap.size ≤ gb102)); have n4_ := Xam ((by rw [hg]; exact (Xbs (by repeat (first | (with_reducible first | exact HB.out | apply Xba | apply Xbn | apply Xbd | refine Xbe ?_ GE101.out) | exact HB.out))) : w.heap.size ≤ gb102)); have n5_ := Xam ((by rw [hg]; exact Nat.ne_of_lt (Xbl (g := gb101) (o := .cells #[.int .i64 a0_0, .int .i64 a0_1, .int .i64 a0_2, .slice A0_3 l0_3.length c0_3] 47 (0, 0)) (by (with_reducible repeat (first | refine Xkn ?_ _ | refine Xkd ?_ | refine Xka ?_ _)); exact BK101.out)) : gb101 ≠ gb102)); have n6_ := Xam ((by rw [hg]; exact Nat.ne_of_gt (Xbl (g := gb101) (o := .cells #[.int .i64 a0_0, .int .i64 a0_1, .int .i64 a0_2, .slice A0_3 l0_3.length c0_3] 47 (0, 0)) (by (with_reducible repeat (first | refine Xkn ?_ _ | refine Xkd ?_ | refine Xka ?_ _)); exact BK101.out)) : gb102 ≠ gb101)); clear BK101; clear HB; have BK101 := n0_; have HB := n1_; have BK102 := n2_; have GW102 := n3_; have GE102 := n4_; have NB101_102 := n5_; have NB102_101 := n6_; clear n0_ n1_ n2_ n3_ n4_ n5_ n6_; clear hb hbox hg))
  (try simp only [Act.put, List.setIfInBounds_toArray, List.set_cons_zero, List.set_cons_succ])
  go_cut [20] (fun v20 wc => ∃ (kq : Nat) (x20_3 : Bool), v20 = .bool x20_3 ∧ Aside0 (impl_RemoveMember.j0 kq a1 a2 x20_3 a0_0 a0_1 a0_2 l0_3 = some (r1, r2, r3, r4, r5)) ∧ Aside0 (kq ≤ k) ∧ Aside0 (wc.heap[gb101]? = some (.cells #[.int .i64 a0_0, .int .i64 a0_1, .int .i64 a0_2, (.slice A0_3 l0_3.length c0_3)] 47 (0, 0))) ∧ Aside0 (wc.heap[gb102]? = some (.cells #[.int .i64 0, .int .i64 0, .int .i64 0, (.slice none 0 0)] 47 (0, 0))) ∧ Aside0 (Below w.heap.size w wc))
  case first =>
    have H := HC4.out
    clear HC4
    replace H := Option.bind_eq_some_iff.mp H
    obtain ⟨t103, A70, H⟩ := H
    replace H : (if t103 = true then ((slices_Contains_int.f k l0_3 a1).bind fun t104 => (impl_RemoveMember.j0 k a1 a2 (!t104) a0_0 a0_1 a0_2 l0_3)) else (impl_RemoveMember.j0 k a1 a2 true a0_0 a0_1 a0_2 l0_3)) = some (r1, r2, r3, r4, r5) := H
    have A7 := Xam A70
    clear A70
    by_cases c8 : t103 = true
    · subst c8
      have H1 : ((slices_Contains_int.f k l0_3 a1).bind fun t104 => (impl_RemoveMember.j0 k a1 a2 (!t104) a0_0 a0_1 a0_2 l0_3)) = some (r1, r2, r3, r4, r5) := by rw [if_pos rfl] at H; exact H
      clear H
      have H := H1
      clear H1
      replace H := Option.bind_eq_some_iff.mp H
      obtain ⟨t104, A90, H⟩ := H
      replace H : (impl_RemoveMember.j0 k a1 a2 (!t104) a0_0 a0_1 a0_2 l0_3) = some (r1, r2, r3, r4, r5) := H
      have A9 := Xam A90
      clear A90
      have H' := Xam H
      clear H
      have hnb10 := NB101_102.out
      have hnc10 := NB102_101.out
      have hcz11_0 : w6.cell? ⟨gb101, 0, none⟩ = some (.int .i64 a0_0) := (Xbc BK101.out 0).trans rfl
      have hcz11_1 : w6.cell? ⟨gb101, 1, none⟩ = some (.int .i64 a0_1) := (Xbc BK101.out 1).trans rfl
      have hcz11_2 : w6.cell? ⟨gb101, 2, none⟩ = some (.int .i64 a0_2) := (Xbc BK101.out 2).trans rfl
      have hcz11_3 : w6.cell? ⟨gb101, 3, none⟩ = some (.slice A0_3 l0_3.length c0_3) := (Xbc BK101.out 3).trans rfl
      have hfz11_0 := Xbf BK101.out 0
      have hfz11_1 := Xbf BK101.out 1
      have hfz11_2 := Xbf BK101.out 2
      have hfz11_3 := Xbf BK101.out 3
      go_wp2_with (first | ((with_reducible refine gate_callee (f := 123) rfl ?_); refine goesL_ (some 12) rfl rfl Try.func123 (by kernel_rfl) rfl #[.agg #[.int .i64 a0_0, .int .i64 a0_1, .int .i64 a0_2, .slice A0_3 l0_3.length c0_3]] rfl (by (try simp only [List.map_toArray, List.map_cons, List.map_nil]); first | done | rfl | (simp only [List.length_drop, List.length_take]; rfl)) ?_; (with_reducible refine (impl_IsValidGroup.calls k a0_0 a0_1 a0_2 _ _ l0_3 true _ ?side1 ?side2 A7.out).mono ?_); (case side1 => repeat (first | exact (Kd.C_below HR0_3.out HB.out) | (with_reducible refine Xca ?_ _) | (with_reducible refine Xcn ?_ _) | (with_reducible refine Xcd ?_))); (case side2 => exact HC0_3.out); rintro e w12 ⟨rfl, hb⟩; refine ⟨_, rfl, ?_⟩; have n0_ := Xam (Xbb (g := gb101) (o := .cells #[.int .i64 a0_0, .int .i64 a0_1, .int .i64 a0_2, .slice A0_3 l0_3.length c0_3] 47 (0, 0)) (by (with_reducible repeat (first | refine Xkn ?_ _ | refine Xkd ?_ | refine Xka ?_ _)); exact BK101.out) hb); have n1_ := Xam (Xbb (g := gb102) (o := .cells #[.int .i64 0, .int .i64 0, .int .i64 0, .slice none 0 0] 47 (0, 0)) (by (with_reducible repeat (first | refine Xkn ?_ _ | refine Xkd ?_ | refine Xka ?_ _)); exact BK102.out) hb); have n2_ := Xam (Xbt (by repeat (first | (with_reducible first | exact HB.out | apply Xba | apply Xbn | apply Xbd | refine Xbe ?_ GE101.out | refine Xbe ?_ GE102.out) | exact HB.out)) hb); clear BK101; clear BK102; clear HB; have BK101 := n0_; have BK102 := n1_; have HB := n2_; clear n0_ n1_ n2_; (try clear hb); (try clear hb2); (try clear hk); (try clear hi); have hcz13_0 : w12.cell? ⟨gb101, 0, none⟩ = some (.int .i64 a0_0) := (Xbc BK101.out 0).trans rfl; have hcz13_1 : w12.cell? ⟨gb101, 1, none⟩ = some (.int .i64 a0_1) := (Xbc BK101.out 1).trans rfl; have hcz13_2 : w12.cell? ⟨gb101, 2, none⟩ = some (.int .i64 a0_2) := (Xbc BK101.out 2).trans rfl; have hcz13_3 : w12.cell? ⟨gb101, 3, none⟩ = some (.slice A0_3 l0_3.length c0_3) := (Xbc BK101.out 3).trans rfl; have hfz13_0 := Xbf BK101.out 0; have hfz13_1 := Xbf BK101.out 1; have hfz13_2 := Xbf BK101.out 2; have hfz13_3 := Xbf BK101.out 3) | (go_at_call 124; (with_reducible refine (slices_Contains_int.calls k _ _ l0_3 a1 t104 _ ?side1 ?side2 A9.out).mono ?_); (case side1 => repeat (first | exact (Kd.C_below HR0_3.out HB.out) | (with_reducible refine Xca ?_ _) | (with_reducible refine Xcn ?_ _) | (with_reducible refine Xcd ?_))); (case side2 => exact HC0_3.out); rintro e w' ⟨rfl, ⟨nd, rfl⟩⟩))
      go_meet
      case rel => exact ⟨_, (!t104), (by first | rfl | (simp; done) | (simp [*]; done)), H', ⟨by first | omega | exact Nat.le_refl _⟩, ⟨by (with_reducible repeat (first | refine Xkn ?_ _ | refine Xkd ?_ | refine Xka ?_ _)); exact BK101.out⟩, ⟨by (with_reducible repeat (first | refine Xkn ?_ _ | refine Xkd ?_ | refine Xka ?_ _)); exact BK102.out⟩, ⟨by repeat (first | (with_reducible first | exact HB.out | apply Xba | apply Xbn | apply Xbd | refine Xbe ?_ GE101.out | refine Xbe ?_ GE102.out) | exact HB.out)⟩⟩
    · replace c8 := Bool.eq_false_iff.mpr c8
      subst c8
      have H1 : (impl_RemoveMember.j0 k a1 a2 true a0_0 a0_1 a0_2 l0_3) = some (r1, r2, r3, r4, r5) := by rw [if_neg (show ¬ (false = true) by decide)] at H; exact H
      clear H
      have H := H1
      clear H1
      have H' := Xam H
      clear H
      have hnb14 := NB101_102.out
      have hnc14 := NB102_101.out
      have hcz15_0 : w6.cell? ⟨gb101, 0, none⟩ = some (.int .i64 a0_0) := (Xbc BK101.out 0).trans rfl
      have hcz15_1 : w6.cell? ⟨gb101, 1, none⟩ = some (.int .i64 a0_1) := (Xbc BK101.out 1).trans rfl
      have hcz15_2 : w6.cell? ⟨gb101, 2, none⟩ = some (.int .i64 a0_2) := (Xbc BK101.out 2).trans rfl
      have hcz15_3 : w6.cell? ⟨gb101, 3, none⟩ = some (.slice A0_3 l0_3.length c0_3) := (Xbc BK101.out 3).trans rfl
      have hfz15_0 := Xbf BK101.out 0
      have hfz15_1 := Xbf BK101.out 1
      have hfz15_2 := Xbf BK101.out 2
      have hfz15_3 := Xbf BK101.out 3
      go_wp2_with (first | ((with_reducible refine gate_callee (f := 123) rfl ?_); refine goesL_ (some 12) rfl rfl Try.func123 (by kernel_rfl) rfl #[.agg #[.int .i64 a0_0, .int .i64 a0_1, .int .i64 a0_2, .slice A0_3 l0_3.length c0_3]] rfl (by (try simp only [List.map_toArray, List.map_cons, List.map_nil]); first | done | rfl | (simp only [List.length_drop, List.length_take]; rfl)) ?_; (with_reducible refine (impl_IsValidGroup.calls k a0_0 a0_1 a0_2 _ _ l0_3 false _ ?side1 ?side2 A7.out).mono ?_); (case side1 => repeat (first | exact (Kd.C_below HR0_3.out HB.out) | (with_reducible refine Xca ?_ _) | (with_reducible refine Xcn ?_ _) | (with_reducible refine Xcd ?_))); (case side2 => exact HC0_3.out); rintro e w16 ⟨rfl, hb⟩; refine ⟨_, rfl, ?_⟩; have n0_ := Xam (Xbb (g := gb101) (o := .cells #[.int .i64 a0_0, .int .i64 a0_1, .int .i64 a0_2, .slice A0_3 l0_3.length c0_3] 47 (0, 0)) (by (with_reducible repeat (first | refine Xkn ?_ _ | refine Xkd ?_ | refine Xka ?_ _)); exact BK101.out) hb); have n1_ := Xam (Xbb (g := gb102) (o := .cells #[.int .i64 0, .int .i64 0, .int .i64 0, .slice none 0 0] 47 (0, 0)) (by (with_reducible repeat (first | refine Xkn ?_ _ | refine Xkd ?_ | refine Xka ?_ _)); exact BK102.out) hb); have n2_ := Xam (Xbt (by repeat (first | (with_reducible first | exact HB.out | apply Xba | apply Xbn | apply Xbd | refine Xbe ?_ GE101.out | refine Xbe ?_ GE102.out) | exact HB.out)) hb); clear BK101; clear BK102; clear HB; have BK101 := n0_; have BK102 := n1_; have HB := n2_; clear n0_ n1_ n2_; (try clear hb); (try clear hb2); (try clear hk); (try clear hi)))
      go_meet
      case rel => exact ⟨_, (true), (by first | rfl | (simp; done) | (simp [*]; done)), H', ⟨by first | omega | exact Nat.le_refl _⟩, ⟨by (with_reducible repeat (first | refine Xkn ?_ _ | refine Xkd ?_ | refine Xka ?_ _)); exact BK101.out⟩, ⟨by (with_reducible repeat (first | refine Xkn ?_ _ | refine Xkd ?_ | refine Xka ?_ _)); exact BK102.out⟩, ⟨by repeat (first | (with_reducible first | exact HB.out | apply Xba | apply Xbn | apply Xbd | refine Xbe ?_ GE101.out | refine Xbe ?_ GE102.out) | exact HB.out)⟩⟩
  case rest =>
    clear HC4
    try clear c1
    try clear c2
    try clear p2
    try clear c8
    try clear c10
    try clear c12
    try clear c14
    try clear hcz11_0
    try clear hcz11_1
    try clear hcz11_2
    try clear hcz11_3
    try clear hcz13_0
    try clear hcz13_1
    try clear hcz13_2
    try clear hcz13_3
    try clear hcz15_0
    try clear hcz15_1
    try clear hcz15_2
    try clear hcz15_3
    try clear hfz11_0
    try clear hfz11_1
    try clear hfz11_2
    try clear hfz11_3
    try clear hfz13_0
    try clear hfz13_1
    try clear hfz13_2
    try clear hfz13_3
    try clear hfz15_0
    try clear hfz15_1
    try clear hfz15_2
    try clear hfz15_3
    obtain ⟨kq, x20_3, rfl, HA, HJ3, BK101, BK102, HB⟩ := hcut
    cases kq with
    | zero => exact absurd HA.out (by simp [impl_RemoveMember.j0])
    | succ kj3 =>
      have H := HA.out
      clear HA
      simp only [impl_RemoveMember.j0] at H
      by_cases c17 : x20_3 = true
      · subst c17
        have H1 : ((impl_copySenders.f a0_0 a0_1 a0_2 l0_3).bind fun bt105 => (some (bt105.1, bt105.2.1, bt105.2.2.1, bt105.2.2.2, false))) = some (r1, r2, r3, r4, r5) := by rw [if_pos rfl] at H; exact H
        clear H
        have H := H1
        clear H1
        replace H := Option.bind_eq_some_iff.mp H
        obtain ⟨⟨t105, t106, t107, t108⟩, A180, H⟩ := H
        replace H : (some (t105, t106, t107, t108, false)) = some (r1, r2, r3, r4, r5) := H
        have A18 := Xam A180
        clear A180
        simp only [Option.some.injEq, Prod.mk.injEq] at H
        obtain ⟨rfl, rfl, rfl, rfl, rfl⟩ := H
        have hnb19 := NB101_102.out
        have hnc19 := NB102_101.out
        have hcz20_0 : wc.cell? ⟨gb101, 0, none⟩ = some (.int .i64 a0_0) := (Xbc BK101.out 0).trans rfl
        have hcz20_1 : wc.cell? ⟨gb101, 1, none⟩ = some (.int .i64 a0_1) := (Xbc BK101.out 1).trans rfl
        have hcz20_2 : wc.cell? ⟨gb101, 2, none⟩ = some (.int .i64 a0_2) := (Xbc BK101.out 2).trans rfl
        have hcz20_3 : wc.cell? ⟨gb101, 3, none⟩ = some (.slice A0_3 l0_3.length c0_3) := (Xbc BK101.out 3).trans rfl
        have hfz20_0 := Xbf BK101.out 0
        have hfz20_1 := Xbf BK101.out 1
        have hfz20_2 := Xbf BK101.out 2
        have hfz20_3 := Xbf BK101.out 3
        go_wp2_with (first | ((with_reducible refine gate_callee (f := 125) rfl ?_); refine goesL_ (some 22) rfl rfl Try.func125 (by kernel_rfl) rfl #[.agg #[.int .i64 a0_0, .int .i64 a0_1, .int .i64 a0_2, .slice A0_3 l0_3.length c0_3]] rfl (by (try simp only [List.map_toArray, List.map_cons, List.map_nil]); first | done | rfl | (simp only [List.length_drop, List.length_take]; rfl)) ?_; (with_reducible refine (impl_copySenders.calls a0_0 a0_1 a0_2 _ _ l0_3 t105 t106 t107 t108 _ ?side1 ?side2 A18.out).mono ?_); (case side1 => repeat (first | exact (Kd.C_below HR0_3.out HB.out) | (with_reducible refine Xca ?_ _) | (with_reducible refine Xcn ?_ _) | (with_reducible refine Xcd ?_))); (case side2 => exact HC0_3.out); rintro e w21 ⟨v109, rfl, ho0, hb⟩; refine ⟨_, rfl, ?_⟩; have n0_ := Xam (Kd.R_lower ho0 (Xbs (by repeat (first | (with_reducible first | exact HB.out | apply Xba | apply Xbn | apply Xbd | refine Xbe ?_ GE101.out | refine Xbe ?_ GE102.out) | exact HB.out)))); have n1_ := Xam (Xbb (g := gb101) (o := .cells #[.int .i64 a0_0, .int .i64 a0_1, .int .i64 a0_2, .slice A0_3 l0_3.length c0_3] 47 (0, 0)) (by (with_reducible repeat (first | refine Xkn ?_ _ | refine Xkd ?_ | refine Xka ?_ _)); exact BK101.out) hb); have n2_ := Xam (Xbb (g := gb102) (o := .cells #[.int .i64 0, .int .i64 0, .int .i64 0, .slice none 0 0] 47 (0, 0)) (by (with_reducible repeat (first | refine Xkn ?_ _ | refine Xkd ?_ | refine Xka ?_ _)); exact BK102.out) hb); have n3_ := Xam (Xbt (by repeat (first | (with_reducible first | exact HB.out | apply Xba | apply Xbn | apply Xbd | refine Xbe ?_ GE101.out | refine Xbe ?_ GE102.out) | exact HB.out)) hb); clear BK101; clear BK102; clear HB; have HO110 := n0_; have BK101 := n1_; have BK102 := n2_; have HB := n3_; clear n0_ n1_ n2_ n3_; (try clear hb); (try clear hb2); (try clear hk); (try clear hi); (try clear ho0); have hcz22_0 : w21.cell? ⟨gb102, 0, none⟩ = some (.int .i64 0) := (Xbc BK102.out 0).trans rfl; have hcz22_1 : w21.cell? ⟨gb102, 1, none⟩ = some (.int .i64 0) := (Xbc BK102.out 1).trans rfl; have hcz22_2 : w21.cell? ⟨gb102, 2, none⟩ = some (.int .i64 0) := (Xbc BK102.out 2).trans rfl; have hcz22_3 : w21.cell? ⟨gb102, 3, none⟩ = some (.slice none 0 0) := (Xbc BK102.out 3).trans rfl; have hfz22_0 := Xbf BK102.out 0; have hfz22_1 := Xbf BK102.out 1; have hfz22_2 := Xbf BK102.out 2; have hfz22_3 := Xbf BK102.out 3; obtain ⟨Ao23, co23, eo23⟩ := Kd.R_slice HO110.out; subst eo23))
        refine bodyPost_ret (results_ct rfl _ _ gb102 47 #[.int .i64 t105, .int .i64 t106, .int .i64 t107, .slice Ao23 t108.length co23] (0, 0) _ rfl (by (with_reducible repeat (first | refine Xkn ?_ _ | refine Xkd ?_ | refine Xka ?_ _)); refine blk_put (cs := #[.int .i64 t105, .int .i64 t106, .int .i64 t107, .slice none 0 0]) ?_ 3 _ rfl; (with_reducible repeat (first | refine Xkn ?_ _ | refine Xkd ?_ | refine Xka ?_ _)); refine blk_put (cs := #[.int .i64 t105, .int .i64 t106, .int .i64 0, .slice none 0 0]) ?_ 2 _ rfl; (with_reducible repeat (first | refine Xkn ?_ _ | refine Xkd ?_ | refine Xka ?_ _)); refine blk_put (cs := #[.int .i64 t105, .int .i64 0, .int .i64 0, .slice none 0 0]) ?_ 1 _ rfl; (with_reducible repeat (first | refine Xkn ?_ _ | refine Xkd ?_ | refine Xka ?_ _)); refine blk_put (cs := #[.int .i64 0, .int .i64 0, .int .i64 0, .slice none 0 0]) ?_ 0 _ rfl; (with_reducible repeat (first | refine Xkn ?_ _ | refine Xkd ?_ | refine Xka ?_ _)); exact BK102.out) Try.underlying47 rfl (by kernel_rfl)) rfl ?_
        exact ⟨_, by first | rfl | (simp [errW_none, errW_some] <;> rfl) | (simp [*, errW_none, errW_some] <;> rfl), by (with_reducible repeat (first | apply Xra | apply Xrn | apply Xrd)); exact Kd.R_mono (Kd.R_far (p := ⟨gb102, 3, none⟩) (Kd.R_far (p := ⟨gb102, 2, none⟩) (Kd.R_far (p := ⟨gb102, 1, none⟩) (Kd.R_far (p := ⟨gb102, 0, none⟩) (Kd.R_types HO110.out BK102.out (by decide)) (fun _ hk => hk.2) (.int .i64 t105)) (fun _ hk => hk.2) (.int .i64 t106)) (fun _ hk => hk.2) (.int .i64 t107)) (fun _ hk => hk.2) (.slice Ao23 t108.length co23)) (fun _ hk => trivial), by repeat (first | (with_reducible first | exact HB.out | apply Xba | apply Xbn | apply Xbd | refine Xbe ?_ GE101.out | refine Xbe ?_ GE102.out) | exact HB.out)⟩
      · replace c17 := Bool.eq_false_iff.mpr c17
        subst c17
        have H1 : ((impl_FreshSecret.f kj3 a2).bind fun t111 => (impl_RemoveMember.l0 kj3 a1 l0_3 (l0_3.length : Int) 0 a0_0 a0_1 a0_2 l0_3 a0_0 (wrap64 (a0_1 + 1)) t111 ([] : List Int))) = some (r1, r2, r3, r4, r5) := by rw [if_neg (show ¬ (false = true) by decide)] at H; exact H
        clear H
        have H := H1
        clear H1
        replace H := Option.bind_eq_some_iff.mp H
        obtain ⟨t111, A240, H⟩ := H
        replace H : (impl_RemoveMember.l0 kj3 a1 l0_3 (l0_3.length : Int) 0 a0_0 a0_1 a0_2 l0_3 a0_0 (wrap64 (a0_1 + 1)) t111 ([] : List Int)) = some (r1, r2, r3, r4, r5) := H
        have A24 := Xam A240
        clear A240
        have H' := Xam H
        clear H
        try go_wp2
        have n0_ := Xam (Xkd BK101.out)
        have n1_ := Xam (Xkd BK102.out)
        have n2_ := Xam (Xbd HB.out)
        clear BK101
        clear BK102
        clear HB
        have BK101 := n0_
        have BK102 := n1_
        have HB := n2_
        clear n0_ n1_ n2_
        refine start_ (n := 10) (S := fun w' => w'.cell? ⟨gb101, 0, none⟩ = some (.int .i64 a0_0) ∧ w'.cell? ⟨gb101, 1, none⟩ = some (.int .i64 a0_1) ∧ w'.cell? ⟨gb101, 2, none⟩ = some (.int .i64 a0_2) ∧ w'.cell? ⟨gb101, 3, none⟩ = some (.slice A0_3 l0_3.length c0_3)) (ds := []) #[false, false, false, false, false, false, false, false, false, false] (by kernel_rfl) rfl rfl ⟨(Xbc BK101.out 0).trans rfl, (Xbc BK101.out 1).trans rfl, (Xbc BK101.out 2).trans rfl, (Xbc BK101.out 3).trans rfl⟩ (fun hHeld => ?_); refine with_tabW impl_RemoveMember.tab3 impl_RemoveMember.bits3 (fun HT_ HW_ => ?_)
        generalize wc.drew = w25 at BK101 BK102 HB hHeld ⊢
        refine pure_ (i := 0) (N := some 23) (v := ?_) (a' := ?_) #[true, false, false, false, false, false, false, false, false, false] rfl rfl (any_of HT_.out (by kernel_rfl)) (fun _ _ _ h => h) (Or.inl ⟨by rfl, ?_⟩) ?_ ?_
        rotate_left
        · intro w'
          go_simp
          with_reducible rfl
        rotate_left
        · simp only [Act.put, List.setIfInBounds_toArray, List.set_cons_zero, List.set_cons_succ, i64_w, i32_w]
          rfl
        refine pure_ (i := 2) (N := some 25) (v := ?_) (a' := ?_) #[true, false, true, false, false, false, false, false, false, false] rfl rfl (any_of HT_.out (by kernel_rfl)) (fun _ _ _ h => h) (Or.inl ⟨by rfl, ?_⟩) ?_ ?_
        rotate_left
        · intro w'
          go_simp
          with_reducible rfl
        rotate_left
        · simp only [Act.put, List.setIfInBounds_toArray, List.set_cons_zero, List.set_cons_succ, i64_w, i32_w]
          rfl
        refine pure_ (i := 5) (N := some 28) (v := ?_) (a' := ?_) #[true, false, true, false, false, true, false, false, false, false] rfl rfl (any_of HT_.out (by kernel_rfl)) (fun _ _ _ h => h) (Or.inl ⟨by rfl, ?_⟩) ?_ ?_
        rotate_left
        · intro w'
          go_simp
          with_reducible rfl
        rotate_left
        · simp only [Act.put, List.setIfInBounds_toArray, List.set_cons_zero, List.set_cons_succ, i64_w, i32_w]
          rfl
        refine take_ (i := 1) (N := some 24) (v := ?_) (a' := ?_) #[true, true, true, false, false, true, false, false, false, false] rfl rfl (take_ofW HT_.out HW_.out (by kernel_rfl)) (fun _ _ _ h => h) (Or.inl ⟨by rfl, ?_⟩) hHeld ?_ ?_
        rotate_left
        · rintro w' ⟨s0, s1, s2, s3⟩
          go_simp
          with_reducible rfl
        rotate_left
        · simp only [Act.put, List.setIfInBounds_toArray, List.set_cons_zero, List.set_cons_succ, i64_w, i32_w]
          rfl
        refine take_ (i := 3) (N := some 26) (v := ?_) (a' := ?_) #[true, true, true, true, false, true, false, false, false, false] rfl rfl (take_ofW HT_.out HW_.out (by kernel_rfl)) (fun _ _ _ h => h) (Or.inl ⟨by rfl, ?_⟩) hHeld ?_ ?_
        rotate_left
        · rintro w' ⟨s0, s1, s2, s3⟩
          go_simp
          with_reducible rfl
        rotate_left
        · simp only [Act.put, List.setIfInBounds_toArray, List.set_cons_zero, List.set_cons_succ, i64_w, i32_w]
          rfl
        refine pure_ (i := 4) (N := some 27) (v := ?_) (a' := ?_) #[true, true, true, true, true, true, false, false, false, false] rfl rfl (any_of HT_.out (by kernel_rfl)) (fun _ _ _ h => h) (Or.inl ⟨by rfl, ?_⟩) ?_ ?_
        rotate_left
        · intro w'
          go_simp
          with_reducible rfl
        rotate_left
        · simp only [Act.put, List.setIfInBounds_toArray, List.set_cons_zero, List.set_cons_succ, i64_w, i32_w]
          rfl
        refine join_ (σ := Nat) 1 #[true, true, true, true, true, true, true, true, true, false] (fun s_ => [(29, .int .i64 t111), (8, .pointer (some ⟨s_, 0, none⟩)), (30, .agg #[.int .i64 a0_0, .int .i64 (wrap64 (a0_1 + 1)), .int .i64 t111, .slice none 0 0])]) (fun s_ w' => (w'.cell? ⟨gb101, 0, none⟩ = some (.int .i64 a0_0) ∧ w'.cell? ⟨gb101, 1, none⟩ = some (.int .i64 a0_1) ∧ w'.cell? ⟨gb101, 2, none⟩ = some (.int .i64 a0_2) ∧ w'.cell? ⟨gb101, 3, none⟩ = some (.slice A0_3 l0_3.length c0_3)) ∧ (w'.heap[gb101]? = some (.cells #[.int .i64 a0_0, .int .i64 a0_1, .int .i64 a0_2, .slice A0_3 l0_3.length c0_3] 47 (0, 0))) ∧ (w'.heap[gb102]? = some (.cells #[.int .i64 0, .int .i64 0, .int .i64 0, .slice none 0 0] 47 (0, 0))) ∧ (w'.heap[s_]? = some (.cells #[.int .i64 0, .int .i64 0, .int .i64 0, .slice none 0 0] 47 (0, 0))) ∧ (w.heap.size ≤ s_) ∧ (w.heap.size ≤ s_) ∧ (gb101 ≠ s_) ∧ (s_ ≠ gb101) ∧ (gb102 ≠ s_) ∧ (s_ ≠ gb102) ∧ (Below w.heap.size w w')) ?_ ?_
        rotate_left
        · intro hCont
          refine two_ (i := 6) (j := 8) (Ni := some 29) (Nj := some 8) #[true, true, true, true, true, true, true, false, false, false] #[true, true, true, true, true, true, false, false, true, false] rfl rfl rfl rfl (two_of HT_.out (by kernel_rfl)) (by decide) (by decide) (fun K hK => ?_) (fun K hK => ?_)
          · skip
            refine goes_ Try.func126 (by kernel_rfl) rfl #[.int .i64 a2] (by rfl) rfl rfl (by (try simp only [List.map_toArray, List.map_cons, List.map_nil]); first | done | rfl | (simp only [List.length_drop, List.length_take]; rfl)) ?_
            with_reducible refine (impl_FreshSecret.calls kj3 a2 t111 _ A24.out).mono ?_
            rintro e w26 ⟨rfl, hb⟩
            refine ⟨_, rfl, ?_⟩
            have n0_ := Xam (Xbb (g := gb101) (o := .cells #[.int .i64 a0_0, .int .i64 a0_1, .int .i64 a0_2, .slice A0_3 l0_3.length c0_3] 47 (0, 0)) (by (with_reducible repeat (first | refine Xkn ?_ _ | refine Xkd ?_ | refine Xka ?_ _)); exact BK101.out) hb)
            have n1_ := Xam (Xbb (g := gb102) (o := .cells #[.int .i64 0, .int .i64 0, .int .i64 0, .slice none 0 0] 47 (0, 0)) (by (with_reducible repeat (first | refine Xkn ?_ _ | refine Xkd ?_ | refine Xka ?_ _)); exact BK102.out) hb)
            have n2_ := Xam (Xbt (by repeat (first | (with_reducible first | exact HB.out | apply Xba | apply Xbn | apply Xbd | refine Xbe ?_ GE101.out | refine Xbe ?_ GE102.out) | exact HB.out)) hb)
            clear BK101
            clear BK102
            clear HB
            have BK101 := n0_
            have BK102 := n1_
            have HB := n2_
            clear n0_ n1_ n2_
            (try clear hb)
            (try clear hb2)
            (try clear hk)
            (try clear hi)
            refine hK.out _ _ ⟨(Xbc BK101.out 0).trans rfl, (Xbc BK101.out 1).trans rfl, (Xbc BK101.out 2).trans rfl, (Xbc BK101.out 3).trans rfl⟩ (fun hHeld => ?_)
            clear hK K
            refine norm_ (a' := ?_) ?_ ?_
            rotate_left
            · show Act.put _ (some 29) _ = _
              simp only [Act.put, List.setIfInBounds_toArray, List.set_cons_zero, List.set_cons_succ, i64_w, i32_w]
              rfl
            refine pure_ (i := 7) (N := some 30) (v := ?_) (a' := ?_) #[true, true, true, true, true, true, true, true, false, false] rfl rfl (any_of HT_.out (by kernel_rfl)) (fun _ _ _ h => h) (Or.inl ⟨by rfl, ?_⟩) ?_ ?_
            rotate_left
            · intro w'
              go_simp
              with_reducible rfl
            rotate_left
            · simp only [Act.put, List.setIfInBounds_toArray, List.set_cons_zero, List.set_cons_succ, i64_w, i32_w]
              rfl
            refine one_ (i := 8) (N := some 8) #[true, true, true, true, true, true, true, true, true, false] rfl rfl (one_of HT_.out (by kernel_rfl)) (by decide) (fun K hK => ?_)
            refine box_step ?hg (N := 8) ?hd (cs := #[.int .i64 0, .int .i64 0, .int .i64 0, .slice none 0 0]) (t := 47) ?hr ?_; (case hd => rfl); (case hg => rfl); (case hr => first | (go_simp; done) | (go_simp; rfl))
            intro gb112 hg w27 hbox hb
            have n0_ := Xam (Xbb (g := gb101) (o := .cells #[.int .i64 a0_0, .int .i64 a0_1, .int .i64 a0_2, .slice A0_3 l0_3.length c0_3] 47 (0, 0)) (by (with_reducible repeat (first | refine Xkn ?_ _ | refine Xkd ?_ | refine Xka ?_ _)); exact BK101.out) hb)
            have n1_ := Xam (Xbb (g := gb102) (o := .cells #[.int .i64 0, .int .i64 0, .int .i64 0, .slice none 0 0] 47 (0, 0)) (by (with_reducible repeat (first | refine Xkn ?_ _ | refine Xkd ?_ | refine Xka ?_ _)); exact BK102.out) hb)
            have n2_ := Xam (Xbt (by repeat (first | (with_reducible first | exact HB.out | apply Xba | apply Xbn | apply Xbd | refine Xbe ?_ GE101.out | refine Xbe ?_ GE102.out) | exact HB.out)) hb)
            have n3_ := Xam (hbox)
            have n4_ := Xam ((by rw [hg]; exact (Xbs (by repeat (first | (with_reducible first | exact HB.out | apply Xba | apply Xbn | apply Xbd | refine Xbe ?_ GE101.out | refine Xbe ?_ GE102.out) | exact HB.out))) : w.heap.size ≤ gb112))
            have n5_ := Xam ((by rw [hg]; exact (Xbs (by repeat (first | (with_reducible first | exact HB.out | apply Xba | apply Xbn | apply Xbd | refine Xbe ?_ GE101.out | refine Xbe ?_ GE102.out) | exact HB.out))) : w.heap.size ≤ gb112))
            have n6_ := Xam ((by rw [hg]; exact Nat.ne_of_lt (Xbl (g := gb101) (o := .cells #[.int .i64 a0_0, .int .i64 a0_1, .int .i64 a0_2, .slice A0_3 l0_3.length c0_3] 47 (0, 0)) (by (with_reducible repeat (first | refine Xkn ?_ _ | refine Xkd ?_ | refine Xka ?_ _)); exact BK101.out)) : gb101 ≠ gb112))
            have n7_ := Xam ((by rw [hg]; exact Nat.ne_of_gt (Xbl (g := gb101) (o := .cells #[.int .i64 a0_0, .int .i64 a0_1, .int .i64 a0_2, .slice A0_3 l0_3.length c0_3] 47 (0, 0)) (by (with_reducible repeat (first | refine Xkn ?_ _ | refine Xkd ?_ | refine Xka ?_ _)); exact BK101.out)) : gb112 ≠ gb101))
            have n8_ := Xam ((by rw [hg]; exact Nat.ne_of_lt (Xbl (g := gb102) (o := .cells #[.int .i64 0, .int .i64 0, .int .i64 0, .slice none 0 0] 47 (0, 0)) (by (with_reducible repeat (first | refine Xkn ?_ _ | refine Xkd ?_ | refine Xka ?_ _)); exact BK102.out)) : gb102 ≠ gb112))
            have n9_ := Xam ((by rw [hg]; exact Nat.ne_of_gt (Xbl (g := gb102) (o := .cells #[.int .i64 0, .int .i64 0, .int .i64 0, .slice none 0 0] 47 (0, 0)) (by (with_reducible repeat (first | refine Xkn ?_ _ | refine Xkd ?_ | refine Xka ?_ _)); exact BK102.out)) : gb112 ≠ gb102))
            clear BK101
            clear BK102
            clear HB
            have BK101 := n0_
            have BK102 := n1_
            have HB := n2_
            have BK112 := n3_
            have GW112 := n4_
            have GE112 := n5_
            have NB101_112 := n6_
            have NB112_101 := n7_
            have NB102_112 := n8_
            have NB112_102 := n9_
            clear n0_ n1_ n2_ n3_ n4_ n5_ n6_ n7_ n8_ n9_
            clear hb hbox hg
            refine hK.out _ _ ⟨(Xbc BK101.out 0).trans rfl, (Xbc BK101.out 1).trans rfl, (Xbc BK101.out 2).trans rfl, (Xbc BK101.out 3).trans rfl⟩ (fun hHeld => ?_)
            clear hK K
            refine norm_ (a' := ?_) ?_ ?_
            rotate_left
            · show Act.put _ (some 8) _ = _
              simp only [Act.put, List.setIfInBounds_toArray, List.set_cons_zero, List.set_cons_succ, i64_w, i32_w]
              rfl
            exact norm_ (by simp only [putAll, Act.put, List.setIfInBounds_toArray, List.set_cons_zero, List.set_cons_succ]) (hCont (gb112) _ ⟨hHeld, (by (with_reducible repeat (first | refine Xkn ?_ _ | refine Xkd ?_ | refine Xka ?_ _)); exact BK101.out), (by (with_reducible repeat (first | refine Xkn ?_ _ | refine Xkd ?_ | refine Xka ?_ _)); exact BK102.out), (by (with_reducible repeat (first | refine Xkn ?_ _ | refine Xkd ?_ | refine Xka ?_ _)); exact BK112.out), GW112.out, GE112.out, NB101_112.out, NB112_101.out, NB102_112.out, NB112_102.out, (by repeat (first | (with_reducible first | exact HB.out | apply Xba | apply Xbn | apply Xbd | refine Xbe ?_ GE101.out | refine Xbe ?_ GE102.out | refine Xbe ?_ GE112.out) | exact HB.out))⟩)
          · skip
            refine box_step ?hg (N := 8) ?hd (cs := #[.int .i64 0, .int .i64 0, .int .i64 0, .slice none 0 0]) (t := 47) ?hr ?_; (case hd => rfl); (case hg => rfl); (case hr => first | (go_simp; done) | (go_simp; rfl))
            intro gb112 hg w26 hbox hb
            have n0_ := Xam (Xbb (g := gb101) (o := .cells #[.int .i64 a0_0, .int .i64 a0_1, .int .i64 a0_2, .slice A0_3 l0_3.length c0_3] 47 (0, 0)) (by (with_reducible repeat (first | refine Xkn ?_ _ | refine Xkd ?_ | refine Xka ?_ _)); exact BK101.out) hb)
            have n1_ := Xam (Xbb (g := gb102) (o := .cells #[.int .i64 0, .int .i64 0, .int .i64 0, .slice none 0 0] 47 (0, 0)) (by (with_reducible repeat (first | refine Xkn ?_ _ | refine Xkd ?_ | refine Xka ?_ _)); exact BK102.out) hb)
            have n2_ := Xam (Xbt (by repeat (first | (with_reducible first | exact HB.out | apply Xba | apply Xbn | apply Xbd | refine Xbe ?_ GE101.out | refine Xbe ?_ GE102.out) | exact HB.out)) hb)
            have n3_ := Xam (hbox)
            have n4_ := Xam ((by rw [hg]; exact (Xbs (by repeat (first | (with_reducible first | exact HB.out | apply Xba | apply Xbn | apply Xbd | refine Xbe ?_ GE101.out | refine Xbe ?_ GE102.out) | exact HB.out))) : w.heap.size ≤ gb112))
            have n5_ := Xam ((by rw [hg]; exact (Xbs (by repeat (first | (with_reducible first | exact HB.out | apply Xba | apply Xbn | apply Xbd | refine Xbe ?_ GE101.out | refine Xbe ?_ GE102.out) | exact HB.out))) : w.heap.size ≤ gb112))
            have n6_ := Xam ((by rw [hg]; exact Nat.ne_of_lt (Xbl (g := gb101) (o := .cells #[.int .i64 a0_0, .int .i64 a0_1, .int .i64 a0_2, .slice A0_3 l0_3.length c0_3] 47 (0, 0)) (by (with_reducible repeat (first | refine Xkn ?_ _ | refine Xkd ?_ | refine Xka ?_ _)); exact BK101.out)) : gb101 ≠ gb112))
            have n7_ := Xam ((by rw [hg]; exact Nat.ne_of_gt (Xbl (g := gb101) (o := .cells #[.int .i64 a0_0, .int .i64 a0_1, .int .i64 a0_2, .slice A0_3 l0_3.length c0_3] 47 (0, 0)) (by (with_reducible repeat (first | refine Xkn ?_ _ | refine Xkd ?_ | refine Xka ?_ _)); exact BK101.out)) : gb112 ≠ gb101))
            have n8_ := Xam ((by rw [hg]; exact Nat.ne_of_lt (Xbl (g := gb102) (o := .cells #[.int .i64 0, .int .i64 0, .int .i64 0, .slice none 0 0] 47 (0, 0)) (by (with_reducible repeat (first | refine Xkn ?_ _ | refine Xkd ?_ | refine Xka ?_ _)); exact BK102.out)) : gb102 ≠ gb112))
            have n9_ := Xam ((by rw [hg]; exact Nat.ne_of_gt (Xbl (g := gb102) (o := .cells #[.int .i64 0, .int .i64 0, .int .i64 0, .slice none 0 0] 47 (0, 0)) (by (with_reducible repeat (first | refine Xkn ?_ _ | refine Xkd ?_ | refine Xka ?_ _)); exact BK102.out)) : gb112 ≠ gb102))
            clear BK101
            clear BK102
            clear HB
            have BK101 := n0_
            have BK102 := n1_
            have HB := n2_
            have BK112 := n3_
            have GW112 := n4_
            have GE112 := n5_
            have NB101_112 := n6_
            have NB112_101 := n7_
            have NB102_112 := n8_
            have NB112_102 := n9_
            clear n0_ n1_ n2_ n3_ n4_ n5_ n6_ n7_ n8_ n9_
            clear hb hbox hg
            refine hK.out _ _ ⟨(Xbc BK101.out 0).trans rfl, (Xbc BK101.out 1).trans rfl, (Xbc BK101.out 2).trans rfl, (Xbc BK101.out 3).trans rfl⟩ (fun hHeld => ?_)
            clear hK K
            refine norm_ (a' := ?_) ?_ ?_
            rotate_left
            · show Act.put _ (some 8) _ = _
              simp only [Act.put, List.setIfInBounds_toArray, List.set_cons_zero, List.set_cons_succ, i64_w, i32_w]
              rfl
            refine one_ (i := 6) (N := some 29) #[true, true, true, true, true, true, true, false, true, false] rfl rfl (one_of HT_.out (by kernel_rfl)) (by decide) (fun K hK => ?_)
            refine goes_ Try.func126 (by kernel_rfl) rfl #[.int .i64 a2] (by rfl) rfl rfl (by (try simp only [List.map_toArray, List.map_cons, List.map_nil]); first | done | rfl | (simp only [List.length_drop, List.length_take]; rfl)) ?_
            with_reducible refine (impl_FreshSecret.calls kj3 a2 t111 _ A24.out).mono ?_
            rintro e w27 ⟨rfl, hb⟩
            refine ⟨_, rfl, ?_⟩
            have n0_ := Xam (Xbb (g := gb101) (o := .cells #[.int .i64 a0_0, .int .i64 a0_1, .int .i64 a0_2, .slice A0_3 l0_3.length c0_3] 47 (0, 0)) (by (with_reducible repeat (first | refine Xkn ?_ _ | refine Xkd ?_ | refine Xka ?_ _)); exact BK101.out) hb)
            have n1_ := Xam (Xbb (g := gb102) (o := .cells #[.int .i64 0, .int .i64 0, .int .i64 0, .slice none 0 0] 47 (0, 0)) (by (with_reducible repeat (first | refine Xkn ?_ _ | refine Xkd ?_ | refine Xka ?_ _)); exact BK102.out) hb)
            have n2_ := Xam (Xbb (g := gb112) (o := .cells #[.int .i64 0, .int .i64 0, .int .i64 0, .slice none 0 0] 47 (0, 0)) (by (with_reducible repeat (first | refine Xkn ?_ _ | refine Xkd ?_ | refine Xka ?_ _)); exact BK112.out) hb)
            have n3_ := Xam (Xbt (by repeat (first | (with_reducible first | exact HB.out | apply Xba | apply Xbn | apply Xbd | refine Xbe ?_ GE101.out | refine Xbe ?_ GE102.out | refine Xbe ?_ GE112.out) | exact HB.out)) hb)
            clear BK101
            clear BK102
            clear BK112
            clear HB
            have BK101 := n0_
            have BK102 := n1_
            have BK112 := n2_
            have HB := n3_
            clear n0_ n1_ n2_ n3_
            (try clear hb)
            (try clear hb2)
            (try clear hk)
            (try clear hi)
            refine hK.out _ _ ⟨(Xbc BK101.out 0).trans rfl, (Xbc BK101.out 1).trans rfl, (Xbc BK101.out 2).trans rfl, (Xbc BK101.out 3).trans rfl⟩ (fun hHeld => ?_)
            clear hK K
            refine norm_ (a' := ?_) ?_ ?_
            rotate_left
            · show Act.put _ (some 29) _ = _
              simp only [Act.put, List.setIfInBounds_toArray, List.set_cons_zero, List.set_cons_succ, i64_w, i32_w]
              rfl
            refine pure_ (i := 7) (N := some 30) (v := ?_) (a' := ?_) #[true, true, true, true, true, true, true, true, true, false] rfl rfl (any_of HT_.out (by kernel_rfl)) (fun _ _ _ h => h) (Or.inl ⟨by rfl, ?_⟩) ?_ ?_
            rotate_left
            · intro w'
              go_simp
              with_reducible rfl
            rotate_left
            · simp only [Act.put, List.setIfInBounds_toArray, List.set_cons_zero, List.set_cons_succ, i64_w, i32_w]
              rfl
            exact norm_ (by simp only [putAll, Act.put, List.setIfInBounds_toArray, List.set_cons_zero, List.set_cons_succ]) (hCont (gb112) _ ⟨hHeld, (by (with_reducible repeat (first | refine Xkn ?_ _ | refine Xkd ?_ | refine Xka ?_ _)); exact BK101.out), (by (with_reducible repeat (first | refine Xkn ?_ _ | refine Xkd ?_ | refine Xka ?_ _)); exact BK102.out), (by (with_reducible repeat (first | refine Xkn ?_ _ | refine Xkd ?_ | refine Xka ?_ _)); exact BK112.out), GW112.out, GE112.out, NB101_112.out, NB112_101.out, NB102_112.out, NB112_102.out, (by repeat (first | (with_reducible first | exact HB.out | apply Xba | apply Xbn | apply Xbd | refine Xbe ?_ GE101.out | refine Xbe ?_ GE102.out | refine Xbe ?_ GE112.out) | exact HB.out))⟩)
        rintro gb112 w28 ⟨hS_, h0_, h1_, h2_, h3_, h4_, h5_, h6_, h7_, h8_, h9_⟩
        have n0_ : Aside0 (w28.heap[gb101]? = some (.cells #[.int .i64 a0_0, .int .i64 a0_1, .int .i64 a0_2, .slice A0_3 l0_3.length c0_3] 47 (0, 0))) := ⟨h0_⟩
        have n1_ : Aside0 (w28.heap[gb102]? = some (.cells #[.int .i64 0, .int .i64 0, .int .i64 0, .slice none 0 0] 47 (0, 0))) := ⟨h1_⟩
        have n2_ : Aside0 (w28.heap[gb112]? = some (.cells #[.int .i64 0, .int .i64 0, .int .i64 0, .slice none 0 0] 47 (0, 0))) := ⟨h2_⟩
        have n3_ : Aside0 (w.heap.size ≤ gb112) := ⟨h3_⟩
        have n4_ : Aside0 (w.heap.size ≤ gb112) := ⟨h4_⟩
        have n5_ : Aside0 (gb101 ≠ gb112) := ⟨h5_⟩
        have n6_ : Aside0 (gb112 ≠ gb101) := ⟨h6_⟩
        have n7_ : Aside0 (gb102 ≠ gb112) := ⟨h7_⟩
        have n8_ : Aside0 (gb112 ≠ gb102) := ⟨h8_⟩
        have n9_ : Aside0 (Below w.heap.size w w28) := ⟨h9_⟩
        clear BK101
        clear BK102
        clear HB
        clear h0_ h1_ h2_ h3_ h4_ h5_ h6_ h7_ h8_ h9_
        have BK101 := n0_
        have BK102 := n1_
        have BK112 := n2_
        have GW112 := n3_
        have GE112 := n4_
        have NB101_112 := n5_
        have NB112_101 := n6_
        have NB102_112 := n7_
        have NB112_102 := n8_
        have HB := n9_
        clear n0_ n1_ n2_ n3_ n4_ n5_ n6_ n7_ n8_ n9_
        have hHeld : w28.cell? ⟨gb101, 0, none⟩ = some (.int .i64 a0_0) ∧ w28.cell? ⟨gb101, 1, none⟩ = some (.int .i64 a0_1) ∧ w28.cell? ⟨gb101, 2, none⟩ = some (.int .i64 a0_2) ∧ w28.cell? ⟨gb101, 3, none⟩ = some (.slice A0_3 l0_3.length c0_3) := hS_
        refine norm_ (a' := ?_) ?_ ?_
        rotate_left
        · simp only [putAll, Act.put, List.setIfInBounds_toArray, List.set_cons_zero, List.set_cons_succ]
          rfl
        refine one_ (i := 9) (N := none) #[true, true, true, true, true, true, true, true, true, true] rfl rfl (one_of HT_.out (by kernel_rfl)) (by decide) (fun K hK => ?_)
        have hs29 : w28.cell? ⟨gb112, 0, none⟩ = some (.int .i64 0) := (Xbc BK112.out 0).trans rfl
        have hfs29 := Xbf BK112.out 0
        have hns29_0 := NB101_112.out
        have hns29_1 := NB102_112.out
        have hms29_0 := NB112_101.out
        have hms29_1 := NB112_102.out
        have hs30 : w28.cell? ⟨gb112, 1, none⟩ = some (.int .i64 0) := (Xbc BK112.out 1).trans rfl
        have hfs30 := Xbf BK112.out 1
        have hns30_0 := NB101_112.out
        have hns30_1 := NB102_112.out
        have hms30_0 := NB112_101.out
        have hms30_1 := NB112_102.out
        have hs31 : w28.cell? ⟨gb112, 2, none⟩ = some (.int .i64 0) := (Xbc BK112.out 2).trans rfl
        have hfs31 := Xbf BK112.out 2
        have hns31_0 := NB101_112.out
        have hns31_1 := NB102_112.out
        have hms31_0 := NB112_101.out
        have hms31_1 := NB112_102.out
        have hs32 : w28.cell? ⟨gb112, 3, none⟩ = some (.slice none 0 0) := (Xbc BK112.out 3).trans rfl
        have hfs32 := Xbf BK112.out 3
        have hns32_0 := NB101_112.out
        have hns32_1 := NB102_112.out
        have hms32_0 := NB112_101.out
        have hms32_1 := NB112_102.out
        refine skip_ (w1 := ?_) (by rfl) rfl ?_ ?_
        rotate_left
        · go_simp
          rfl
        refine hK.out _ _ ⟨((cell_far (p := ⟨gb112, _, none⟩) NB101_112.out _).trans (((cell_far (p := ⟨gb112, _, none⟩) NB101_112.out _).trans (((cell_far (p := ⟨gb112, _, none⟩) NB101_112.out _).trans (((cell_far (p := ⟨gb112, _, none⟩) NB101_112.out _).trans (hHeld.1)))))))), ((cell_far (p := ⟨gb112, _, none⟩) NB101_112.out _).trans (((cell_far (p := ⟨gb112, _, none⟩) NB101_112.out _).trans (((cell_far (p := ⟨gb112, _, none⟩) NB101_112.out _).trans (((cell_far (p := ⟨gb112, _, none⟩) NB101_112.out _).trans (hHeld.2.1)))))))), ((cell_far (p := ⟨gb112, _, none⟩) NB101_112.out _).trans (((cell_far (p := ⟨gb112, _, none⟩) NB101_112.out _).trans (((cell_far (p := ⟨gb112, _, none⟩) NB101_112.out _).trans (((cell_far (p := ⟨gb112, _, none⟩) NB101_112.out _).trans (hHeld.2.2.1)))))))), ((cell_far (p := ⟨gb112, _, none⟩) NB101_112.out _).trans (((cell_far (p := ⟨gb112, _, none⟩) NB101_112.out _).trans (((cell_far (p := ⟨gb112, _, none⟩) NB101_112.out _).trans (((cell_far (p := ⟨gb112, _, none⟩) NB101_112.out _).trans (hHeld.2.2.2))))))))⟩ (fun hHeld => ?_)
        clear hK K
        refine done_ (done_of HT_.out (by kernel_rfl)) ?_
        have hnb33 := NB101_102.out
        have hnc33 := NB102_101.out
        have hnb34 := NB101_112.out
        have hnc34 := NB112_101.out
        have hcz35_0 : w28.cell? ⟨gb101, 0, none⟩ = some (.int .i64 a0_0) := (Xbc BK101.out 0).trans rfl
        have hcz35_1 : w28.cell? ⟨gb101, 1, none⟩ = some (.int .i64 a0_1) := (Xbc BK101.out 1).trans rfl
        have hcz35_2 : w28.cell? ⟨gb101, 2, none⟩ = some (.int .i64 a0_2) := (Xbc BK101.out 2).trans rfl
        have hcz35_3 : w28.cell? ⟨gb101, 3, none⟩ = some (.slice A0_3 l0_3.length c0_3) := (Xbc BK101.out 3).trans rfl
        have hfz35_0 := Xbf BK101.out 0
        have hfz35_1 := Xbf BK101.out 1
        have hfz35_2 := Xbf BK101.out 2
        have hfz35_3 := Xbf BK101.out 3
        try go_wp2
        go_loopg [34] kj3 (fun kq v34 w' => ∃ (x34_2 : Int) (x113003_2 : List Int) (u113003 : Value), v34 = .int .i64 x34_2 ∧ Aside0 (impl_RemoveMember.l0 kq a1 l0_3 (l0_3.length : Int) x34_2 a0_0 a0_1 a0_2 l0_3 a0_0 (wrap64 (a0_1 + 1)) t111 x113003_2 = some (r1, r2, r3, r4, r5)) ∧ Aside0 (kq ≤ kj3) ∧ Aside0 (Kd.R (Kd.int .i64) 3 w' w.heap.size (fun _ => True) u113003 x113003_2) ∧ Aside0 (w'.heap[gb101]? = some (.cells #[.int .i64 a0_0, .int .i64 a0_1, .int .i64 a0_2, (.slice A0_3 l0_3.length c0_3)] 47 (0, 0))) ∧ Aside0 (w'.heap[gb102]? = some (.cells #[.int .i64 0, .int .i64 0, .int .i64 0, (.slice none 0 0)] 47 (0, 0))) ∧ Aside0 (w'.heap[gb112]? = some (.cells #[.int .i64 a0_0, .int .i64 (wrap64 (a0_1 + 1)), .int .i64 t111, u113003] 47 (0, 0))) ∧ Aside0 (Below w.heap.size w w'))
        case atStart => exact ⟨(0), (([] : List Int)), (.slice none 0 0), (by first | rfl | (simp; done) | (simp [*]; done)), H', ⟨Nat.le_refl _⟩, ⟨by first | exact Kd.R_nil _ _ _ _ _ | exact Kd.N_nil _ _ _ _ _ | exact Kd.V_nil _ _ _ _ _ | exact Kd.Q_nil _ _ _ _ _ | exact Kd.S_nil _ _ _ _ _⟩, ⟨by (with_reducible repeat (first | refine Xkn ?_ _ | refine Xkd ?_ | refine Xka ?_ _)); refine blk_far ?_ NB101_112.out _; (with_reducible repeat (first | refine Xkn ?_ _ | refine Xkd ?_ | refine Xka ?_ _)); refine blk_far ?_ NB101_112.out _; (with_reducible repeat (first | refine Xkn ?_ _ | refine Xkd ?_ | refine Xka ?_ _)); refine blk_far ?_ NB101_112.out _; (with_reducible repeat (first | refine Xkn ?_ _ | refine Xkd ?_ | refine Xka ?_ _)); refine blk_far ?_ NB101_112.out _; (with_reducible repeat (first | refine Xkn ?_ _ | refine Xkd ?_ | refine Xka ?_ _)); exact BK101.out⟩, ⟨by (with_reducible repeat (first | refine Xkn ?_ _ | refine Xkd ?_ | refine Xka ?_ _)); refine blk_far ?_ NB102_112.out _; (with_reducible repeat (first | refine Xkn ?_ _ | refine Xkd ?_ | refine Xka ?_ _)); refine blk_far ?_ NB102_112.out _; (with_reducible repeat (first | refine Xkn ?_ _ | refine Xkd ?_ | refine Xka ?_ _)); refine blk_far ?_ NB102_112.out _; (with_reducible repeat (first | refine Xkn ?_ _ | refine Xkd ?_ | refine Xka ?_ _)); refine blk_far ?_ NB102_112.out _; (with_reducible repeat (first | refine Xkn ?_ _ | refine Xkd ?_ | refine Xka ?_ _)); exact BK102.out⟩, ⟨by (with_reducible repeat (first | refine Xkn ?_ _ | refine Xkd ?_ | refine Xka ?_ _)); refine blk_put (cs := #[.int .i64 a0_0, .int .i64 (wrap64 (a0_1 + 1)), .int .i64 t111, .slice none 0 0]) ?_ 3 _ rfl; (with_reducible repeat (first | refine Xkn ?_ _ | refine Xkd ?_ | refine Xka ?_ _)); refine blk_put (cs := #[.int .i64 a0_0, .int .i64 (wrap64 (a0_1 + 1)), .int .i64 0, .slice none 0 0]) ?_ 2 _ rfl; (with_reducible repeat (first | refine Xkn ?_ _ | refine Xkd ?_ | refine Xka ?_ _)); refine blk_put (cs := #[.int .i64 a0_0, .int .i64 0, .int .i64 0, .slice none 0 0]) ?_ 1 _ rfl; (with_reducible repeat (first | refine Xkn ?_ _ | refine Xkd ?_ | refine Xka ?_ _)); refine blk_put (cs := #[.int .i64 0, .int .i64 0, .int .i64 0, .slice none 0 0]) ?_ 0 _ rfl; (with_reducible repeat (first | refine Xkn ?_ _ | refine Xkd ?_ | refine Xka ?_ _)); exact BK112.out⟩, ⟨by repeat (first | (with_reducible first | exact HB.out | apply Xba | apply Xbn | apply Xbd | refine Xbe ?_ GE101.out | refine Xbe ?_ GE102.out | refine Xbe ?_ GE112.out) | exact HB.out)⟩⟩
        case round =>
          clear H'
          try clear c1
          try clear c2
          try clear p2
          try clear c3
          try clear p6
          try clear c8
          try clear c10
          try clear c12
          try clear c14
          try clear c17
          try clear c19
          try clear c29
          try clear c33
          try clear c34
          try clear hcz11_0
          try clear hcz11_1
          try clear hcz11_2
          try clear hcz11_3
          try clear hcz13_0
          try clear hcz13_1
          try clear hcz13_2
          try clear hcz13_3
          try clear hcz15_0
          try clear hcz15_1
          try clear hcz15_2
          try clear hcz15_3
          try clear hcz20_0
          try clear hcz20_1
          try clear hcz20_2
          try clear hcz20_3
          try clear hcz22_0
          try clear hcz22_1
          try clear hcz22_2
          try clear hcz22_3
          try clear hcz35_0
          try clear hcz35_1
          try clear hcz35_2
          try clear hcz35_3
          try clear hfz11_0
          try clear hfz11_1
          try clear hfz11_2
          try clear hfz11_3
          try clear hfz13_0
          try clear hfz13_1
          try clear hfz13_2
          try clear hfz13_3
          try clear hfz15_0
          try clear hfz15_1
          try clear hfz15_2
          try clear hfz15_3
          try clear hfz20_0
          try clear hfz20_1
          try clear hfz20_2
          try clear hfz20_3
          try clear hfz22_0
          try clear hfz22_1
          try clear hfz22_2
          try clear hfz22_3
          try clear hfz35_0
          try clear hfz35_1
          try clear hfz35_2
          try clear hfz35_3
          try clear p2
          obtain ⟨x34_2, x113003_2, u113003, rfl, HA, HK2, HO_113003, BK101, BK102, BK112, HB⟩ := hrel
          cases gk with
          | zero => exact absurd HA.out (by simp [impl_RemoveMember.l0])
          | succ k2 =>
            have H := HA.out
            clear HA
            simp only [impl_RemoveMember.l0] at H
            by_cases c36 : x34_2 < (l0_3.length : Int)
            · rw [if_pos c36] at H
              have c36b0 : decide (x34_2 < (l0_3.length : Int)) = true := decide_eq_true c36
              clear c36
              by_cases c37 : 0 ≤ x34_2
              · rw [if_pos c37] at H
                have c37b0 : decide (0 ≤ x34_2) = true := decide_eq_true c37
                clear c37
                by_cases c38 : x34_2 < (l0_3.length : Int)
                · rw [if_pos c38] at H
                  have c38b0 : decide (x34_2 < (l0_3.length : Int)) = true := decide_eq_true c38
                  clear c38
                  by_cases c39 : (rd l0_3 x34_2) = a1
                  · rw [if_pos c39] at H
                    have c39b0 : ((rd l0_3 x34_2) == a1) = true := beq_iff_eq.mpr c39
                    have c39b1 : ((rd l0_3 x34_2) != a1) = false := bne_eq_false_iff_eq.mpr c39
                    clear c39
                    have H' := Xam H
                    clear H
                    have p113 : 0 ≤ (x34_2 : Int) := of_decide_eq_true (by first | (with_reducible assumption) | assumption)
                    have q113 : x34_2 < (l0_3.length : Int) := of_decide_eq_true (by first | (with_reducible assumption) | assumption)
                    obtain ⟨ad113, e113, hx113_0⟩ := Kd.at_int HR0_3.out x34_2 p113 q113
                    cases e113
                    replace hx113_0 := (HB.out.cell (World.block_lt_of_cell? w _ hx113_0)).trans hx113_0
                    replace p113 := eq_true p113
                    replace q113 := eq_true q113
                    go_wp2
                    go_roundg k2
                    case measure => have := HJ3.out; have := HK2.out; omega
                    case rel => exact ⟨(wrap64 (x34_2 + 1)), (x113003_2), (u113003), (by first | rfl | (simp; done) | (simp [*]; done)), H', ⟨by have := HJ3.out; have := HK2.out; omega⟩, ⟨by (with_reducible repeat (first | apply Xra | apply Xrn | apply Xrd)); exact HO_113003.out⟩, ⟨by (with_reducible repeat (first | refine Xkn ?_ _ | refine Xkd ?_ | refine Xka ?_ _)); exact BK101.out⟩, ⟨by (with_reducible repeat (first | refine Xkn ?_ _ | refine Xkd ?_ | refine Xka ?_ _)); exact BK102.out⟩, ⟨by (with_reducible repeat (first | refine Xkn ?_ _ | refine Xkd ?_ | refine Xka ?_ _)); exact BK112.out⟩, ⟨by repeat (first | (with_reducible first | exact HB.out | apply Xba | apply Xbn | apply Xbd | refine Xbe ?_ GE101.out | refine Xbe ?_ GE102.out | refine Xbe ?_ GE112.out) | exact HB.out)⟩⟩
                  · rw [if_neg c39] at H
                    have c39b0 : ((rd l0_3 x34_2) == a1) = false := beq_eq_false_iff_ne.mpr c39
                    have c39b1 : ((rd l0_3 x34_2) != a1) = true := bne_iff_ne.mpr c39
                    by_cases c40 : x113003_2.length < 17592186044416
                    · rw [if_pos c40] at H
                      have LMc40 := Xam c40
                      clear c40
                      obtain ⟨y114, hy114⟩ : ∃ y_ : List Int, y_ = (x113003_2 ++ [rd l0_3 x34_2]) := ⟨_, rfl⟩
                      replace H : (impl_RemoveMember.l0 k2 a1 l0_3 (l0_3.length : Int) (wrap64 (x34_2 + 1)) a0_0 a0_1 a0_2 l0_3 a0_0 (wrap64 (a0_1 + 1)) t111 y114) = some (r1, r2, r3, r4, r5) := by first | (rw [hy114]; with_reducible exact H) | (have H2_ := (Option.bind_some _ _).symm.trans H; rw [hy114]; with_reducible exact H2_) | (have H2_ := (Option.bind_some _ _).symm.trans H; with_reducible exact H2_) | with_reducible exact H | (rw [hy114]; exact H) | exact H
                      have Ny114 := Xam hy114
                      clear hy114
                      have H' := Xam H
                      clear H
                      have p113 : 0 ≤ (x34_2 : Int) := of_decide_eq_true (by first | (with_reducible assumption) | assumption)
                      have q113 : x34_2 < (l0_3.length : Int) := of_decide_eq_true (by first | (with_reducible assumption) | assumption)
                      obtain ⟨ad113, e113, hx113_0⟩ := Kd.at_int HR0_3.out x34_2 p113 q113
                      cases e113
                      replace hx113_0 := (HB.out.cell (World.block_lt_of_cell? w _ hx113_0)).trans hx113_0
                      replace p113 := eq_true p113
                      replace q113 := eq_true q113
                      have hnb41 := NB112_101.out
                      have hnc41 := NB101_112.out
                      have hnb42 := NB112_102.out
                      have hnc42 := NB102_112.out
                      have hcz43_0 : wr.cell? ⟨gb112, 0, none⟩ = some (.int .i64 a0_0) := (Xbc BK112.out 0).trans rfl
                      have hcz43_1 : wr.cell? ⟨gb112, 1, none⟩ = some (.int .i64 (wrap64 (a0_1 + 1))) := (Xbc BK112.out 1).trans rfl
                      have hcz43_2 : wr.cell? ⟨gb112, 2, none⟩ = some (.int .i64 t111) := (Xbc BK112.out 2).trans rfl
                      have hcz43_3 : wr.cell? ⟨gb112, 3, none⟩ = some (u113003) := (Xbc BK112.out 3).trans rfl
                      have hfz43_0 := Xbf BK112.out 0
                      have hfz43_1 := Xbf BK112.out 1
                      have hfz43_2 := Xbf BK112.out 2
                      have hfz43_3 := Xbf BK112.out 3
                      go_wp2_with (first | ((with_reducible refine gate_builtin (b := .append) (xs := #[.tmp 42, .tmp 44]) rfl ?_); at_builtin; refine Kd.R_append (Kd.int .i64) (w0 := w) w.heap.size rfl (.tmp 42) (.tmp 44) 43 3 (.int .i64 0) 8 rfl Try.underlying43 info3 rfl (by decide) (by omega) u113003 x113003_2 (rd l0_3 x34_2) [.int .i64 (rd l0_3 x34_2)] (fun _ => True) (fun _ => False) rfl rfl ?aP (fun _ hk => hk.elim) ?aF ?aO ?aB ?aS ?aL ?_; (case aP => exact rfl); (case aB => exact (by repeat (first | (with_reducible first | exact HB.out | apply Xba | apply Xbn | apply Xbd | refine Xbe ?_ GE101.out | refine Xbe ?_ GE102.out | refine Xbe ?_ GE112.out) | exact HB.out))); (case aF => exact (fun _ _ => trivial)); (case aO => exact (by (with_reducible repeat (first | apply Xra | apply Xrn | apply Xrd)); exact HO_113003.out)); (case aS => exact (Xbs (by repeat (first | (with_reducible first | exact HB.out | apply Xba | apply Xbn | apply Xbd | refine Xbe ?_ GE101.out | refine Xbe ?_ GE102.out | refine Xbe ?_ GE112.out) | exact HB.out)))); (case aL => have := LMc40.out; omega); intro v115 w44 ho hb hg hat; rw [← Ny114.out] at ho; have n0_ := Xam (blk_grown (g := gb101) (o := .cells #[.int .i64 a0_0, .int .i64 a0_1, .int .i64 a0_2, .slice (some ad113) l0_3.length c0_3] 47 (0, 0)) (by (with_reducible repeat (first | refine Xkn ?_ _ | refine Xkd ?_ | refine Xka ?_ _)); exact BK101.out) hg (Kd.R_ne HO_113003.out BK101.out (by decide))); have n1_ := Xam (blk_grown (g := gb102) (o := .cells #[.int .i64 0, .int .i64 0, .int .i64 0, .slice none 0 0] 47 (0, 0)) (by (with_reducible repeat (first | refine Xkn ?_ _ | refine Xkd ?_ | refine Xka ?_ _)); exact BK102.out) hg (Kd.R_ne HO_113003.out BK102.out (by decide))); have n2_ := Xam (blk_grown (g := gb112) (o := .cells #[.int .i64 a0_0, .int .i64 (wrap64 (a0_1 + 1)), .int .i64 t111, u113003] 47 (0, 0)) (by (with_reducible repeat (first | refine Xkn ?_ _ | refine Xkd ?_ | refine Xka ?_ _)); exact BK112.out) hg (Kd.R_ne HO_113003.out BK112.out (by decide))); have n3_ := Xam (hb); have n4_ := Xam (ho); clear BK101; clear BK102; clear BK112; clear HB; clear HO_113003; have BK101 := n0_; have BK102 := n1_; have BK112 := n2_; have HB := n3_; have HO116 := n4_; clear n0_ n1_ n2_ n3_ n4_; clear ho hb hg hat; obtain ⟨Ao45, co45, eo45⟩ := Kd.R_slice HO116.out; subst eo45; have hcz46_0 : w44.cell? ⟨gb112, 0, none⟩ = some (.int .i64 a0_0) := (Xbc BK112.out 0).trans rfl; have hcz46_1 : w44.cell? ⟨gb112, 1, none⟩ = some (.int .i64 (wrap64 (a0_1 + 1))) := (Xbc BK112.out 1).trans rfl; have hcz46_2 : w44.cell? ⟨gb112, 2, none⟩ = some (.int .i64 t111) := (Xbc BK112.out 2).trans rfl; have hcz46_3 : w44.cell? ⟨gb112, 3, none⟩ = some (u113003) := (Xbc BK112.out 3).trans rfl; have hfz46_0 := Xbf BK112.out 0; have hfz46_1 := Xbf BK112.out 1; have hfz46_2 := Xbf BK112.out 2; have hfz46_3 := Xbf BK112.out 3))
                      go_roundg k2
                      case measure => have := HJ3.out; have := HK2.out; omega
                      case rel => exact ⟨(wrap64 (x34_2 + 1)), (y114), (.slice Ao45 y114.length co45), (by first | rfl | (simp; done) | (simp [*]; done)), H', ⟨by have := HJ3.out; have := HK2.out; omega⟩, ⟨by (with_reducible repeat (first | apply Xra | apply Xrn | apply Xrd)); exact Kd.R_mono (Kd.R_far (p := ⟨gb112, 3, none⟩) (Kd.R_types HO116.out BK112.out (by decide)) (fun _ hk => hk.2) (.slice Ao45 y114.length co45)) (fun _ hk => trivial)⟩, ⟨by (with_reducible repeat (first | refine Xkn ?_ _ | refine Xkd ?_ | refine Xka ?_ _)); refine blk_far ?_ NB101_112.out _; (with_reducible repeat (first | refine Xkn ?_ _ | refine Xkd ?_ | refine Xka ?_ _)); exact BK101.out⟩, ⟨by (with_reducible repeat (first | refine Xkn ?_ _ | refine Xkd ?_ | refine Xka ?_ _)); refine blk_far ?_ NB102_112.out _; (with_reducible repeat (first | refine Xkn ?_ _ | refine Xkd ?_ | refine Xka ?_ _)); exact BK102.out⟩, ⟨by (with_reducible repeat (first | refine Xkn ?_ _ | refine Xkd ?_ | refine Xka ?_ _)); refine blk_put (cs := #[.int .i64 a0_0, .int .i64 (wrap64 (a0_1 + 1)), .int .i64 t111, u113003]) ?_ 3 _ rfl; (with_reducible repeat (first | refine Xkn ?_ _ | refine Xkd ?_ | refine Xka ?_ _)); exact BK112.out⟩, ⟨by repeat (first | (with_reducible first | exact HB.out | apply Xba | apply Xbn | apply Xbd | refine Xbe ?_ GE101.out | refine Xbe ?_ GE102.out | refine Xbe ?_ GE112.out) | exact HB.out)⟩⟩
                    · rw [if_neg c40] at H
                      exact absurd H (by simp)
                · rw [if_neg c38] at H
                  exact absurd H (by simp)
              · rw [if_neg c37] at H
                exact absurd H (by simp)
            · rw [if_neg c36] at H
              have c36b0 : decide (x34_2 < (l0_3.length : Int)) = false := decide_eq_false c36
              clear c36
              replace H := Option.bind_eq_some_iff.mp H
              obtain ⟨t117, A470, H⟩ := H
              replace H : (if t117 = true then (some (a0_0, (wrap64 (a0_1 + 1)), t111, x113003_2, true)) else ((impl_copySenders.f a0_0 a0_1 a0_2 l0_3).bind fun bt118 => (some (bt118.1, bt118.2.1, bt118.2.2.1, bt118.2.2.2, false)))) = some (r1, r2, r3, r4, r5) := H
              have A47 := Xam A470
              clear A470
              by_cases c48 : t117 = true
              · subst c48
                have H1 : (some (a0_0, (wrap64 (a0_1 + 1)), t111, x113003_2, true)) = some (r1, r2, r3, r4, r5) := by rw [if_pos rfl] at H; exact H
                clear H
                have H := H1
                clear H1
                simp only [Option.some.injEq, Prod.mk.injEq] at H
                obtain ⟨rfl, rfl, rfl, rfl, rfl⟩ := H
                have hnb49 := NB112_101.out
                have hnc49 := NB101_112.out
                have hnb50 := NB112_102.out
                have hnc50 := NB102_112.out
                have hcz51_0 : wr.cell? ⟨gb112, 0, none⟩ = some (.int .i64 a0_0) := (Xbc BK112.out 0).trans rfl
                have hcz51_1 : wr.cell? ⟨gb112, 1, none⟩ = some (.int .i64 (wrap64 (a0_1 + 1))) := (Xbc BK112.out 1).trans rfl
                have hcz51_2 : wr.cell? ⟨gb112, 2, none⟩ = some (.int .i64 t111) := (Xbc BK112.out 2).trans rfl
                have hcz51_3 : wr.cell? ⟨gb112, 3, none⟩ = some (u113003) := (Xbc BK112.out 3).trans rfl
                have hfz51_0 := Xbf BK112.out 0
                have hfz51_1 := Xbf BK112.out 1
                have hfz51_2 := Xbf BK112.out 2
                have hfz51_3 := Xbf BK112.out 3
                obtain ⟨Ao52, co52, eo52⟩ := Kd.R_slice HO_113003.out
                subst eo52
                go_wp2_with (first | ((with_reducible refine gate_callee (f := 123) rfl ?_); refine goesL_ (some 49) rfl rfl Try.func123 (by kernel_rfl) rfl #[.agg #[.int .i64 a0_0, .int .i64 (wrap64 (a0_1 + 1)), .int .i64 t111, .slice Ao52 x113003_2.length co52]] rfl (by (try simp only [List.map_toArray, List.map_cons, List.map_nil]); first | done | rfl | (simp only [List.length_drop, List.length_take]; rfl)) ?_; (with_reducible refine (impl_IsValidGroup.calls k2 a0_0 (wrap64 (a0_1 + 1)) t111 _ _ x113003_2 true _ ?side1 ?side2 A47.out).mono ?_); (case side1 => repeat (first | exact (Kd.R_reads' HO_113003.out).2.2 | (with_reducible refine Xca ?_ _) | (with_reducible refine Xcn ?_ _) | (with_reducible refine Xcd ?_))); (case side2 => exact (Kd.R_reads' HO_113003.out).2.1); rintro e w53 ⟨rfl, hb⟩; refine ⟨_, rfl, ?_⟩; have n0_ := Xam (Kd.R_below (by (with_reducible repeat (first | apply Xra | apply Xrn | apply Xrd)); exact HO_113003.out) hb); have n1_ := Xam (Xbb (g := gb101) (o := .cells #[.int .i64 a0_0, .int .i64 a0_1, .int .i64 a0_2, .slice A0_3 l0_3.length c0_3] 47 (0, 0)) (by (with_reducible repeat (first | refine Xkn ?_ _ | refine Xkd ?_ | refine Xka ?_ _)); exact BK101.out) hb); have n2_ := Xam (Xbb (g := gb102) (o := .cells #[.int .i64 0, .int .i64 0, .int .i64 0, .slice none 0 0] 47 (0, 0)) (by (with_reducible repeat (first | refine Xkn ?_ _ | refine Xkd ?_ | refine Xka ?_ _)); exact BK102.out) hb); have n3_ := Xam (Xbb (g := gb112) (o := .cells #[.int .i64 a0_0, .int .i64 (wrap64 (a0_1 + 1)), .int .i64 t111, .slice Ao52 x113003_2.length co52] 47 (0, 0)) (by (with_reducible repeat (first | refine Xkn ?_ _ | refine Xkd ?_ | refine Xka ?_ _)); exact BK112.out) hb); have n4_ := Xam (Xbt (by repeat (first | (with_reducible first | exact HB.out | apply Xba | apply Xbn | apply Xbd | refine Xbe ?_ GE101.out | refine Xbe ?_ GE102.out | refine Xbe ?_ GE112.out) | exact HB.out)) hb); clear HO_113003; clear BK101; clear BK102; clear BK112; clear HB; have HO_113003 := n0_; have BK101 := n1_; have BK102 := n2_; have BK112 := n3_; have HB := n4_; clear n0_ n1_ n2_ n3_ n4_; (try clear hb); (try clear hb2); (try clear hk); (try clear hi); have hcz54_0 : w53.cell? ⟨gb112, 0, none⟩ = some (.int .i64 a0_0) := (Xbc BK112.out 0).trans rfl; have hcz54_1 : w53.cell? ⟨gb112, 1, none⟩ = some (.int .i64 (wrap64 (a0_1 + 1))) := (Xbc BK112.out 1).trans rfl; have hcz54_2 : w53.cell? ⟨gb112, 2, none⟩ = some (.int .i64 t111) := (Xbc BK112.out 2).trans rfl; have hcz54_3 : w53.cell? ⟨gb112, 3, none⟩ = some (.slice Ao52 x113003_2.length co52) := (Xbc BK112.out 3).trans rfl; have hfz54_0 := Xbf BK112.out 0; have hfz54_1 := Xbf BK112.out 1; have hfz54_2 := Xbf BK112.out 2; have hfz54_3 := Xbf BK112.out 3; have hnb55 := NB102_101.out; have hnc55 := NB101_102.out; have hcz56_0 : w53.cell? ⟨gb102, 0, none⟩ = some (.int .i64 0) := (Xbc BK102.out 0).trans rfl; have hcz56_1 : w53.cell? ⟨gb102, 1, none⟩ = some (.int .i64 0) := (Xbc BK102.out 1).trans rfl; have hcz56_2 : w53.cell? ⟨gb102, 2, none⟩ = some (.int .i64 0) := (Xbc BK102.out 2).trans rfl; have hcz56_3 : w53.cell? ⟨gb102, 3, none⟩ = some (.slice none 0 0) := (Xbc BK102.out 3).trans rfl; have hfz56_0 := Xbf BK102.out 0; have hfz56_1 := Xbf BK102.out 1; have hfz56_2 := Xbf BK102.out 2; have hfz56_3 := Xbf BK102.out 3))
                refine bodyPost_ret (results_ct rfl _ _ gb102 47 #[.int .i64 a0_0, .int .i64 (wrap64 (a0_1 + 1)), .int .i64 t111, .slice Ao52 x113003_2.length co52] (0, 0) _ rfl (by (with_reducible repeat (first | refine Xkn ?_ _ | refine Xkd ?_ | refine Xka ?_ _)); refine blk_put (cs := #[.int .i64 a0_0, .int .i64 (wrap64 (a0_1 + 1)), .int .i64 t111, .slice none 0 0]) ?_ 3 _ rfl; (with_reducible repeat (first | refine Xkn ?_ _ | refine Xkd ?_ | refine Xka ?_ _)); refine blk_put (cs := #[.int .i64 a0_0, .int .i64 (wrap64 (a0_1 + 1)), .int .i64 0, .slice none 0 0]) ?_ 2 _ rfl; (with_reducible repeat (first | refine Xkn ?_ _ | refine Xkd ?_ | refine Xka ?_ _)); refine blk_put (cs := #[.int .i64 a0_0, .int .i64 0, .int .i64 0, .slice none 0 0]) ?_ 1 _ rfl; (with_reducible repeat (first | refine Xkn ?_ _ | refine Xkd ?_ | refine Xka ?_ _)); refine blk_put (cs := #[.int .i64 0, .int .i64 0, .int .i64 0, .slice none 0 0]) ?_ 0 _ rfl; (with_reducible repeat (first | refine Xkn ?_ _ | refine Xkd ?_ | refine Xka ?_ _)); exact BK102.out) Try.underlying47 rfl (by kernel_rfl)) rfl ?_
                exact ⟨_, by first | rfl | (simp [errW_none, errW_some] <;> rfl) | (simp [*, errW_none, errW_some] <;> rfl), by (with_reducible repeat (first | apply Xra | apply Xrn | apply Xrd)); exact Kd.R_mono (Kd.R_far (p := ⟨gb102, 3, none⟩) (Kd.R_far (p := ⟨gb102, 2, none⟩) (Kd.R_far (p := ⟨gb102, 1, none⟩) (Kd.R_far (p := ⟨gb102, 0, none⟩) (Kd.R_types HO_113003.out BK102.out (by decide)) (fun _ hk => hk.2) (.int .i64 a0_0)) (fun _ hk => hk.2) (.int .i64 (wrap64 (a0_1 + 1)))) (fun _ hk => hk.2) (.int .i64 t111)) (fun _ hk => hk.2) (.slice Ao52 x113003_2.length co52)) (fun _ hk => trivial), by repeat (first | (with_reducible first | exact HB.out | apply Xba | apply Xbn | apply Xbd | refine Xbe ?_ GE101.out | refine Xbe ?_ GE102.out | refine Xbe ?_ GE112.out) | exact HB.out)⟩
              · replace c48 := Bool.eq_false_iff.mpr c48
                subst c48
                have H1 : ((impl_copySenders.f a0_0 a0_1 a0_2 l0_3).bind fun bt118 => (some (bt118.1, bt118.2.1, bt118.2.2.1, bt118.2.2.2, false))) = some (r1, r2, r3, r4, r5) := by rw [if_neg (show ¬ (false = true) by decide)] at H; exact H
                clear H
                have H := H1
                clear H1
                replace H := Option.bind_eq_some_iff.mp H
                obtain ⟨⟨t118, t119, t120, t121⟩, A570, H⟩ := H
                replace H : (some (t118, t119, t120, t121, false)) = some (r1, r2, r3, r4, r5) := H
                have A57 := Xam A570
                clear A570
                simp only [Option.some.injEq, Prod.mk.injEq] at H
                obtain ⟨rfl, rfl, rfl, rfl, rfl⟩ := H
                have hnb58 := NB112_101.out
                have hnc58 := NB101_112.out
                have hnb59 := NB112_102.out
                have hnc59 := NB102_112.out
                have hcz60_0 : wr.cell? ⟨gb112, 0, none⟩ = some (.int .i64 a0_0) := (Xbc BK112.out 0).trans rfl
                have hcz60_1 : wr.cell? ⟨gb112, 1, none⟩ = some (.int .i64 (wrap64 (a0_1 + 1))) := (Xbc BK112.out 1).trans rfl
                have hcz60_2 : wr.cell? ⟨gb112, 2, none⟩ = some (.int .i64 t111) := (Xbc BK112.out 2).trans rfl
                have hcz60_3 : wr.cell? ⟨gb112, 3, none⟩ = some (u113003) := (Xbc BK112.out 3).trans rfl
                have hfz60_0 := Xbf BK112.out 0
                have hfz60_1 := Xbf BK112.out 1
                have hfz60_2 := Xbf BK112.out 2
                have hfz60_3 := Xbf BK112.out 3
                obtain ⟨Ao61, co61, eo61⟩ := Kd.R_slice HO_113003.out
                subst eo61
                go_wp2_with (first | ((with_reducible refine gate_callee (f := 123) rfl ?_); refine goesL_ (some 49) rfl rfl Try.func123 (by kernel_rfl) rfl #[.agg #[.int .i64 a0_0, .int .i64 (wrap64 (a0_1 + 1)), .int .i64 t111, .slice Ao61 x113003_2.length co61]] rfl (by (try simp only [List.map_toArray, List.map_cons, List.map_nil]); first | done | rfl | (simp only [List.length_drop, List.length_take]; rfl)) ?_; (with_reducible refine (impl_IsValidGroup.calls k2 a0_0 (wrap64 (a0_1 + 1)) t111 _ _ x113003_2 false _ ?side1 ?side2 A47.out).mono ?_); (case side1 => repeat (first | exact (Kd.R_reads' HO_113003.out).2.2 | (with_reducible refine Xca ?_ _) | (with_reducible refine Xcn ?_ _) | (with_reducible refine Xcd ?_))); (case side2 => exact (Kd.R_reads' HO_113003.out).2.1); rintro e w62 ⟨rfl, hb⟩; refine ⟨_, rfl, ?_⟩; have n0_ := Xam (Kd.R_below (by (with_reducible repeat (first | apply Xra | apply Xrn | apply Xrd)); exact HO_113003.out) hb); have n1_ := Xam (Xbb (g := gb101) (o := .cells #[.int .i64 a0_0, .int .i64 a0_1, .int .i64 a0_2, .slice A0_3 l0_3.length c0_3] 47 (0, 0)) (by (with_reducible repeat (first | refine Xkn ?_ _ | refine Xkd ?_ | refine Xka ?_ _)); exact BK101.out) hb); have n2_ := Xam (Xbb (g := gb102) (o := .cells #[.int .i64 0, .int .i64 0, .int .i64 0, .slice none 0 0] 47 (0, 0)) (by (with_reducible repeat (first | refine Xkn ?_ _ | refine Xkd ?_ | refine Xka ?_ _)); exact BK102.out) hb); have n3_ := Xam (Xbb (g := gb112) (o := .cells #[.int .i64 a0_0, .int .i64 (wrap64 (a0_1 + 1)), .int .i64 t111, .slice Ao61 x113003_2.length co61] 47 (0, 0)) (by (with_reducible repeat (first | refine Xkn ?_ _ | refine Xkd ?_ | refine Xka ?_ _)); exact BK112.out) hb); have n4_ := Xam (Xbt (by repeat (first | (with_reducible first | exact HB.out | apply Xba | apply Xbn | apply Xbd | refine Xbe ?_ GE101.out | refine Xbe ?_ GE102.out | refine Xbe ?_ GE112.out) | exact HB.out)) hb); clear HO_113003; clear BK101; clear BK102; clear BK112; clear HB; have HO_113003 := n0_; have BK101 := n1_; have BK102 := n2_; have BK112 := n3_; have HB := n4_; clear n0_ n1_ n2_ n3_ n4_; (try clear hb); (try clear hb2); (try clear hk); (try clear hi); have hnb63 := NB101_102.out; have hnc63 := NB102_101.out; have hcz64_0 : w62.cell? ⟨gb101, 0, none⟩ = some (.int .i64 a0_0) := (Xbc BK101.out 0).trans rfl; have hcz64_1 : w62.cell? ⟨gb101, 1, none⟩ = some (.int .i64 a0_1) := (Xbc BK101.out 1).trans rfl; have hcz64_2 : w62.cell? ⟨gb101, 2, none⟩ = some (.int .i64 a0_2) := (Xbc BK101.out 2).trans rfl; have hcz64_3 : w62.cell? ⟨gb101, 3, none⟩ = some (.slice A0_3 l0_3.length c0_3) := (Xbc BK101.out 3).trans rfl; have hfz64_0 := Xbf BK101.out 0; have hfz64_1 := Xbf BK101.out 1; have hfz64_2 := Xbf BK101.out 2; have hfz64_3 := Xbf BK101.out 3) | ((with_reducible refine gate_callee (f := 125) rfl ?_); refine goesL_ (some 52) rfl rfl Try.func125 (by kernel_rfl) rfl #[.agg #[.int .i64 a0_0, .int .i64 a0_1, .int .i64 a0_2, .slice A0_3 l0_3.length c0_3]] rfl (by (try simp only [List.map_toArray, List.map_cons, List.map_nil]); first | done | rfl | (simp only [List.length_drop, List.length_take]; rfl)) ?_; (with_reducible refine (impl_copySenders.calls a0_0 a0_1 a0_2 _ _ l0_3 t118 t119 t120 t121 _ ?side1 ?side2 A57.out).mono ?_); (case side1 => repeat (first | exact (Kd.C_below HR0_3.out HB.out) | (with_reducible refine Xca ?_ _) | (with_reducible refine Xcn ?_ _) | (with_reducible refine Xcd ?_))); (case side2 => exact HC0_3.out); rintro e w65 ⟨v122, rfl, ho0, hb⟩; refine ⟨_, rfl, ?_⟩; have n0_ := Xam (Kd.R_elder' (by (with_reducible repeat (first | apply Xra | apply Xrn | apply Xrd)); exact HO_113003.out) (Kd.R_base ho0) hb); have n1_ := Xam (Kd.R_lower (Kd.R_new' ho0 (Kd.R_lt (by (with_reducible repeat (first | apply Xra | apply Xrn | apply Xrd)); exact HO_113003.out))) (Xbs (by repeat (first | (with_reducible first | exact HB.out | apply Xba | apply Xbn | apply Xbd | refine Xbe ?_ GE101.out | refine Xbe ?_ GE102.out | refine Xbe ?_ GE112.out) | exact HB.out)))); have n2_ := Xam (Xbb (g := gb101) (o := .cells #[.int .i64 a0_0, .int .i64 a0_1, .int .i64 a0_2, .slice A0_3 l0_3.length c0_3] 47 (0, 0)) (by (with_reducible repeat (first | refine Xkn ?_ _ | refine Xkd ?_ | refine Xka ?_ _)); exact BK101.out) hb); have n3_ := Xam (Xbb (g := gb102) (o := .cells #[.int .i64 0, .int .i64 0, .int .i64 0, .slice none 0 0] 47 (0, 0)) (by (with_reducible repeat (first | refine Xkn ?_ _ | refine Xkd ?_ | refine Xka ?_ _)); exact BK102.out) hb); have n4_ := Xam (Xbb (g := gb112) (o := .cells #[.int .i64 a0_0, .int .i64 (wrap64 (a0_1 + 1)), .int .i64 t111, .slice Ao61 x113003_2.length co61] 47 (0, 0)) (by (with_reducible repeat (first | refine Xkn ?_ _ | refine Xkd ?_ | refine Xka ?_ _)); exact BK112.out) hb); have n5_ := Xam (Xbt (by repeat (first | (with_reducible first | exact HB.out | apply Xba | apply Xbn | apply Xbd | refine Xbe ?_ GE101.out | refine Xbe ?_ GE102.out | refine Xbe ?_ GE112.out) | exact HB.out)) hb); clear HO_113003; clear BK101; clear BK102; clear BK112; clear HB; have HO_113003 := n0_; have HO123 := n1_; have BK101 := n2_; have BK102 := n3_; have BK112 := n4_; have HB := n5_; clear n0_ n1_ n2_ n3_ n4_ n5_; (try clear hb); (try clear hb2); (try clear hk); (try clear hi); (try clear ho0); have hcz66_0 : w65.cell? ⟨gb102, 0, none⟩ = some (.int .i64 0) := (Xbc BK102.out 0).trans rfl; have hcz66_1 : w65.cell? ⟨gb102, 1, none⟩ = some (.int .i64 0) := (Xbc BK102.out 1).trans rfl; have hcz66_2 : w65.cell? ⟨gb102, 2, none⟩ = some (.int .i64 0) := (Xbc BK102.out 2).trans rfl; have hcz66_3 : w65.cell? ⟨gb102, 3, none⟩ = some (.slice none 0 0) := (Xbc BK102.out 3).trans rfl; have hfz66_0 := Xbf BK102.out 0; have hfz66_1 := Xbf BK102.out 1; have hfz66_2 := Xbf BK102.out 2; have hfz66_3 := Xbf BK102.out 3; obtain ⟨Ao67, co67, eo67⟩ := Kd.R_slice HO123.out; subst eo67))
                refine bodyPost_ret (results_ct rfl _ _ gb102 47 #[.int .i64 t118, .int .i64 t119, .int .i64 t120, .slice Ao67 t121.length co67] (0, 0) _ rfl (by (with_reducible repeat (first | refine Xkn ?_ _ | refine Xkd ?_ | refine Xka ?_ _)); refine blk_put (cs := #[.int .i64 t118, .int .i64 t119, .int .i64 t120, .slice none 0 0]) ?_ 3 _ rfl; (with_reducible repeat (first | refine Xkn ?_ _ | refine Xkd ?_ | refine Xka ?_ _)); refine blk_put (cs := #[.int .i64 t118, .int .i64 t119, .int .i64 0, .slice none 0 0]) ?_ 2 _ rfl; (with_reducible repeat (first | refine Xkn ?_ _ | refine Xkd ?_ | refine Xka ?_ _)); refine blk_put (cs := #[.int .i64 t118, .int .i64 0, .int .i64 0, .slice none 0 0]) ?_ 1 _ rfl; (with_reducible repeat (first | refine Xkn ?_ _ | refine Xkd ?_ | refine Xka ?_ _)); refine blk_put (cs := #[.int .i64 0, .int .i64 0, .int .i64 0, .slice none 0 0]) ?_ 0 _ rfl; (with_reducible repeat (first | refine Xkn ?_ _ | refine Xkd ?_ | refine Xka ?_ _)); exact BK102.out) Try.underlying47 rfl (by kernel_rfl)) rfl ?_
                exact ⟨_, by first | rfl | (simp [errW_none, errW_some] <;> rfl) | (simp [*, errW_none, errW_some] <;> rfl), by (with_reducible repeat (first | apply Xra | apply Xrn | apply Xrd)); exact Kd.R_mono (Kd.R_far (p := ⟨gb102, 3, none⟩) (Kd.R_far (p := ⟨gb102, 2, none⟩) (Kd.R_far (p := ⟨gb102, 1, none⟩) (Kd.R_far (p := ⟨gb102, 0, none⟩) (Kd.R_types HO123.out BK102.out (by decide)) (fun _ hk => hk.2) (.int .i64 t118)) (fun _ hk => hk.2) (.int .i64 t119)) (fun _ hk => hk.2) (.int .i64 t120)) (fun _ hk => hk.2) (.slice Ao67 t121.length co67)) (fun _ hk => trivial), by repeat (first | (with_reducible first | exact HB.out | apply Xba | apply Xbn | apply Xbd | refine Xbe ?_ GE101.out | refine Xbe ?_ GE102.out | refine Xbe ?_ GE112.out) | exact HB.out)⟩

/-! ### laws_heldSenderGroup: function 32 -/
def laws_heldSenderGroup.f (k : Nat) (a0_0 : Int) (a0_1 : Int) (a0_2 : Int) (l0_3 : List Int) (a1 : Int) : Option (Int) := (laws_heldIntS.f k l0_3 a1).bind fun t102 => (if t102 < 0 then (some (-1)) else (some t102))
theorem laws_heldSenderGroup.mono : ∀ a0 a1 a2 a3 a4 k, LeO (laws_heldSenderGroup.f k a0 a1 a2 a3 a4) (laws_heldSenderGroup.f (k + 1) a0 a1 a2 a3 a4) := by
  intro a0 a1 a2 a3 a4 k
  unfold laws_heldSenderGroup.f
  repeat' first
      | (with_reducible exact laws_heldIntS.mono _ _ _)
      | (with_reducible exact LeO.refl _)
      | (with_reducible exact LeO.none _)
      | (with_reducible refine LeO.ite ?_ ?_)
      | (with_reducible refine LeO.bind ?_ (fun _ => ?_))
      | exact laws_heldIntS.mono _ _ _
      | exact LeO.none _
      | refine LeO.ite ?_ ?_
      | refine LeO.bind ?_ (fun _ => ?_)
set_option maxHeartbeats 8000000 in
set_option maxRecDepth 100000 in
theorem laws_heldSenderGroup.calls (k : Nat) (a0_0 : Int) (a0_1 : Int) (a0_2 : Int) (A0_3 : Option Addr) (c0_3 : Nat) (l0_3 : List Int) (a1 : Int) (r : Int) (w : World) (hr0_3 : Kd.C (Kd.int .i64) w A0_3 l0_3.length l0_3) (hc0_3 : l0_3.length ≤ c0_3) (h : laws_heldSenderGroup.f k a0_0 a0_1 a0_2 l0_3 a1 = some r) :
    Calls Try.prog 32 #[.agg #[.int .i64 a0_0, .int .i64 a0_1, .int .i64 a0_2, .slice A0_3 l0_3.length c0_3], .int .i64 a1] w fun e w' => e = .returned (.int .i64 r) ∧ Below w.heap.size w w' := by
  have hu47 := Try.underlying47
  have HR0_3 := Xam hr0_3
  have HC0_3 := Xam hc0_3
  clear hr0_3 hc0_3
  have HB := Xam (Below.refl w.heap.size w)
  have H : ((laws_heldIntS.f k l0_3 a1).bind fun t102 => (if t102 < 0 then (some (-1)) else (some t102))) = some r := h
  clear h
  replace H := Option.bind_eq_some_iff.mp H
  obtain ⟨t102, A30, H⟩ := H
  replace H : (if t102 < 0 then (some (-1)) else (some t102)) = some r := H
  have A3 := Xam A30
  clear A30
  by_cases c4 : t102 < 0
  · rw [if_pos c4] at H
    have c4b0 : decide (t102 < 0) = true := decide_eq_true c4
    clear c4
    obtain rfl := Option.some.inj H
    go_enter Try.func32, Try.ntmps32
    go_wp2_with (first | ((with_reducible refine gate_dst (N := 2) rfl ?_); refine box_event ?hg (N := 2) ?hd (cs := #[.int .i64 a0_0, .int .i64 a0_1, .int .i64 a0_2, .slice A0_3 l0_3.length c0_3]) (t := 47) ?hr ?_; (case hd => rfl); (case hg => rfl); (case hr => first | (go_simp; done) | (go_simp; rfl)); intro gb101 hg w5 hbox hb; have n0_ := Xam (Xbt (by repeat (first | (with_reducible first | exact HB.out | apply Xba | apply Xbn | apply Xbd) | exact HB.out)) hb); have n1_ := Xam (hbox); have n2_ := Xam ((by rw [hg]; exact (Xbs (by repeat (first | (with_reducible first | exact HB.out | apply Xba | apply Xbn | apply Xbd) | exact HB.out))) : w.heap.size ≤ gb101)); have n3_ := Xam ((by rw [hg]; exact (Xbs (by repeat (first | (with_reducible first | exact HB.out | apply Xba | apply Xbn | apply Xbd) | exact HB.out))) : w.heap.size ≤ gb101)); clear HB; have HB := n0_; have BK101 := n1_; have GW101 := n2_; have GE101 := n3_; clear n0_ n1_ n2_ n3_; clear hb hbox hg; have hcz6_0 : w5.cell? ⟨gb101, 0, none⟩ = some (.int .i64 a0_0) := (Xbc BK101.out 0).trans rfl; have hcz6_1 : w5.cell? ⟨gb101, 1, none⟩ = some (.int .i64 a0_1) := (Xbc BK101.out 1).trans rfl; have hcz6_2 : w5.cell? ⟨gb101, 2, none⟩ = some (.int .i64 a0_2) := (Xbc BK101.out 2).trans rfl; have hcz6_3 : w5.cell? ⟨gb101, 3, none⟩ = some (.slice A0_3 l0_3.length c0_3) := (Xbc BK101.out 3).trans rfl; have hfz6_0 := Xbf BK101.out 0; have hfz6_1 := Xbf BK101.out 1; have hfz6_2 := Xbf BK101.out 2; have hfz6_3 := Xbf BK101.out 3) | ((with_reducible refine gate_callee (f := 129) rfl ?_); refine goesL_ (some 8) rfl rfl Try.func129 (by kernel_rfl) rfl #[.slice A0_3 l0_3.length c0_3, .int .i64 a1] rfl (by (try simp only [List.map_toArray, List.map_cons, List.map_nil]); first | done | rfl | (simp only [List.length_drop, List.length_take]; rfl)) ?_; (with_reducible refine (laws_heldIntS.calls k _ _ l0_3 a1 t102 _ ?side1 ?side2 A3.out).mono ?_); (case side1 => repeat (first | exact (Kd.C_below HR0_3.out HB.out) | (with_reducible refine Xca ?_ _) | (with_reducible refine Xcn ?_ _) | (with_reducible refine Xcd ?_))); (case side2 => exact HC0_3.out); rintro e w' ⟨rfl, ⟨nd, rfl⟩⟩; refine ⟨_, rfl, ?_⟩))
    go_ret
    exact ⟨by first | rfl | (simp [errW_none, errW_some] <;> rfl) | (simp [*, errW_none, errW_some] <;> rfl), by repeat (first | (with_reducible first | exact HB.out | apply Xba | apply Xbn | apply Xbd | refine Xbe ?_ GE101.out) | exact HB.out)⟩
  · rw [if_neg c4] at H
    have c4b0 : decide (t102 < 0) = false := decide_eq_false c4
    clear c4
    obtain rfl := Option.some.inj H
    go_enter Try.func32, Try.ntmps32
    go_wp2_with (first | ((with_reducible refine gate_dst (N := 2) rfl ?_); refine box_event ?hg (N := 2) ?hd (cs := #[.int .i64 a0_0, .int .i64 a0_1, .int .i64 a0_2, .slice A0_3 l0_3.length c0_3]) (t := 47) ?hr ?_; (case hd => rfl); (case hg => rfl); (case hr => first | (go_simp; done) | (go_simp; rfl)); intro gb101 hg w7 hbox hb; have n0_ := Xam (Xbt (by repeat (first | (with_reducible first | exact HB.out | apply Xba | apply Xbn | apply Xbd) | exact HB.out)) hb); have n1_ := Xam (hbox); have n2_ := Xam ((by rw [hg]; exact (Xbs (by repeat (first | (with_reducible first | exact HB.out | apply Xba | apply Xbn | apply Xbd) | exact HB.out))) : w.heap.size ≤ gb101)); have n3_ := Xam ((by rw [hg]; exact (Xbs (by repeat (first | (with_reducible first | exact HB.out | apply Xba | apply Xbn | apply Xbd) | exact HB.out))) : w.heap.size ≤ gb101)); clear HB; have HB := n0_; have BK101 := n1_; have GW101 := n2_; have GE101 := n3_; clear n0_ n1_ n2_ n3_; clear hb hbox hg; have hcz8_0 : w7.cell? ⟨gb101, 0, none⟩ = some (.int .i64 a0_0) := (Xbc BK101.out 0).trans rfl; have hcz8_1 : w7.cell? ⟨gb101, 1, none⟩ = some (.int .i64 a0_1) := (Xbc BK101.out 1).trans rfl; have hcz8_2 : w7.cell? ⟨gb101, 2, none⟩ = some (.int .i64 a0_2) := (Xbc BK101.out 2).trans rfl; have hcz8_3 : w7.cell? ⟨gb101, 3, none⟩ = some (.slice A0_3 l0_3.length c0_3) := (Xbc BK101.out 3).trans rfl; have hfz8_0 := Xbf BK101.out 0; have hfz8_1 := Xbf BK101.out 1; have hfz8_2 := Xbf BK101.out 2; have hfz8_3 := Xbf BK101.out 3) | ((with_reducible refine gate_callee (f := 129) rfl ?_); refine goesL_ (some 8) rfl rfl Try.func129 (by kernel_rfl) rfl #[.slice A0_3 l0_3.length c0_3, .int .i64 a1] rfl (by (try simp only [List.map_toArray, List.map_cons, List.map_nil]); first | done | rfl | (simp only [List.length_drop, List.length_take]; rfl)) ?_; (with_reducible refine (laws_heldIntS.calls k _ _ l0_3 a1 t102 _ ?side1 ?side2 A3.out).mono ?_); (case side1 => repeat (first | exact (Kd.C_below HR0_3.out HB.out) | (with_reducible refine Xca ?_ _) | (with_reducible refine Xcn ?_ _) | (with_reducible refine Xcd ?_))); (case side2 => exact HC0_3.out); rintro e w' ⟨rfl, ⟨nd, rfl⟩⟩; refine ⟨_, rfl, ?_⟩))
    go_ret
    exact ⟨by first | rfl | (simp [errW_none, errW_some] <;> rfl) | (simp [*, errW_none, errW_some] <;> rfl), by repeat (first | (with_reducible first | exact HB.out | apply Xba | apply Xbn | apply Xbd | refine Xbe ?_ GE101.out) | exact HB.out)⟩

end Go.Proofs.Ytgdfnoipcompkaa.Q
