-- written by a program of this session (qprint.py) over the kit's print.py
import Derived.Test.YtgdfnoipcompkaaQx0
import Derived.Test.YtgdfnoipcompkaaQxMJDJLF
namespace Go.Proofs.Ytgdfnoipcompkaa.Q
open Go.RowKit Go.Proofs.YtgdfnoipcompkaaW.PrintWords Go.Proofs.YtgdfnoipcompkaaW.PrintLast Go.Proofs.YtgdfnoipcompkaaW.PrintMore Go.Proofs.YtgdfnoipcompkaaW.PrintWords Go.Proofs.YtgdfnoipcompkaaW.PrintWords.QPW
attribute [local go_sem] max2_int min2_int max_two min_two max_three min_three max_four min_four   -- for this text's walks alone
set_option linter.unusedVariables false
set_option linter.unusedSimpArgs false

/-! ### impl_IsValidPlain: function 113 -/
def impl_IsValidPlain.f (a0_0 : Int) (l0_1 : List Int) : Option (Bool) := (impl_InRange.f a0_0 0 3).bind fun t102 => (if t102 = true then (some (decide ((l0_1.length : Int) ≤ 14))) else (some false))
set_option maxHeartbeats 8000000 in
set_option maxRecDepth 100000 in
theorem impl_IsValidPlain.calls (a0_0 : Int) (A0_1 : Option Addr) (c0_1 : Nat) (l0_1 : List Int) (r : Bool) (w : World) (hr0_1 : Kd.C (Kd.int .u8) w A0_1 l0_1.length l0_1) (hc0_1 : l0_1.length ≤ c0_1) (h : impl_IsValidPlain.f a0_0 l0_1 = some r) :
    Calls Try.prog 113 #[.agg #[.int .i64 a0_0, .slice A0_1 l0_1.length c0_1]] w fun e w' => e = .returned (.bool r) ∧ Below w.heap.size w w' := by
  have hu36 := Try.underlying36
  have HR0_1 := Xam hr0_1
  have HC0_1 := Xam hc0_1
  clear hr0_1 hc0_1
  have HB := Xam (Below.refl w.heap.size w)
  have H : ((impl_InRange.f a0_0 0 3).bind fun t102 => (if t102 = true then (some (decide ((l0_1.length : Int) ≤ 14))) else (some false))) = some r := h
  clear h
  replace H := Option.bind_eq_some_iff.mp H
  obtain ⟨t102, A20, H⟩ := H
  replace H : (if t102 = true then (some (decide ((l0_1.length : Int) ≤ 14))) else (some false)) = some r := H
  have A2 := Xam A20
  clear A20
  by_cases c3 : t102 = true
  · subst c3
    have H1 : (some (decide ((l0_1.length : Int) ≤ 14))) = some r := by rw [if_pos rfl] at H; exact H
    clear H
    have H := H1
    clear H1
    obtain rfl := Option.some.inj H
    go_enter Try.func113, Try.ntmps113
    go_wp2_with (first | ((with_reducible refine gate_dst (N := 1) rfl ?_); (try (refine gate_guard (by rfl) ?_; dsimp only)); refine box_event ?hg (N := 1) ?hd (cs := #[.int .i64 a0_0, .slice A0_1 l0_1.length c0_1]) (t := 36) ?hr ?_; (case hd => rfl); (case hg => rfl); (case hr => first | (go_simp; done) | (go_simp; rfl)); intro gb101 hg w4 hbox hb; have n0_ := Xam (Xbt (by repeat (first | (with_reducible first | exact HB.out | apply Xba | apply Xbn | apply Xbd) | exact HB.out)) hb); have n1_ := Xam (hbox); have n2_ := Xam ((by rw [hg]; exact (Xbs (by repeat (first | (with_reducible first | exact HB.out | apply Xba | apply Xbn | apply Xbd) | exact HB.out))) : w.heap.size ≤ gb101)); have n3_ := Xam ((by rw [hg]; exact (Xbs (by repeat (first | (with_reducible first | exact HB.out | apply Xba | apply Xbn | apply Xbd) | exact HB.out))) : w.heap.size ≤ gb101)); clear HB; have HB := n0_; have BK101 := n1_; have GW101 := n2_; have GE101 := n3_; clear n0_ n1_ n2_ n3_; clear hb hbox hg; have hcz5_0 : w4.cell? ⟨gb101, 0, none⟩ = some (.int .i64 a0_0) := (Xbc BK101.out 0).trans rfl; have hcz5_1 : w4.cell? ⟨gb101, 1, none⟩ = some (.slice A0_1 l0_1.length c0_1) := (Xbc BK101.out 1).trans rfl; have hfz5_0 := Xbf BK101.out 0; have hfz5_1 := Xbf BK101.out 1) | ((with_reducible refine gate_callee (f := 141) rfl ?_); refine goesL_ (some 5) rfl rfl Try.func141 (by kernel_rfl) rfl #[.int .i64 a0_0, .int .i64 0, .int .i64 3] rfl (by (try simp only [List.map_toArray, List.map_cons, List.map_nil]); first | done | rfl | (simp only [List.length_drop, List.length_take]; rfl)) ?_; (with_reducible refine (impl_InRange.calls a0_0 0 3 true _ A2.out).mono ?_); rintro e w' ⟨rfl, ⟨nd, rfl⟩⟩; refine ⟨_, rfl, ?_⟩))
    go_ret
    exact ⟨by first | rfl | (simp [errW_none, errW_some] <;> rfl) | (simp [*, errW_none, errW_some] <;> rfl), by repeat (first | (with_reducible first | exact HB.out | apply Xba | apply Xbn | apply Xbd | refine Xbe ?_ GE101.out) | exact HB.out)⟩
  · replace c3 := Bool.eq_false_iff.mpr c3
    subst c3
    have H1 : (some false) = some r := by rw [if_neg (show ¬ (false = true) by decide)] at H; exact H
    clear H
    have H := H1
    clear H1
    obtain rfl := Option.some.inj H
    go_enter Try.func113, Try.ntmps113
    go_wp2_with (first | ((with_reducible refine gate_dst (N := 1) rfl ?_); (try (refine gate_guard (by rfl) ?_; dsimp only)); refine box_event ?hg (N := 1) ?hd (cs := #[.int .i64 a0_0, .slice A0_1 l0_1.length c0_1]) (t := 36) ?hr ?_; (case hd => rfl); (case hg => rfl); (case hr => first | (go_simp; done) | (go_simp; rfl)); intro gb101 hg w6 hbox hb; have n0_ := Xam (Xbt (by repeat (first | (with_reducible first | exact HB.out | apply Xba | apply Xbn | apply Xbd) | exact HB.out)) hb); have n1_ := Xam (hbox); have n2_ := Xam ((by rw [hg]; exact (Xbs (by repeat (first | (with_reducible first | exact HB.out | apply Xba | apply Xbn | apply Xbd) | exact HB.out))) : w.heap.size ≤ gb101)); have n3_ := Xam ((by rw [hg]; exact (Xbs (by repeat (first | (with_reducible first | exact HB.out | apply Xba | apply Xbn | apply Xbd) | exact HB.out))) : w.heap.size ≤ gb101)); clear HB; have HB := n0_; have BK101 := n1_; have GW101 := n2_; have GE101 := n3_; clear n0_ n1_ n2_ n3_; clear hb hbox hg; have hcz7_0 : w6.cell? ⟨gb101, 0, none⟩ = some (.int .i64 a0_0) := (Xbc BK101.out 0).trans rfl; have hcz7_1 : w6.cell? ⟨gb101, 1, none⟩ = some (.slice A0_1 l0_1.length c0_1) := (Xbc BK101.out 1).trans rfl; have hfz7_0 := Xbf BK101.out 0; have hfz7_1 := Xbf BK101.out 1) | ((with_reducible refine gate_callee (f := 141) rfl ?_); refine goesL_ (some 5) rfl rfl Try.func141 (by kernel_rfl) rfl #[.int .i64 a0_0, .int .i64 0, .int .i64 3] rfl (by (try simp only [List.map_toArray, List.map_cons, List.map_nil]); first | done | rfl | (simp only [List.length_drop, List.length_take]; rfl)) ?_; (with_reducible refine (impl_InRange.calls a0_0 0 3 false _ A2.out).mono ?_); rintro e w' ⟨rfl, ⟨nd, rfl⟩⟩; refine ⟨_, rfl, ?_⟩))
    go_ret
    exact ⟨by first | rfl | (simp [errW_none, errW_some] <;> rfl) | (simp [*, errW_none, errW_some] <;> rfl), by repeat (first | (with_reducible first | exact HB.out | apply Xba | apply Xbn | apply Xbd | refine Xbe ?_ GE101.out) | exact HB.out)⟩

end Go.Proofs.Ytgdfnoipcompkaa.Q
