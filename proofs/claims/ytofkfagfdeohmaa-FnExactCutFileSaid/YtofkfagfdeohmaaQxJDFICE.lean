-- written by a program of this session (qprint.py) over the kit's print.py
import Derived.Test.YtofkfagfdeohmaaQx0
import Derived.Test.YtofkfagfdeohmaaQxHHDHEL
import Derived.Test.YtofkfagfdeohmaaQxPHKAKH
import Derived.Test.YtofkfagfdeohmaaQxPKPPNL
namespace Go.Proofs.Ytofkfagfdeohmaa.Q
open Go.RowKit Go.Proofs.YtofkfagfdeohmaaW.PrintWords Go.Proofs.YtofkfagfdeohmaaW.PrintLast Go.Proofs.YtofkfagfdeohmaaW.PrintMore Go.Proofs.YtofkfagfdeohmaaW.PrintWords Go.Proofs.YtofkfagfdeohmaaW.PrintWords.QPW
attribute [local go_sem] max2_int min2_int max_two min_two max_three min_three max_four min_four   -- for this text's walks alone
set_option linter.unusedVariables false
set_option linter.unusedSimpArgs false

/-! ### impl_CountPieces: function 119 -/
def impl_CountPieces.f (a0 : Int) : Option (Int) := (impl_InRange.f a0 0 192).bind fun t101 => (if t101 = true then (if (wrap64 ((wrap64 (Int.tdiv (wrap64 (a0 + 12)) 12)) + (wrap64 (Int.tdiv (wrap64 ((wrap64 ((wrap64 (Int.tdiv (wrap64 (a0 + 12)) 12)) + 4)) - 1)) 4)))) > 16 then (some 0) else (some (wrap64 ((wrap64 (Int.tdiv (wrap64 (a0 + 12)) 12)) + (wrap64 (Int.tdiv (wrap64 ((wrap64 ((wrap64 (Int.tdiv (wrap64 (a0 + 12)) 12)) + 4)) - 1)) 4)))))) else (some 0))
set_option maxHeartbeats 8000000 in
set_option maxRecDepth 100000 in
theorem impl_CountPieces.calls (a0 : Int) (r : Int) (w : World) (h : impl_CountPieces.f a0 = some r) :
    Calls Try.prog 119 #[.int .i64 a0] w fun e w' => e = .returned (.int .i64 r) ∧ Drawn0 w w' := by
  have H : ((impl_InRange.f a0 0 192).bind fun t101 => (if t101 = true then (if (wrap64 ((wrap64 (Int.tdiv (wrap64 (a0 + 12)) 12)) + (wrap64 (Int.tdiv (wrap64 ((wrap64 ((wrap64 (Int.tdiv (wrap64 (a0 + 12)) 12)) + 4)) - 1)) 4)))) > 16 then (some 0) else (some (wrap64 ((wrap64 (Int.tdiv (wrap64 (a0 + 12)) 12)) + (wrap64 (Int.tdiv (wrap64 ((wrap64 ((wrap64 (Int.tdiv (wrap64 (a0 + 12)) 12)) + 4)) - 1)) 4)))))) else (some 0))) = some r := h
  clear h
  replace H := Option.bind_eq_some_iff.mp H
  obtain ⟨t101, A20, H⟩ := H
  replace H : (if t101 = true then (if (wrap64 ((wrap64 (Int.tdiv (wrap64 (a0 + 12)) 12)) + (wrap64 (Int.tdiv (wrap64 ((wrap64 ((wrap64 (Int.tdiv (wrap64 (a0 + 12)) 12)) + 4)) - 1)) 4)))) > 16 then (some 0) else (some (wrap64 ((wrap64 (Int.tdiv (wrap64 (a0 + 12)) 12)) + (wrap64 (Int.tdiv (wrap64 ((wrap64 ((wrap64 (Int.tdiv (wrap64 (a0 + 12)) 12)) + 4)) - 1)) 4)))))) else (some 0)) = some r := H
  have A2 := Xam A20
  clear A20
  by_cases c3 : t101 = true
  · subst c3
    have H1 : (if (wrap64 ((wrap64 (Int.tdiv (wrap64 (a0 + 12)) 12)) + (wrap64 (Int.tdiv (wrap64 ((wrap64 ((wrap64 (Int.tdiv (wrap64 (a0 + 12)) 12)) + 4)) - 1)) 4)))) > 16 then (some 0) else (some (wrap64 ((wrap64 (Int.tdiv (wrap64 (a0 + 12)) 12)) + (wrap64 (Int.tdiv (wrap64 ((wrap64 ((wrap64 (Int.tdiv (wrap64 (a0 + 12)) 12)) + 4)) - 1)) 4)))))) = some r := by rw [if_pos rfl] at H; exact H
    clear H
    have H := H1
    clear H1
    by_cases c4 : (wrap64 ((wrap64 (Int.tdiv (wrap64 (a0 + 12)) 12)) + (wrap64 (Int.tdiv (wrap64 ((wrap64 ((wrap64 (Int.tdiv (wrap64 (a0 + 12)) 12)) + 4)) - 1)) 4)))) > 16
    · rw [if_pos c4] at H
      have c4b0 : decide (16 < (wrap64 ((wrap64 (Int.tdiv (wrap64 (a0 + 12)) 12)) + (wrap64 (Int.tdiv (wrap64 ((wrap64 ((wrap64 (Int.tdiv (wrap64 (a0 + 12)) 12)) + 4)) - 1)) 4))))) = true := decide_eq_true c4
      clear c4
      obtain rfl := Option.some.inj H
      go_enter Try.func119, Try.ntmps119
      go_wp2_with (first | ((with_reducible refine gate_callee (f := 86) rfl ?_); refine goesL_ (some 6) rfl rfl Try.func86 (by kernel_rfl) rfl #[.int .i64 a0, .int .i64 0, .int .i64 192] rfl (by (try simp only [List.map_toArray, List.map_cons, List.map_nil]); first | done | rfl | (simp only [List.length_drop, List.length_take]; rfl)) ?_; (with_reducible refine (impl_InRange.calls a0 0 192 true _ A2.out).mono ?_); rintro e w' ⟨rfl, ⟨nd, rfl⟩⟩; refine ⟨_, rfl, ?_⟩))
      go_ret
      exact ⟨by first | rfl | (simp; done) | (simp [*]; done), by repeat (first | exact Drawn0.refl _ | apply Drawn0.step)⟩
    · rw [if_neg c4] at H
      have c4b0 : decide (16 < (wrap64 ((wrap64 (Int.tdiv (wrap64 (a0 + 12)) 12)) + (wrap64 (Int.tdiv (wrap64 ((wrap64 ((wrap64 (Int.tdiv (wrap64 (a0 + 12)) 12)) + 4)) - 1)) 4))))) = false := decide_eq_false c4
      clear c4
      obtain rfl := Option.some.inj H
      go_enter Try.func119, Try.ntmps119
      go_wp2_with (first | ((with_reducible refine gate_callee (f := 86) rfl ?_); refine goesL_ (some 6) rfl rfl Try.func86 (by kernel_rfl) rfl #[.int .i64 a0, .int .i64 0, .int .i64 192] rfl (by (try simp only [List.map_toArray, List.map_cons, List.map_nil]); first | done | rfl | (simp only [List.length_drop, List.length_take]; rfl)) ?_; (with_reducible refine (impl_InRange.calls a0 0 192 true _ A2.out).mono ?_); rintro e w' ⟨rfl, ⟨nd, rfl⟩⟩; refine ⟨_, rfl, ?_⟩))
      go_ret
      exact ⟨by first | rfl | (simp; done) | (simp [*]; done), by repeat (first | exact Drawn0.refl _ | apply Drawn0.step)⟩
  · replace c3 := Bool.eq_false_iff.mpr c3
    subst c3
    have H1 : (some 0) = some r := by rw [if_neg (show ¬ (false = true) by decide)] at H; exact H
    clear H
    have H := H1
    clear H1
    obtain rfl := Option.some.inj H
    go_enter Try.func119, Try.ntmps119
    go_wp2_with (first | ((with_reducible refine gate_callee (f := 86) rfl ?_); refine goesL_ (some 6) rfl rfl Try.func86 (by kernel_rfl) rfl #[.int .i64 a0, .int .i64 0, .int .i64 192] rfl (by (try simp only [List.map_toArray, List.map_cons, List.map_nil]); first | done | rfl | (simp only [List.length_drop, List.length_take]; rfl)) ?_; (with_reducible refine (impl_InRange.calls a0 0 192 false _ A2.out).mono ?_); rintro e w' ⟨rfl, ⟨nd, rfl⟩⟩; refine ⟨_, rfl, ?_⟩))
    go_ret
    exact ⟨by first | rfl | (simp; done) | (simp [*]; done), by repeat (first | exact Drawn0.refl _ | apply Drawn0.step)⟩

/-! ### impl_IsParity: function 120 -/
def impl_IsParity.f (a0 : Int) (a1 : Int) : Option (Bool) := (impl_InRange.f a0 0 (wrap64 (a1 - 1))).bind fun t101 => (if t101 = true then (if (Int.tmod a0 5) = 4 then (some true) else (some (a0 == (wrap64 (a1 - 1))))) else (some false))
set_option maxHeartbeats 8000000 in
set_option maxRecDepth 100000 in
theorem impl_IsParity.calls (a0 : Int) (a1 : Int) (r : Bool) (w : World) (h : impl_IsParity.f a0 a1 = some r) :
    Calls Try.prog 120 #[.int .i64 a0, .int .i64 a1] w fun e w' => e = .returned (.bool r) ∧ Drawn0 w w' := by
  have H : ((impl_InRange.f a0 0 (wrap64 (a1 - 1))).bind fun t101 => (if t101 = true then (if (Int.tmod a0 5) = 4 then (some true) else (some (a0 == (wrap64 (a1 - 1))))) else (some false))) = some r := h
  clear h
  replace H := Option.bind_eq_some_iff.mp H
  obtain ⟨t101, A30, H⟩ := H
  replace H : (if t101 = true then (if (Int.tmod a0 5) = 4 then (some true) else (some (a0 == (wrap64 (a1 - 1))))) else (some false)) = some r := H
  have A3 := Xam A30
  clear A30
  by_cases c4 : t101 = true
  · subst c4
    have H1 : (if (Int.tmod a0 5) = 4 then (some true) else (some (a0 == (wrap64 (a1 - 1))))) = some r := by rw [if_pos rfl] at H; exact H
    clear H
    have H := H1
    clear H1
    by_cases c5 : (Int.tmod a0 5) = 4
    · rw [if_pos c5] at H
      have c5b0 : ((Int.tmod a0 5) == 4) = true := beq_iff_eq.mpr c5
      have c5b1 : ((Int.tmod a0 5) != 4) = false := bne_eq_false_iff_eq.mpr c5
      clear c5
      obtain rfl := Option.some.inj H
      go_enter Try.func120, Try.ntmps120
      go_wp2_with (first | ((with_reducible refine gate_callee (f := 86) rfl ?_); refine goesL_ (some 8) rfl rfl Try.func86 (by kernel_rfl) rfl #[.int .i64 a0, .int .i64 0, .int .i64 (wrap64 (a1 - 1))] rfl (by (try simp only [List.map_toArray, List.map_cons, List.map_nil]); first | done | rfl | (simp only [List.length_drop, List.length_take]; rfl)) ?_; (with_reducible refine (impl_InRange.calls a0 0 (wrap64 (a1 - 1)) true _ A3.out).mono ?_); rintro e w' ⟨rfl, ⟨nd, rfl⟩⟩; refine ⟨_, rfl, ?_⟩))
      go_ret
      exact ⟨by first | rfl | (simp; done) | (simp [*]; done), by repeat (first | exact Drawn0.refl _ | apply Drawn0.step)⟩
    · rw [if_neg c5] at H
      have c5b0 : ((Int.tmod a0 5) == 4) = false := beq_eq_false_iff_ne.mpr c5
      have c5b1 : ((Int.tmod a0 5) != 4) = true := bne_iff_ne.mpr c5
      obtain rfl := Option.some.inj H
      go_enter Try.func120, Try.ntmps120
      go_wp2_with (first | ((with_reducible refine gate_callee (f := 86) rfl ?_); refine goesL_ (some 8) rfl rfl Try.func86 (by kernel_rfl) rfl #[.int .i64 a0, .int .i64 0, .int .i64 (wrap64 (a1 - 1))] rfl (by (try simp only [List.map_toArray, List.map_cons, List.map_nil]); first | done | rfl | (simp only [List.length_drop, List.length_take]; rfl)) ?_; (with_reducible refine (impl_InRange.calls a0 0 (wrap64 (a1 - 1)) true _ A3.out).mono ?_); rintro e w' ⟨rfl, ⟨nd, rfl⟩⟩; refine ⟨_, rfl, ?_⟩))
      go_ret
      exact ⟨by first | rfl | (simp; done) | (simp [*]; done), by repeat (first | exact Drawn0.refl _ | apply Drawn0.step)⟩
  · replace c4 := Bool.eq_false_iff.mpr c4
    subst c4
    have H1 : (some false) = some r := by rw [if_neg (show ¬ (false = true) by decide)] at H; exact H
    clear H
    have H := H1
    clear H1
    obtain rfl := Option.some.inj H
    go_enter Try.func120, Try.ntmps120
    go_wp2_with (first | ((with_reducible refine gate_callee (f := 86) rfl ?_); refine goesL_ (some 8) rfl rfl Try.func86 (by kernel_rfl) rfl #[.int .i64 a0, .int .i64 0, .int .i64 (wrap64 (a1 - 1))] rfl (by (try simp only [List.map_toArray, List.map_cons, List.map_nil]); first | done | rfl | (simp only [List.length_drop, List.length_take]; rfl)) ?_; (with_reducible refine (impl_InRange.calls a0 0 (wrap64 (a1 - 1)) false _ A3.out).mono ?_); rintro e w' ⟨rfl, ⟨nd, rfl⟩⟩; refine ⟨_, rfl, ?_⟩))
    go_ret
    exact ⟨by first | rfl | (simp; done) | (simp [*]; done), by repeat (first | exact Drawn0.refl _ | apply Drawn0.step)⟩

/-! ### impl_PadTo: function 121 -/
def impl_PadTo.f (l0 : List Int) (a1 : Int) : Option (List Int) := (slices_Clone_byte.f l0).bind fun t101 => ((impl_InRange.f a1 0 400).bind fun t104 => (if t104 = true then (if (t101.length : Int) < a1 then (if 0 ≤ (wrap64 (a1 - (t101.length : Int))) then (if t101.length + (wrap64 (a1 - (t101.length : Int)) : Int).toNat < 140737488355328 then (some (t101 ++ List.replicate (wrap64 (a1 - (t101.length : Int)) : Int).toNat 0)) else (none)) else (none)) else (some t101)) else (some t101)))
set_option maxHeartbeats 8000000 in
set_option maxRecDepth 100000 in
theorem impl_PadTo.calls (A0 : Option Addr) (c0 : Nat) (l0 : List Int) (a1 : Int) (r : List Int) (w : World) (hr0 : Kd.C (Kd.int .u8) w A0 l0.length l0) (hc0 : l0.length ≤ c0) (h : impl_PadTo.f l0 a1 = some r) :
    Calls Try.prog 121 #[.slice A0 l0.length c0, .int .i64 a1] w fun e w' => ∃ v0_ : Value, e = .returned (v0_) ∧ Kd.R (Kd.int .u8) 5 w' w.heap.size (fun _ => True) v0_ r ∧ Below w.heap.size w w' := by
  have HR0 := Xam hr0
  have HC0 := Xam hc0
  clear hr0 hc0
  have HB := Xam (Below.refl w.heap.size w)
  have H : ((slices_Clone_byte.f l0).bind fun t101 => ((impl_InRange.f a1 0 400).bind fun t104 => (if t104 = true then (if (t101.length : Int) < a1 then (if 0 ≤ (wrap64 (a1 - (t101.length : Int))) then (if t101.length + (wrap64 (a1 - (t101.length : Int)) : Int).toNat < 140737488355328 then (some (t101 ++ List.replicate (wrap64 (a1 - (t101.length : Int)) : Int).toNat 0)) else (none)) else (none)) else (some t101)) else (some t101)))) = some r := h
  clear h
  replace H := Option.bind_eq_some_iff.mp H
  obtain ⟨t101, A30, H⟩ := H
  replace H : ((impl_InRange.f a1 0 400).bind fun t104 => (if t104 = true then (if (t101.length : Int) < a1 then (if 0 ≤ (wrap64 (a1 - (t101.length : Int))) then (if t101.length + (wrap64 (a1 - (t101.length : Int)) : Int).toNat < 140737488355328 then (some (t101 ++ List.replicate (wrap64 (a1 - (t101.length : Int)) : Int).toNat 0)) else (none)) else (none)) else (some t101)) else (some t101))) = some r := H
  have A3 := Xam A30
  clear A30
  replace H := Option.bind_eq_some_iff.mp H
  obtain ⟨t104, A40, H⟩ := H
  replace H : (if t104 = true then (if (t101.length : Int) < a1 then (if 0 ≤ (wrap64 (a1 - (t101.length : Int))) then (if t101.length + (wrap64 (a1 - (t101.length : Int)) : Int).toNat < 140737488355328 then (some (t101 ++ List.replicate (wrap64 (a1 - (t101.length : Int)) : Int).toNat 0)) else (none)) else (none)) else (some t101)) else (some t101)) = some r := H
  have A4 := Xam A40
  clear A40
  by_cases c5 : t104 = true
  · subst c5
    have H1 : (if (t101.length : Int) < a1 then (if 0 ≤ (wrap64 (a1 - (t101.length : Int))) then (if t101.length + (wrap64 (a1 - (t101.length : Int)) : Int).toNat < 140737488355328 then (some (t101 ++ List.replicate (wrap64 (a1 - (t101.length : Int)) : Int).toNat 0)) else (none)) else (none)) else (some t101)) = some r := by rw [if_pos rfl] at H; exact H
    clear H
    have H := H1
    clear H1
    by_cases c6 : (t101.length : Int) < a1
    · rw [if_pos c6] at H
      have c6b0 : decide ((t101.length : Int) < a1) = true := decide_eq_true c6
      clear c6
      obtain ⟨ji7, hji7⟩ : ∃ j_ : Int, (wrap64 (a1 - (t101.length : Int))) = j_ := ⟨_, rfl⟩
      replace H : (if 0 ≤ (ji7) then (if t101.length + (ji7 : Int).toNat < 140737488355328 then (some (t101 ++ List.replicate (ji7 : Int).toNat 0)) else (none)) else (none)) = some r := by first | (rw [hji7] at H; exact H) | (simp only [hji7] at H ⊢; exact H)
      (try rw [hji7] at A3)
      (try rw [hji7] at A4)
      have hji7w : (IntKind.i64.wrap (a1 - (t101.length : Int))) = ji7 := (i64_w _).trans hji7
      by_cases c8 : 0 ≤ (ji7)
      · rw [if_pos c8] at H
        have c8b0 := eq_true c8
        have c8b1 : decide (0 ≤ (ji7)) = true := decide_eq_true c8
        clear c8
        by_cases c9 : t101.length + (ji7 : Int).toNat < 140737488355328
        · rw [if_pos c9] at H
          have LMc9 := Xam c9
          clear c9
          obtain ⟨y105, hy105⟩ : ∃ y_ : List Int, y_ = (t101 ++ List.replicate (ji7 : Int).toNat 0) := ⟨_, rfl⟩
          replace H : (some y105) = some r := by first | (rw [hy105]; with_reducible exact H) | (have H2_ := (Option.bind_some _ _).symm.trans H; rw [hy105]; with_reducible exact H2_) | (have H2_ := (Option.bind_some _ _).symm.trans H; with_reducible exact H2_) | with_reducible exact H | (rw [hy105]; exact H) | exact H
          have Ny105 := Xam hy105
          clear hy105
          obtain rfl := Option.some.inj H
          go_enter Try.func121, Try.ntmps121
          go_wp2_with (first | ((with_reducible refine gate_callee (f := 127) rfl ?_); refine goesL_ (some 7) rfl rfl Try.func127 (by kernel_rfl) rfl #[.slice A0 l0.length c0] rfl (by (try simp only [List.map_toArray, List.map_cons, List.map_nil]); first | done | rfl | (simp only [List.length_drop, List.length_take]; rfl)) ?_; (with_reducible refine (slices_Clone_byte.calls _ _ l0 t101 _ ?side1 ?side2 A3.out).mono ?_); (case side1 => repeat (first | exact HR0.out | (with_reducible refine Xca ?_ _) | (with_reducible refine Xcn ?_ _) | (with_reducible refine Xcd ?_))); (case side2 => exact HC0.out); rintro e w10 ⟨v102, rfl, ho0, hb⟩; refine ⟨_, rfl, ?_⟩; have n0_ := Xam (Kd.R_lower ho0 (Xbs (by repeat (first | (with_reducible first | exact HB.out | apply Xba | apply Xbn | apply Xbd) | exact HB.out)))); have n1_ := Xam (Xbt (by repeat (first | (with_reducible first | exact HB.out | apply Xba | apply Xbn | apply Xbd) | exact HB.out)) hb); clear HB; have HO103 := n0_; have HB := n1_; clear n0_ n1_; (try clear hb); (try clear hb2); (try clear hk); (try clear hi); (try clear ho0)) | ((with_reducible refine gate_callee (f := 86) rfl ?_); refine goesL_ (some 9) rfl rfl Try.func86 (by kernel_rfl) rfl #[.int .i64 a1, .int .i64 0, .int .i64 400] rfl (by (try simp only [List.map_toArray, List.map_cons, List.map_nil]); first | done | rfl | (simp only [List.length_drop, List.length_take]; rfl)) ?_; (with_reducible refine (impl_InRange.calls a1 0 400 true _ A4.out).mono ?_); rintro e w' ⟨rfl, ⟨nd, rfl⟩⟩; refine ⟨_, rfl, ?_⟩; obtain ⟨Ao11, co11, eo11⟩ := Kd.R_slice HO103.out; subst eo11) | (at_builtin; refine Kd.R_append_zeros (Kd.int .u8) (w0 := w) w.heap.size rfl (.tmp 16) (.tmp 20) 38 3 5 (.int .u8 0) 1 rfl Try.underlying38 Try.underlying3 info5 rfl (by decide) (by omega) (.slice Ao11 t101.length co11) t101 0 (ji7 : Int) (fun _ => True) rfl rfl rfl ?aF ?aO (of_decide_eq_true (by first | (with_reducible assumption) | assumption)) ?aB ?aS ?aL ?_; (case aB => exact (by repeat (first | (with_reducible first | exact HB.out | apply Xba | apply Xbn | apply Xbd) | exact HB.out))); (case aF => exact (fun _ _ => trivial)); (case aO => exact (by (with_reducible repeat (first | apply Xra | apply Xrn | apply Xrd)); exact HO103.out)); (case aS => exact (Xbs (by repeat (first | (with_reducible first | exact HB.out | apply Xba | apply Xbn | apply Xbd) | exact HB.out)))); (case aL => have := LMc9.out; omega); intro v106 w12 ho hb hg hat; rw [← Ny105.out] at ho; have n0_ := Xam (hb); have n1_ := Xam (ho); clear HB; clear HO103; have HB := n0_; have HO107 := n1_; clear n0_ n1_; clear ho hb hg hat))
          go_ret
          exact ⟨_, by first | rfl | (simp [errW_none, errW_some] <;> rfl) | (simp only [← hji7]; first | rfl | (simp [errW_none, errW_some] <;> rfl)) | (simp [*, errW_none, errW_some] <;> rfl), by (with_reducible repeat (first | apply Xra | apply Xrn | apply Xrd)); exact HO107.out, by repeat (first | (with_reducible first | exact HB.out | apply Xba | apply Xbn | apply Xbd) | exact HB.out)⟩
        · rw [if_neg c9] at H
          exact absurd H (by simp)
      · rw [if_neg c8] at H
        exact absurd H (by simp)
    · rw [if_neg c6] at H
      have c6b0 : decide ((t101.length : Int) < a1) = false := decide_eq_false c6
      clear c6
      obtain rfl := Option.some.inj H
      go_enter Try.func121, Try.ntmps121
      go_wp2_with (first | ((with_reducible refine gate_callee (f := 127) rfl ?_); refine goesL_ (some 7) rfl rfl Try.func127 (by kernel_rfl) rfl #[.slice A0 l0.length c0] rfl (by (try simp only [List.map_toArray, List.map_cons, List.map_nil]); first | done | rfl | (simp only [List.length_drop, List.length_take]; rfl)) ?_; (with_reducible refine (slices_Clone_byte.calls _ _ l0 t101 _ ?side1 ?side2 A3.out).mono ?_); (case side1 => repeat (first | exact HR0.out | (with_reducible refine Xca ?_ _) | (with_reducible refine Xcn ?_ _) | (with_reducible refine Xcd ?_))); (case side2 => exact HC0.out); rintro e w13 ⟨v102, rfl, ho0, hb⟩; refine ⟨_, rfl, ?_⟩; have n0_ := Xam (Kd.R_lower ho0 (Xbs (by repeat (first | (with_reducible first | exact HB.out | apply Xba | apply Xbn | apply Xbd) | exact HB.out)))); have n1_ := Xam (Xbt (by repeat (first | (with_reducible first | exact HB.out | apply Xba | apply Xbn | apply Xbd) | exact HB.out)) hb); clear HB; have HO103 := n0_; have HB := n1_; clear n0_ n1_; (try clear hb); (try clear hb2); (try clear hk); (try clear hi); (try clear ho0)) | ((with_reducible refine gate_callee (f := 86) rfl ?_); refine goesL_ (some 9) rfl rfl Try.func86 (by kernel_rfl) rfl #[.int .i64 a1, .int .i64 0, .int .i64 400] rfl (by (try simp only [List.map_toArray, List.map_cons, List.map_nil]); first | done | rfl | (simp only [List.length_drop, List.length_take]; rfl)) ?_; (with_reducible refine (impl_InRange.calls a1 0 400 true _ A4.out).mono ?_); rintro e w' ⟨rfl, ⟨nd, rfl⟩⟩; refine ⟨_, rfl, ?_⟩; obtain ⟨Ao14, co14, eo14⟩ := Kd.R_slice HO103.out; subst eo14))
      go_ret
      exact ⟨_, by first | rfl | (simp [errW_none, errW_some] <;> rfl) | (simp [*, errW_none, errW_some] <;> rfl), by (with_reducible repeat (first | apply Xra | apply Xrn | apply Xrd)); exact HO103.out, by repeat (first | (with_reducible first | exact HB.out | apply Xba | apply Xbn | apply Xbd) | exact HB.out)⟩
  · replace c5 := Bool.eq_false_iff.mpr c5
    subst c5
    have H1 : (some t101) = some r := by rw [if_neg (show ¬ (false = true) by decide)] at H; exact H
    clear H
    have H := H1
    clear H1
    obtain rfl := Option.some.inj H
    go_enter Try.func121, Try.ntmps121
    go_wp2_with (first | ((with_reducible refine gate_callee (f := 127) rfl ?_); refine goesL_ (some 7) rfl rfl Try.func127 (by kernel_rfl) rfl #[.slice A0 l0.length c0] rfl (by (try simp only [List.map_toArray, List.map_cons, List.map_nil]); first | done | rfl | (simp only [List.length_drop, List.length_take]; rfl)) ?_; (with_reducible refine (slices_Clone_byte.calls _ _ l0 t101 _ ?side1 ?side2 A3.out).mono ?_); (case side1 => repeat (first | exact HR0.out | (with_reducible refine Xca ?_ _) | (with_reducible refine Xcn ?_ _) | (with_reducible refine Xcd ?_))); (case side2 => exact HC0.out); rintro e w15 ⟨v102, rfl, ho0, hb⟩; refine ⟨_, rfl, ?_⟩; have n0_ := Xam (Kd.R_lower ho0 (Xbs (by repeat (first | (with_reducible first | exact HB.out | apply Xba | apply Xbn | apply Xbd) | exact HB.out)))); have n1_ := Xam (Xbt (by repeat (first | (with_reducible first | exact HB.out | apply Xba | apply Xbn | apply Xbd) | exact HB.out)) hb); clear HB; have HO103 := n0_; have HB := n1_; clear n0_ n1_; (try clear hb); (try clear hb2); (try clear hk); (try clear hi); (try clear ho0)) | ((with_reducible refine gate_callee (f := 86) rfl ?_); refine goesL_ (some 9) rfl rfl Try.func86 (by kernel_rfl) rfl #[.int .i64 a1, .int .i64 0, .int .i64 400] rfl (by (try simp only [List.map_toArray, List.map_cons, List.map_nil]); first | done | rfl | (simp only [List.length_drop, List.length_take]; rfl)) ?_; (with_reducible refine (impl_InRange.calls a1 0 400 false _ A4.out).mono ?_); rintro e w' ⟨rfl, ⟨nd, rfl⟩⟩; refine ⟨_, rfl, ?_⟩))
    go_ret
    exact ⟨_, by first | rfl | (simp [errW_none, errW_some] <;> rfl) | (simp [*, errW_none, errW_some] <;> rfl), by (with_reducible repeat (first | apply Xra | apply Xrn | apply Xrd)); exact HO103.out, by repeat (first | (with_reducible first | exact HB.out | apply Xba | apply Xbn | apply Xbd) | exact HB.out)⟩

/-! ### impl_CutFile: function 58 -/
mutual
def impl_CutFile.j0 : Nat → List Int → Int → Bool → Option ((List (S89)))
  | 0, _, _, _ => none
  | k + 1, x0, x3, x19 => if x19 = true then (some ([] : List (S89))) else ((some (([((x0.length : Int)) % 256] : List Int) : List Int)).bind fun y102 => (if y102.length + x0.length < 140737488355328 then (if 12 ≤ 281474976710656 then (impl_CutFile.l0 k x3 (y102 ++ x0) (([] : List (S89))) (List.replicate 12 0) x3 0) else (none)) else (none)))
def impl_CutFile.l0 : Nat → Int → List Int → List (S89) → List Int → Int → Int → Option ((List (S89)))
  | 0, _, _, _, _, _, _ => none
  | k + 1, x3, x4, x5, x6, x28, x29 => if x29 < x28 then ((impl_IsParity.f x29 x3).bind fun t114 => (if t114 = true then (if x5.length < 3518437208883 then (if 12 ≤ 281474976710656 then (impl_CutFile.l0 k x3 x4 (x5 ++ [(⟨x29, x3, x6⟩ : S89)]) (List.replicate 12 0) x28 (wrap64 (x29 + 1))) else (none)) else (none)) else (if 0 ≤ (mn (x4.length : Int) 12) then (if (mn (x4.length : Int) 12) ≤ (x4.length : Int) then ((impl_PadTo.f (x4.take ((mn (x4.length : Int) 12) : Int).toNat) 12).bind fun t125 => (if x5.length < 3518437208883 then ((impl_XorBytes.f k x6 t125).bind fun t134 => (impl_CutFile.l0 k x3 (x4.drop ((mn (x4.length : Int) 12) : Int).toNat) (x5 ++ [(⟨x29, x3, t125⟩ : S89)]) t134 x28 (wrap64 (x29 + 1)))) else (none))) else (none)) else (none)))) else (some x5)
end
def impl_CutFile.f (k : Nat) (l0 : List Int) : Option ((List (S89))) := (impl_CountPieces.f (l0.length : Int)).bind fun t101 => (if t101 = 0 then (impl_CutFile.j0 k l0 t101 true) else (impl_CutFile.j0 k l0 t101 (decide ((l0.length : Int) > 255))))
theorem impl_CutFile.mono_l : ∀ k, (∀ y0 y1 y2, LeO (impl_CutFile.j0 k y0 y1 y2) (impl_CutFile.j0 (k + 1) y0 y1 y2)) ∧ (∀ y0 y1 y2 y3 y4 y5, LeO (impl_CutFile.l0 k y0 y1 y2 y3 y4 y5) (impl_CutFile.l0 (k + 1) y0 y1 y2 y3 y4 y5))
  | 0 => ⟨fun _ _ _ r h => by simp [impl_CutFile.j0] at h, fun _ _ _ _ _ _ r h => by simp [impl_CutFile.l0] at h⟩
  | k + 1 => by
    obtain ⟨ih0, ih1⟩ := impl_CutFile.mono_l k
    refine ⟨?_, ?_⟩
    · intro y0 y1 y2
      unfold impl_CutFile.j0
      repeat' first
      | (with_reducible exact ih0 _ _ _)
      | (with_reducible exact ih1 _ _ _ _ _ _)
      | (with_reducible exact impl_XorBytes.mono _ _ _)
      | (with_reducible exact LeO.refl _)
      | (with_reducible exact LeO.none _)
      | (with_reducible refine LeO.ite ?_ ?_)
      | (with_reducible refine LeO.bind ?_ (fun _ => ?_))
      | exact ih0 _ _ _
      | exact ih1 _ _ _ _ _ _
      | exact impl_XorBytes.mono _ _ _
      | exact LeO.none _
      | refine LeO.ite ?_ ?_
      | refine LeO.bind ?_ (fun _ => ?_)
    · intro y0 y1 y2 y3 y4 y5
      unfold impl_CutFile.l0
      repeat' first
      | (with_reducible exact ih0 _ _ _)
      | (with_reducible exact ih1 _ _ _ _ _ _)
      | (with_reducible exact impl_XorBytes.mono _ _ _)
      | (with_reducible exact LeO.refl _)
      | (with_reducible exact LeO.none _)
      | (with_reducible refine LeO.ite ?_ ?_)
      | (with_reducible refine LeO.bind ?_ (fun _ => ?_))
      | exact ih0 _ _ _
      | exact ih1 _ _ _ _ _ _
      | exact impl_XorBytes.mono _ _ _
      | exact LeO.none _
      | refine LeO.ite ?_ ?_
      | refine LeO.bind ?_ (fun _ => ?_)
theorem impl_CutFile.mono : ∀ a0 k, LeO (impl_CutFile.f k a0) (impl_CutFile.f (k + 1) a0) := by
  intro a0 k
  obtain ⟨ih0, ih1⟩ := impl_CutFile.mono_l k
  unfold impl_CutFile.f
  repeat' first
      | (with_reducible exact ih0 _ _ _)
      | (with_reducible exact ih1 _ _ _ _ _ _)
      | (with_reducible exact impl_XorBytes.mono _ _ _)
      | (with_reducible exact LeO.refl _)
      | (with_reducible exact LeO.none _)
      | (with_reducible refine LeO.ite ?_ ?_)
      | (with_reducible refine LeO.bind ?_ (fun _ => ?_))
      | exact ih0 _ _ _
      | exact ih1 _ _ _ _ _ _
      | exact impl_XorBytes.mono _ _ _
      | exact LeO.none _
      | refine LeO.ite ?_ ?_
      | refine LeO.bind ?_ (fun _ => ?_)
set_option maxHeartbeats 8000000 in
set_option maxRecDepth 100000 in
theorem impl_CutFile.calls (k : Nat) (A0 : Option Addr) (c0 : Nat) (l0 : List Int) (r : List (S89)) (w : World) (hr0 : Kd.C (Kd.int .u8) w A0 l0.length l0) (hc0 : l0.length ≤ c0) (h : impl_CutFile.f k l0 = some r) :
    Calls Try.prog 58 #[.slice A0 l0.length c0] w fun e w' => ∃ v0_ : Value, e = .returned (v0_) ∧ Kd.S k89 89 w' w.heap.size (fun _ => True) v0_ r ∧ Below w.heap.size w w' := by
  have hu89 := Try.underlying89
  have HR0 := Xam hr0
  have HC0 := Xam hc0
  clear hr0 hc0
  have HB := Xam (Below.refl w.heap.size w)
  have H : ((impl_CountPieces.f (l0.length : Int)).bind fun t101 => (if t101 = 0 then (impl_CutFile.j0 k l0 t101 true) else (impl_CutFile.j0 k l0 t101 (decide ((l0.length : Int) > 255))))) = some r := h
  clear h
  replace H := Option.bind_eq_some_iff.mp H
  obtain ⟨t101, A20, H⟩ := H
  replace H : (if t101 = 0 then (impl_CutFile.j0 k l0 t101 true) else (impl_CutFile.j0 k l0 t101 (decide ((l0.length : Int) > 255)))) = some r := H
  have A2 := Xam A20
  clear A20
  have HC3 := Xam H
  clear H
  go_enter Try.func58, Try.ntmps58
  go_upto_region 2 with (first | ((with_reducible refine gate_callee (f := 119) rfl ?_); refine goesL_ (some 12) rfl rfl Try.func119 (by kernel_rfl) rfl #[.int .i64 (l0.length : Int)] rfl (by (try simp only [List.map_toArray, List.map_cons, List.map_nil]); first | done | rfl | (simp only [List.length_drop, List.length_take]; rfl)) ?_; (with_reducible refine (impl_CountPieces.calls (l0.length : Int) t101 _ A2.out).mono ?_); rintro e w' ⟨rfl, ⟨nd, rfl⟩⟩; refine ⟨_, rfl, ?_⟩))
  (try simp only [Act.put, List.setIfInBounds_toArray, List.set_cons_zero, List.set_cons_succ])
  go_cut [19] (fun v19 wc => ∃ (kq : Nat) (x19_2 : Bool), v19 = .bool x19_2 ∧ Aside0 (impl_CutFile.j0 kq l0 t101 x19_2 = some r) ∧ Aside0 (kq ≤ k) ∧ Aside0 (Below w.heap.size w wc))
  case first =>
    have H := HC3.out
    clear HC3
    by_cases c4 : t101 = 0
    · rw [if_pos c4] at H
      have c4b0 : (t101 == 0) = true := beq_iff_eq.mpr c4
      have c4b1 : (t101 != 0) = false := bne_eq_false_iff_eq.mpr c4
      clear c4
      (first | rw [c4b0] | (simp only [i64_w, i32_w]; rw [c4b0]) | skip)
      have H' := Xam H
      clear H
      go_wp2
      go_meet
      case rel => exact ⟨_, (true), (by first | rfl | (simp; done) | (simp [*]; done)), H', ⟨by first | omega | exact Nat.le_refl _⟩, ⟨by repeat (first | (with_reducible first | exact HB.out | apply Xba | apply Xbn | apply Xbd) | exact HB.out)⟩⟩
    · rw [if_neg c4] at H
      have c4b0 : (t101 == 0) = false := beq_eq_false_iff_ne.mpr c4
      have c4b1 : (t101 != 0) = true := bne_iff_ne.mpr c4
      (first | rw [c4b0] | (simp only [i64_w, i32_w]; rw [c4b0]) | skip)
      have H' := Xam H
      clear H
      go_wp2
      go_meet
      case rel => exact ⟨_, (decide ((l0.length : Int) > 255)), (by first | rfl | (simp; done) | (simp [*]; done)), H', ⟨by first | omega | exact Nat.le_refl _⟩, ⟨by repeat (first | (with_reducible first | exact HB.out | apply Xba | apply Xbn | apply Xbd) | exact HB.out)⟩⟩
  case rest =>
    clear HC3
    try clear c1
    try clear p2
    try clear c4
    try clear c4b0
    try clear c4b1
    obtain ⟨kq, x19_2, rfl, HA, HJ2, HB⟩ := hcut
    cases kq with
    | zero => exact absurd HA.out (by simp [impl_CutFile.j0])
    | succ kj2 =>
      have H := HA.out
      clear HA
      simp only [impl_CutFile.j0] at H
      by_cases c5 : x19_2 = true
      · subst c5
        have H1 : (some ([] : List (S89))) = some r := by rw [if_pos rfl] at H; exact H
        clear H
        have H := H1
        clear H1
        obtain rfl := Option.some.inj H
        go_wp2
        go_ret
        exact ⟨_, by first | rfl | (simp [errW_none, errW_some] <;> rfl) | (simp [*, errW_none, errW_some] <;> rfl), by first | exact Kd.S_nil _ _ _ _ _ | exact Kd.N_nil _ _ _ _ _ | exact Kd.V_nil _ _ _ _ _ | exact Kd.Q_nil _ _ _ _ _ | exact Kd.R_nil _ _ _ _ _, by repeat (first | (with_reducible first | exact HB.out | apply Xba | apply Xbn | apply Xbd) | exact HB.out)⟩
      · replace c5 := Bool.eq_false_iff.mpr c5
        subst c5
        have H1 : ((some (([((l0.length : Int)) % 256] : List Int) : List Int)).bind fun y102 => (if y102.length + l0.length < 140737488355328 then (if 12 ≤ 281474976710656 then (impl_CutFile.l0 kj2 t101 (y102 ++ l0) (([] : List (S89))) (List.replicate 12 0) t101 0) else (none)) else (none))) = some r := by rw [if_neg (show ¬ (false = true) by decide)] at H; exact H
        clear H
        have H := H1
        clear H1
        obtain ⟨y102, hy102⟩ : ∃ y_ : List Int, y_ = (([((l0.length : Int)) % 256] : List Int)) := ⟨_, rfl⟩
        replace H : (if y102.length + l0.length < 140737488355328 then (if 12 ≤ 281474976710656 then (impl_CutFile.l0 kj2 t101 (y102 ++ l0) (([] : List (S89))) (List.replicate 12 0) t101 0) else (none)) else (none)) = some r := by first | (rw [hy102]; with_reducible exact H) | (have H2_ := (Option.bind_some _ _).symm.trans H; rw [hy102]; with_reducible exact H2_) | (have H2_ := (Option.bind_some _ _).symm.trans H; with_reducible exact H2_) | with_reducible exact H | (rw [hy102]; exact H) | exact H
        have Ny102 := Xam hy102
        clear hy102
        by_cases c6 : y102.length + l0.length < 140737488355328
        · rw [if_pos c6] at H
          have LMc6 := Xam c6
          clear c6
          obtain ⟨y105, hy105⟩ : ∃ y_ : List Int, y_ = (y102 ++ l0) := ⟨_, rfl⟩
          replace H : (if 12 ≤ 281474976710656 then (impl_CutFile.l0 kj2 t101 y105 (([] : List (S89))) (List.replicate 12 0) t101 0) else (none)) = some r := by first | (rw [hy105]; with_reducible exact H) | (have H2_ := (Option.bind_some _ _).symm.trans H; rw [hy105]; with_reducible exact H2_) | (have H2_ := (Option.bind_some _ _).symm.trans H; with_reducible exact H2_) | with_reducible exact H | (rw [hy105]; exact H) | exact H
          have Ny105 := Xam hy105
          clear hy105
          obtain ⟨y108, hy108⟩ : ∃ y_ : List (S89), y_ = (([] : List (S89))) := ⟨_, rfl⟩
          replace H : (if 12 ≤ 281474976710656 then (impl_CutFile.l0 kj2 t101 y105 y108 (List.replicate 12 0) t101 0) else (none)) = some r := by first | (rw [hy108]; with_reducible exact H) | (have H2_ := (Option.bind_some _ _).symm.trans H; rw [hy108]; with_reducible exact H2_) | (have H2_ := (Option.bind_some _ _).symm.trans H; with_reducible exact H2_) | with_reducible exact H | (rw [hy108]; exact H) | exact H
          have Ny108 := Xam hy108
          clear hy108
          by_cases c7 : 12 ≤ 281474976710656
          · rw [if_pos c7] at H
            have c7b0 := eq_true c7
            have c7b1 : decide (12 ≤ 281474976710656) = true := decide_eq_true c7
            clear c7
            obtain ⟨y111, hy111⟩ : ∃ y_ : List Int, y_ = (List.replicate 12 0) := ⟨_, rfl⟩
            replace H : (impl_CutFile.l0 kj2 t101 y105 y108 y111 t101 0) = some r := by first | (rw [hy111]; with_reducible exact H) | (have H2_ := (Option.bind_some _ _).symm.trans H; rw [hy111]; with_reducible exact H2_) | (have H2_ := (Option.bind_some _ _).symm.trans H; with_reducible exact H2_) | with_reducible exact H | (rw [hy111]; exact H) | exact H
            have Ny111 := Xam hy111
            clear hy111
            have H' := Xam H
            clear H
            go_wp2_with (first | ((with_reducible refine gate_dst (N := 23) rfl ?_); (try (refine gate_guard (by rfl) ?_; dsimp only)); refine Kd.R_lit (Kd.int .u8) _ 5 ?hg (N := 23) ?hd (xs := ([((l0.length : Int)) % 256] : List Int)) (inner := [.int .u8 (((l0.length : Int)) % 256)]) (ok := fun _ => True) (okp := fun _ => True) ?hr ?hp (fun _ hk => hk) trivial (Below.refl _ _) (Nat.le_refl _) (by simp) ?_; (case hd => rfl); (case hg => rfl); (case hr => first | (go_simp; done) | (go_simp; rfl)); (case hp => exact (Reps.one (show Kd.M (Kd.int .u8) _ _ _ (((l0.length : Int)) % 256) [.int .u8 (((l0.length : Int)) % 256)] from rfl) (Reps.none _ _))); intro v103 w8 ho9 hb hg_ hnew_; clear hg_ hnew_; (first | rw [← Ny102.out] at ho9 | (simp only [Int.reduceToNat] at ho9; rw [← Ny102.out] at ho9)); have n0_ := Xam (Kd.R_lower ho9 (Xbs (by repeat (first | (with_reducible first | exact HB.out | apply Xba | apply Xbn | apply Xbd) | exact HB.out)))); have n1_ := Xam (Xbt (by repeat (first | (with_reducible first | exact HB.out | apply Xba | apply Xbn | apply Xbd) | exact HB.out)) hb); clear HB; have HO104 := n0_; have HB := n1_; clear n0_ n1_; clear hb ho9) | ((with_reducible refine gate_builtin (b := .append) (xs := #[.tmp 23, .tmp 24]) rfl ?_); (try (refine gate_guard (by rfl) ?_; dsimp only)); at_builtin; refine Kd.R_append_rows (Kd.int .u8) (w0 := w) w.heap.size rfl (.tmp 23) (.tmp 24) 38 5 (.int .u8 0) 1 rfl Try.underlying38 info5 rfl (by decide) (by omega) v103 y102 l0 _ _ _ (fun _ => True) (fun _ => False) rfl rfl ?aO ?aR (fun _ _ h => h) (fun _ h => h.elim) ?aF ?aB ?aS ?aL ?_; (case aR => repeat (first | exact (Kd.C_below HR0.out HB.out) | (with_reducible refine Xca ?_ _) | (with_reducible refine Xcn ?_ _) | (with_reducible refine Xcd ?_))); (case aB => exact (by repeat (first | (with_reducible first | exact HB.out | apply Xba | apply Xbn | apply Xbd) | exact HB.out))); (case aF => exact (fun _ _ => trivial)); (case aO => exact (by (with_reducible repeat (first | apply Xra | apply Xrn | apply Xrd)); exact HO104.out)); (case aS => exact (Xbs (by repeat (first | (with_reducible first | exact HB.out | apply Xba | apply Xbn | apply Xbd) | exact HB.out)))); (case aL => have := LMc6.out; omega); intro v106 w10 ho hb hg hat; rw [← Ny105.out] at ho; have n0_ := Xam (hb); have n1_ := Xam (ho); clear HB; clear HO104; have HB := n0_; have HO107 := n1_; clear n0_ n1_; clear ho hb hg hat) | ((with_reducible refine gate_dst (N := 26) rfl ?_); (try (refine gate_guard (by rfl) ?_; dsimp only)); refine Kd.S_lit k89 _ 89 ?hg (N := 26) ?hd (xs := ([] : List (S89))) (inner := []) (ok := fun _ => True) (okp := fun _ => True) ?hr ?hp (fun _ hk => hk) trivial (Below.refl _ _) (Nat.le_refl _) (by simp) ?_; (case hd => rfl); (case hg => rfl); (case hr => first | (go_simp; done) | (go_simp; rfl)); (case hp => exact (Reps.none _ _)); intro v109 w11 ho12 hb hg_ hnew_; clear hg_ hnew_; (first | rw [← Ny108.out] at ho12 | (simp only [Int.reduceToNat] at ho12; rw [← Ny108.out] at ho12)); have n0_ := Xam (Kd.R_below (by (with_reducible repeat (first | apply Xra | apply Xrn | apply Xrd)); exact HO107.out) hb); have n1_ := Xam (Kd.S_lower (Kd.S_new' ho12 (Kd.R_lt (by (with_reducible repeat (first | apply Xra | apply Xrn | apply Xrd)); exact HO107.out))) (Xbs (by repeat (first | (with_reducible first | exact HB.out | apply Xba | apply Xbn | apply Xbd) | exact HB.out)))); have n2_ := Xam (Xbt (by repeat (first | (with_reducible first | exact HB.out | apply Xba | apply Xbn | apply Xbd) | exact HB.out)) hb); clear HO107; clear HB; have HO107 := n0_; have HO110 := n1_; have HB := n2_; clear n0_ n1_ n2_; clear hb ho12) | ((with_reducible refine gate_dst (N := 27) rfl ?_); (try (refine gate_guard (by rfl) ?_; dsimp only)); refine Kd.R_make (Kd.int .u8) _ 5 rfl (N := 27) rfl 38 _ _ rfl 12 rfl rfl Try.underlying38 (.int .u8 0) 1 info5 rfl (by decide) (by omega) 0 (ok := fun _ => True) (okp := fun _ => True) rfl (fun _ hk => hk) trivial (by omega) (by omega) (Below.refl _ _) (Nat.le_refl _) ?_; intro v112 w13 ho14 hb hg_ hnew_; clear hg_ hnew_; (first | rw [← Ny111.out] at ho14 | (simp only [Int.reduceToNat] at ho14; rw [← Ny111.out] at ho14)); have n0_ := Xam (Kd.R_elder' (by (with_reducible repeat (first | apply Xra | apply Xrn | apply Xrd)); exact HO107.out) (Kd.R_base ho14) hb); have n1_ := Xam (Kd.S_elder' (by (with_reducible repeat (first | apply Kd.S_alloc | apply Kd.S_drewN | apply Kd.S_drew)); exact HO110.out) (Kd.R_base ho14) hb); have n2_ := Xam (Kd.R_lower (Kd.R_new' ho14 (Kd.R_lt (by (with_reducible repeat (first | apply Xra | apply Xrn | apply Xrd)); exact HO107.out))) (Xbs (by repeat (first | (with_reducible first | exact HB.out | apply Xba | apply Xbn | apply Xbd) | exact HB.out)))); have n3_ := Xam (Xbt (by repeat (first | (with_reducible first | exact HB.out | apply Xba | apply Xbn | apply Xbd) | exact HB.out)) hb); clear HO107; clear HO110; clear HB; have HO107 := n0_; have HO110 := n1_; have HO113 := n2_; have HB := n3_; clear n0_ n1_ n2_ n3_; clear hb ho14))
            go_loopg [4, 5, 6, 29] kj2 (fun kq v4 v5 v6 v29 w' => ∃ (x4_2 : List Int) (x5_2 : List (S89)) (x6_2 : List Int) (x29_2 : Int), v29 = .int .i64 x29_2 ∧ Aside0 (impl_CutFile.l0 kq t101 x4_2 x5_2 x6_2 t101 x29_2 = some r) ∧ Aside0 (kq ≤ kj2) ∧ Aside0 (Kd.Q (Kd.int .u8) 5 w' w.heap.size (fun k_ => some k_ ≠ (v6 : Value).ownBlock) v4 x4_2) ∧ Aside0 (Kd.S k89 89 w' w.heap.size (fun k_ => some k_ ≠ (v4 : Value).ownBlock ∧ some k_ ≠ (v6 : Value).ownBlock) v5 x5_2) ∧ Aside0 (Kd.R (Kd.int .u8) 5 w' w.heap.size (fun k_ => some k_ ≠ (v4 : Value).ownBlock) v6 x6_2) ∧ Aside0 (Below w.heap.size w w'))
            case atStart => exact ⟨(y105), (y108), (y111), (0), (by first | rfl | (simp; done) | (simp [*]; done)), H', ⟨Nat.le_refl _⟩, ⟨Kd.Q_of_R (by (with_reducible repeat (first | apply Xra | apply Xrn | apply Xrd)); exact Kd.R_mono HO107.out (fun _ hk => hk.2))⟩, ⟨by (with_reducible repeat (first | apply Kd.S_alloc | apply Kd.S_drewN | apply Kd.S_drew)); exact Kd.S_mono HO110.out (fun _ hk => ⟨hk.1.2, hk.2⟩)⟩, ⟨by (with_reducible repeat (first | apply Xra | apply Xrn | apply Xrd)); exact Kd.R_mono HO113.out (fun _ hk => hk.2)⟩, ⟨by repeat (first | (with_reducible first | exact HB.out | apply Xba | apply Xbn | apply Xbd) | exact HB.out)⟩⟩
            case round =>
              clear H'
              try clear c1
              try clear p2
              try clear c4
              try clear c4b0
              try clear c4b1
              try clear c5
              try clear c6
              try clear c7
              try clear c7b0
              try clear c7b1
              try clear c11
              try clear p2
              obtain ⟨x4_2, x5_2, x6_2, x29_2, rfl, HA, HK2, HO_4, HO_5, HO_6, HB⟩ := hrel
              cases gk with
              | zero => exact absurd HA.out (by simp [impl_CutFile.l0])
              | succ k2 =>
                have H := HA.out
                clear HA
                simp only [impl_CutFile.l0] at H
                by_cases c15 : x29_2 < t101
                · rw [if_pos c15] at H
                  have c15b0 : decide (x29_2 < t101) = true := decide_eq_true c15
                  clear c15
                  replace H := Option.bind_eq_some_iff.mp H
                  obtain ⟨t114, A160, H⟩ := H
                  replace H : (if t114 = true then (if x5_2.length < 3518437208883 then (if 12 ≤ 281474976710656 then (impl_CutFile.l0 k2 t101 x4_2 (x5_2 ++ [(⟨x29_2, t101, x6_2⟩ : S89)]) (List.replicate 12 0) t101 (wrap64 (x29_2 + 1))) else (none)) else (none)) else (if 0 ≤ (mn (x4_2.length : Int) 12) then (if (mn (x4_2.length : Int) 12) ≤ (x4_2.length : Int) then ((impl_PadTo.f (x4_2.take ((mn (x4_2.length : Int) 12) : Int).toNat) 12).bind fun t125 => (if x5_2.length < 3518437208883 then ((impl_XorBytes.f k2 x6_2 t125).bind fun t134 => (impl_CutFile.l0 k2 t101 (x4_2.drop ((mn (x4_2.length : Int) 12) : Int).toNat) (x5_2 ++ [(⟨x29_2, t101, t125⟩ : S89)]) t134 t101 (wrap64 (x29_2 + 1)))) else (none))) else (none)) else (none))) = some r := H
                  have A16 := Xam A160
                  clear A160
                  by_cases c17 : t114 = true
                  · subst c17
                    have H1 : (if x5_2.length < 3518437208883 then (if 12 ≤ 281474976710656 then (impl_CutFile.l0 k2 t101 x4_2 (x5_2 ++ [(⟨x29_2, t101, x6_2⟩ : S89)]) (List.replicate 12 0) t101 (wrap64 (x29_2 + 1))) else (none)) else (none)) = some r := by rw [if_pos rfl] at H; exact H
                    clear H
                    have H := H1
                    clear H1
                    by_cases c18 : x5_2.length < 3518437208883
                    · rw [if_pos c18] at H
                      have LMc18 := Xam c18
                      clear c18
                      obtain ⟨y115, hy115⟩ : ∃ y_ : List (S89), y_ = (x5_2 ++ [(⟨x29_2, t101, x6_2⟩ : S89)]) := ⟨_, rfl⟩
                      replace H : (if 12 ≤ 281474976710656 then (impl_CutFile.l0 k2 t101 x4_2 y115 (List.replicate 12 0) t101 (wrap64 (x29_2 + 1))) else (none)) = some r := by first | (rw [hy115]; with_reducible exact H) | (have H2_ := (Option.bind_some _ _).symm.trans H; rw [hy115]; with_reducible exact H2_) | (have H2_ := (Option.bind_some _ _).symm.trans H; with_reducible exact H2_) | with_reducible exact H | (rw [hy115]; exact H) | exact H
                      have Ny115 := Xam hy115
                      clear hy115
                      by_cases c19 : 12 ≤ 281474976710656
                      · rw [if_pos c19] at H
                        have c19b0 := eq_true c19
                        have c19b1 : decide (12 ≤ 281474976710656) = true := decide_eq_true c19
                        clear c19
                        obtain ⟨y118, hy118⟩ : ∃ y_ : List Int, y_ = (List.replicate 12 0) := ⟨_, rfl⟩
                        replace H : (impl_CutFile.l0 k2 t101 x4_2 y115 y118 t101 (wrap64 (x29_2 + 1))) = some r := by first | (rw [hy118]; with_reducible exact H) | (have H2_ := (Option.bind_some _ _).symm.trans H; rw [hy118]; with_reducible exact H2_) | (have H2_ := (Option.bind_some _ _).symm.trans H; with_reducible exact H2_) | with_reducible exact H | (rw [hy118]; exact H) | exact H
                        have Ny118 := Xam hy118
                        clear hy118
                        have H' := Xam H
                        clear H
                        go_wp2_with (first | ((with_reducible refine gate_callee (f := 120) rfl ?_); refine goesL_ (some 34) rfl rfl Try.func120 (by kernel_rfl) rfl #[.int .i64 x29_2, .int .i64 t101] rfl (by (try simp only [List.map_toArray, List.map_cons, List.map_nil]); first | done | rfl | (simp only [List.length_drop, List.length_take]; rfl)) ?_; (with_reducible refine (impl_IsParity.calls x29_2 t101 true _ A16.out).mono ?_); rintro e w' ⟨rfl, ⟨nd, rfl⟩⟩; refine ⟨_, rfl, ?_⟩; obtain ⟨Ao20, co20, eo20⟩ := Kd.R_slice HO_6.out; subst eo20) | ((with_reducible refine gate_builtin (b := .append) (xs := #[.tmp 35, .tmp 40]) rfl ?_); (try (refine gate_guard (by rfl) ?_; dsimp only)); at_builtin; refine Kd.S_append k89 (w0 := w) w.heap.size rfl (.tmp 35) (.tmp 40) 83 89 (.agg #[(.int .i64 0), (.int .i64 0), (.slice none 0 0)]) 40 rfl Try.underlying83 info89 rfl (by decide) (by omega) u5 x5_2 (⟨x29_2, t101, x6_2⟩ : S89) [.int .i64 x29_2, .int .i64 t101, .slice Ao20 x6_2.length co20] (fun k_ => some k_ ≠ (u4 : Value).ownBlock) (fun k_ => some k_ = (.slice Ao20 x6_2.length co20 : Value).ownBlock) rfl rfl ?aP (fun k_ hk_ => ((Kd.R_mono (ok' := fun k_ => ((fun k_ => some k_ ≠ (u4 : Value).ownBlock)) k_ ∧ some k_ ≠ (u5 : Value).ownBlock) (Kd.R_apart' (HO_6.out) (Kd.S_typed HO_5.out) (by decide)) (fun k_ hk => ⟨hk.1, hk.2⟩))).1 k_ hk_.symm) ?aF ?aO ?aB ?aS ?aL ?_; (case aP => exact k89_mkM _ _ _ (⟨x29_2, t101, x6_2⟩ : S89) (Kd.R_mono (Kd.R_tight rfl (Kd.R_mono (ok' := fun k_ => ((fun k_ => some k_ ≠ (u4 : Value).ownBlock)) k_ ∧ some k_ ≠ (u5 : Value).ownBlock) (Kd.R_apart' (HO_6.out) (Kd.S_typed HO_5.out) (by decide)) (fun k_ hk => ⟨hk.1, hk.2⟩))) (fun _ h_ => h_))); (case aB => exact (by repeat (first | (with_reducible first | exact HB.out | apply Xba | apply Xbn | apply Xbd) | exact HB.out))); (case aF => exact (fun k_ hk => Kd.fresh' (Kd.Q_lt (by (with_reducible repeat (first | apply Kd.Q_alloc | apply Kd.Q_drewN | apply Kd.Q_drew)); exact HO_4.out)) k_ hk)); (case aO => exact (by (with_reducible repeat (first | apply Kd.S_alloc | apply Kd.S_drewN | apply Kd.S_drew)); exact Kd.S_mono HO_5.out (fun k_ hk => ⟨hk.1, fun e_ => hk.2 e_⟩))); (case aS => exact (Xbs (by repeat (first | (with_reducible first | exact HB.out | apply Xba | apply Xbn | apply Xbd) | exact HB.out)))); (case aL => have := LMc18.out; omega); intro v116 w21 ho hb hg hat; rw [← Ny115.out] at ho; have n0_ := Xam (Kd.Q_over' (by (with_reducible repeat (first | apply Kd.Q_alloc | apply Kd.Q_drewN | apply Kd.Q_drew)); exact HO_4.out) (Kd.S_typed (by (with_reducible repeat (first | apply Kd.S_alloc | apply Kd.S_drewN | apply Kd.S_drew)); exact HO_5.out)) (by decide) hg); have n1_ := Xam (hb); have n2_ := Xam (ho); clear HO_4; clear HB; clear HO_5; clear HO_6; have HO_4 := n0_; have HB := n1_; have HO117 := n2_; clear n0_ n1_ n2_; clear ho hb hg hat) | ((with_reducible refine gate_dst (N := 42) rfl ?_); (try (refine gate_guard (by rfl) ?_; dsimp only)); refine Kd.R_make (Kd.int .u8) _ 5 rfl (N := 42) rfl 38 _ _ rfl 12 rfl rfl Try.underlying38 (.int .u8 0) 1 info5 rfl (by decide) (by omega) 0 (ok := fun _ => True) (okp := fun _ => True) rfl (fun _ hk => hk) trivial (by omega) (by omega) (Below.refl _ _) (Nat.le_refl _) ?_; intro v119 w22 ho23 hb hg_ hnew_; clear hg_ hnew_; (first | rw [← Ny118.out] at ho23 | (simp only [Int.reduceToNat] at ho23; rw [← Ny118.out] at ho23)); have n0_ := Xam (Kd.Q_elder' (by (with_reducible repeat (first | apply Kd.Q_alloc | apply Kd.Q_drewN | apply Kd.Q_drew)); exact HO_4.out) (Kd.R_base ho23) hb); have n1_ := Xam (Kd.S_elder' (by (with_reducible repeat (first | apply Kd.S_alloc | apply Kd.S_drewN | apply Kd.S_drew)); exact HO117.out) (Kd.R_base ho23) hb); have n2_ := Xam (Kd.R_lower (Kd.R_new' ho23 (Kd.Q_lt (by (with_reducible repeat (first | apply Kd.Q_alloc | apply Kd.Q_drewN | apply Kd.Q_drew)); exact HO_4.out))) (Xbs (by repeat (first | (with_reducible first | exact HB.out | apply Xba | apply Xbn | apply Xbd) | exact HB.out)))); have n3_ := Xam (Xbt (by repeat (first | (with_reducible first | exact HB.out | apply Xba | apply Xbn | apply Xbd) | exact HB.out)) hb); clear HO_4; clear HO117; clear HB; have HO_4 := n0_; have HO117 := n1_; have HO120 := n2_; have HB := n3_; clear n0_ n1_ n2_ n3_; clear hb ho23))
                        go_roundg k2
                        case measure => have := HJ2.out; have := HK2.out; omega
                        case rel => exact ⟨(x4_2), (y115), (y118), (wrap64 (x29_2 + 1)), (by first | rfl | (simp; done) | (simp [*]; done)), H', ⟨by have := HJ2.out; have := HK2.out; omega⟩, ⟨by (with_reducible repeat (first | apply Kd.Q_alloc | apply Kd.Q_drewN | apply Kd.Q_drew)); exact Kd.Q_mono HO_4.out (fun _ hk => hk.2)⟩, ⟨by (with_reducible repeat (first | apply Kd.S_alloc | apply Kd.S_drewN | apply Kd.S_drew)); exact HO117.out⟩, ⟨by (with_reducible repeat (first | apply Xra | apply Xrn | apply Xrd)); exact Kd.R_mono HO120.out (fun _ hk => hk.2)⟩, ⟨by repeat (first | (with_reducible first | exact HB.out | apply Xba | apply Xbn | apply Xbd) | exact HB.out)⟩⟩
                      · rw [if_neg c19] at H
                        exact absurd H (by simp)
                    · rw [if_neg c18] at H
                      exact absurd H (by simp)
                  · replace c17 := Bool.eq_false_iff.mpr c17
                    subst c17
                    have H1 : (if 0 ≤ (mn (x4_2.length : Int) 12) then (if (mn (x4_2.length : Int) 12) ≤ (x4_2.length : Int) then ((impl_PadTo.f (x4_2.take ((mn (x4_2.length : Int) 12) : Int).toNat) 12).bind fun t125 => (if x5_2.length < 3518437208883 then ((impl_XorBytes.f k2 x6_2 t125).bind fun t134 => (impl_CutFile.l0 k2 t101 (x4_2.drop ((mn (x4_2.length : Int) 12) : Int).toNat) (x5_2 ++ [(⟨x29_2, t101, t125⟩ : S89)]) t134 t101 (wrap64 (x29_2 + 1)))) else (none))) else (none)) else (none)) = some r := by rw [if_neg (show ¬ (false = true) by decide)] at H; exact H
                    clear H
                    have H := H1
                    clear H1
                    obtain ⟨ji24, hji24⟩ : ∃ j_ : Int, (mn (x4_2.length : Int) 12) = j_ := ⟨_, rfl⟩
                    replace H : (if 0 ≤ (ji24) then (if (ji24) ≤ (x4_2.length : Int) then ((impl_PadTo.f (x4_2.take ((ji24) : Int).toNat) 12).bind fun t125 => (if x5_2.length < 3518437208883 then ((impl_XorBytes.f k2 x6_2 t125).bind fun t134 => (impl_CutFile.l0 k2 t101 (x4_2.drop ((ji24) : Int).toNat) (x5_2 ++ [(⟨x29_2, t101, t125⟩ : S89)]) t134 t101 (wrap64 (x29_2 + 1)))) else (none))) else (none)) else (none)) = some r := by first | (rw [hji24] at H; exact H) | (simp only [hji24] at H ⊢; exact H)
                    (try rw [hji24] at A16)
                    have hji24_ : (if 12 < (x4_2.length : Int) then 12 else (x4_2.length : Int)) = ji24 := hji24
                    by_cases c25 : 0 ≤ (ji24)
                    · rw [if_pos c25] at H
                      have c25b0 := eq_true c25
                      have c25b1 : decide (0 ≤ (ji24)) = true := decide_eq_true c25
                      clear c25
                      by_cases c26 : (ji24) ≤ (x4_2.length : Int)
                      · rw [if_pos c26] at H
                        have c26b0 := eq_true c26
                        have c26b1 : decide ((ji24) ≤ (x4_2.length : Int)) = true := decide_eq_true c26
                        clear c26
                        obtain ⟨y121, hy121⟩ : ∃ y_ : List Int, y_ = (x4_2.take ((ji24) : Int).toNat) := ⟨_, rfl⟩
                        replace H : ((impl_PadTo.f y121 12).bind fun t125 => (if x5_2.length < 3518437208883 then ((impl_XorBytes.f k2 x6_2 t125).bind fun t134 => (impl_CutFile.l0 k2 t101 (x4_2.drop ((ji24) : Int).toNat) (x5_2 ++ [(⟨x29_2, t101, t125⟩ : S89)]) t134 t101 (wrap64 (x29_2 + 1)))) else (none))) = some r := by first | (rw [hy121]; with_reducible exact H) | (have H2_ := (Option.bind_some _ _).symm.trans H; rw [hy121]; with_reducible exact H2_) | (have H2_ := (Option.bind_some _ _).symm.trans H; with_reducible exact H2_) | with_reducible exact H | (rw [hy121]; exact H) | exact H
                        have Ny121 := Xam hy121
                        clear hy121
                        replace H := Option.bind_eq_some_iff.mp H
                        obtain ⟨t125, A270, H⟩ := H
                        replace H : (if x5_2.length < 3518437208883 then ((impl_XorBytes.f k2 x6_2 t125).bind fun t134 => (impl_CutFile.l0 k2 t101 (x4_2.drop ((ji24) : Int).toNat) (x5_2 ++ [(⟨x29_2, t101, t125⟩ : S89)]) t134 t101 (wrap64 (x29_2 + 1)))) else (none)) = some r := H
                        have A27 := Xam A270
                        clear A270
                        have c28b0 := eq_true (of_decide_eq_true (by first | (with_reducible assumption) | assumption) : (ji24) ≤ (x4_2.length : Int))
                        obtain ⟨y128, hy128⟩ : ∃ y_ : List Int, y_ = (x4_2.drop ((ji24) : Int).toNat) := ⟨_, rfl⟩
                        replace H : (if x5_2.length < 3518437208883 then ((impl_XorBytes.f k2 x6_2 t125).bind fun t134 => (impl_CutFile.l0 k2 t101 y128 (x5_2 ++ [(⟨x29_2, t101, t125⟩ : S89)]) t134 t101 (wrap64 (x29_2 + 1)))) else (none)) = some r := by first | (rw [hy128]; with_reducible exact H) | (have H2_ := (Option.bind_some _ _).symm.trans H; rw [hy128]; with_reducible exact H2_) | (have H2_ := (Option.bind_some _ _).symm.trans H; with_reducible exact H2_) | with_reducible exact H | (rw [hy128]; exact H) | exact H
                        have Ny128 := Xam hy128
                        clear hy128
                        by_cases c29 : x5_2.length < 3518437208883
                        · rw [if_pos c29] at H
                          have LMc29 := Xam c29
                          clear c29
                          obtain ⟨y131, hy131⟩ : ∃ y_ : List (S89), y_ = (x5_2 ++ [(⟨x29_2, t101, t125⟩ : S89)]) := ⟨_, rfl⟩
                          replace H : ((impl_XorBytes.f k2 x6_2 t125).bind fun t134 => (impl_CutFile.l0 k2 t101 y128 y131 t134 t101 (wrap64 (x29_2 + 1)))) = some r := by first | (rw [hy131]; with_reducible exact H) | (have H2_ := (Option.bind_some _ _).symm.trans H; rw [hy131]; with_reducible exact H2_) | (have H2_ := (Option.bind_some _ _).symm.trans H; with_reducible exact H2_) | with_reducible exact H | (rw [hy131]; exact H) | exact H
                          have Ny131 := Xam hy131
                          clear hy131
                          replace H := Option.bind_eq_some_iff.mp H
                          obtain ⟨t134, A300, H⟩ := H
                          replace H : (impl_CutFile.l0 k2 t101 y128 y131 t134 t101 (wrap64 (x29_2 + 1))) = some r := H
                          have A30 := Xam A300
                          clear A300
                          have H' := Xam H
                          clear H
                          go_wp2_with (first | ((with_reducible refine gate_callee (f := 120) rfl ?_); refine goesL_ (some 34) rfl rfl Try.func120 (by kernel_rfl) rfl #[.int .i64 x29_2, .int .i64 t101] rfl (by (try simp only [List.map_toArray, List.map_cons, List.map_nil]); first | done | rfl | (simp only [List.length_drop, List.length_take]; rfl)) ?_; (with_reducible refine (impl_IsParity.calls x29_2 t101 false _ A16.out).mono ?_); rintro e w' ⟨rfl, ⟨nd, rfl⟩⟩; refine ⟨_, rfl, ?_⟩; obtain ⟨Ao31, co31, eo31, _⟩ := Kd.Q_slice HO_4.out; subst eo31; have q32 : ((ji24) : Int) ≤ ((x4_2.length : Int) : Int) := of_decide_eq_true (by first | (with_reducible assumption) | assumption); obtain ⟨i032, hi032, _, hsz32, _⟩ := info_parts info5; have hroom32 : x4_2.length ≤ co31 := (Kd.Q_reads' HO_4.out).2.1; have hC32 : Kd.C (Kd.int .u8) _ Ao31 x4_2.length x4_2 := (Kd.Q_reads' HO_4.out).2.2; have hcut32 := cut_to (P := Try.prog) 38 5 .i64 Try.underlying38 hi032 Ao31 x4_2.length co31 (ji24) (of_decide_eq_true (by first | (with_reducible assumption) | assumption)) q32 hroom32; have hr32 := Kd.C_take (m := ((ji24) : Int).toNat) hC32 (by omega); have hy32 : y121.length = ((ji24) : Int).toNat := (by rw [Ny121.out, List.length_take]; omega); rw [← Ny121.out] at hr32; rw [← hy32] at hcut32; have HR124 := Xam hr32; have HC124 := Xam (show y121.length ≤ co31 from by omega); clear hr32 hC32 hroom32 hi032 hsz32; have KY32 := Xam hy32; clear hy32; have KL32 := Xam (show ((ji24) : Int).toNat ≤ x4_2.length from by omega); replace q32 := eq_true q32) | ((with_reducible refine gate_callee (f := 121) rfl ?_); refine goesL_ (some 49) rfl rfl Try.func121 (by kernel_rfl) rfl #[.slice Ao31 y121.length co31, .int .i64 12] rfl (by (try simp only [List.map_toArray, List.map_cons, List.map_nil]); first | done | rfl | (simp only [List.length_drop, List.length_take]; rfl)) ?_; (with_reducible refine (impl_PadTo.calls _ _ y121 12 t125 _ ?side1 ?side2 A27.out).mono ?_); (case side1 => repeat (first | exact (by repeat (first | (with_reducible exact HR124.out) | (with_reducible refine Xca ?_ _) | (with_reducible refine Xcn ?_ _) | (with_reducible refine Xcd ?_) | exact HR124.out)) | (with_reducible refine Xca ?_ _) | (with_reducible refine Xcn ?_ _) | (with_reducible refine Xcd ?_))); (case side2 => exact HC124.out); rintro e w33 ⟨v126, rfl, ho0, hb⟩; refine ⟨_, rfl, ?_⟩; have n0_ := Xam (Kd.Q_elder' (by (with_reducible repeat (first | apply Kd.Q_alloc | apply Kd.Q_drewN | apply Kd.Q_drew)); exact HO_4.out) (Kd.R_base ho0) hb); have n1_ := Xam (Kd.S_elder' (by (with_reducible repeat (first | apply Kd.S_alloc | apply Kd.S_drewN | apply Kd.S_drew)); exact HO_5.out) (Kd.R_base ho0) hb); have n2_ := Xam (Kd.R_elder' (by (with_reducible repeat (first | apply Xra | apply Xrn | apply Xrd)); exact HO_6.out) (Kd.R_base ho0) hb); have n3_ := Xam (Kd.R_lower (Kd.R_new' (Kd.R_new' ho0 (Kd.Q_lt (by (with_reducible repeat (first | apply Kd.Q_alloc | apply Kd.Q_drewN | apply Kd.Q_drew)); exact HO_4.out))) (Kd.R_lt (by (with_reducible repeat (first | apply Xra | apply Xrn | apply Xrd)); exact HO_6.out))) (Xbs (by repeat (first | (with_reducible first | exact HB.out | apply Xba | apply Xbn | apply Xbd) | exact HB.out)))); have n4_ := Xam (Kd.C_below (by repeat (first | (with_reducible exact HR124.out) | (with_reducible refine Xca ?_ _) | (with_reducible refine Xcn ?_ _) | (with_reducible refine Xcd ?_) | exact HR124.out)) hb); have n5_ := Xam (Xbt (by repeat (first | (with_reducible first | exact HB.out | apply Xba | apply Xbn | apply Xbd) | exact HB.out)) hb); clear HO_4; clear HO_5; clear HO_6; clear HR124; clear HB; have HO_4 := n0_; have HO_5 := n1_; have HO_6 := n2_; have HO127 := n3_; have HR124 := n4_; have HB := n5_; clear n0_ n1_ n2_ n3_ n4_ n5_; (try clear hb); (try clear hb2); (try clear hk); (try clear hi); (try clear ho0); have q34 : ((ji24) : Int) ≤ ((x4_2.length : Int) : Int) := of_decide_eq_true (by first | (with_reducible assumption) | assumption); obtain ⟨i034, hi034, _, hsz34, _⟩ := info_parts info5; have hcut34 := cut_from (P := Try.prog) 38 5 .i64 Try.underlying38 hi034 1 hsz34 Ao31 x4_2.length co31 (ji24) (of_decide_eq_true (by first | (with_reducible assumption) | assumption)) q34; have hr34 := Kd.Q_drop (k := ((ji24) : Int).toNat) HO_4.out (by omega); obtain ⟨A34, hA34⟩ : ∃ A1, A1 = (if co31 = ((ji24) : Int).toNat then Ao31 else (Ao31 : Option Addr).map (·.add (((ji24) : Int).toNat * 1))) := ⟨_, rfl⟩; obtain ⟨c34, hc34⟩ : ∃ c1, c1 = co31 - ((ji24) : Int).toNat := ⟨_, rfl⟩; have hy34 : y128.length = x4_2.length - ((ji24) : Int).toNat := (by rw [Ny128.out, List.length_drop]); rw [← Ny128.out] at hr34; rw [← hy34, ← hA34, ← hc34] at hcut34; replace hr34 : Kd.Q (Kd.int .u8) 5 w33 w.heap.size (fun k_ => some k_ ≠ (u6 : Value).ownBlock ∧ some k_ ≠ (v126 : Value).ownBlock) (.slice A34 y128.length c34) y128 := (by rw [hA34, hc34, hy34]; exact hr34); have HE34 : Aside0 ((Value.slice A34 y128.length c34).ownBlock = (.slice Ao31 x4_2.length co31 : Value).ownBlock) := ⟨by rw [hA34]; split <;> (cases (Ao31 : Option Addr) <;> first | rfl | (simp only [Option.map, Addr.add, Value.ownBlock]; split <;> rfl))⟩; clear hy34 hi034 hsz34 HO_4 hA34 hc34; have HO130 := Xam hr34; clear hr34; replace q34 := eq_true q34; have n_ := Xam (Kd.S_mono (ok' := fun k_ => ((some k_ ≠ (.slice A34 y128.length c34 : Value).ownBlock ∧ some k_ ≠ (u6 : Value).ownBlock) ∧ some k_ ≠ (v126 : Value).ownBlock)) HO_5.out (fun k_ hk => ⟨⟨(by rw [HE34.out]; exact hk.1.1), hk.1.2⟩, hk.2⟩)); clear HO_5; have HO_5 := n_; clear n_; have n_ := Xam (Kd.R_mono (ok' := fun k_ => (some k_ ≠ (.slice A34 y128.length c34 : Value).ownBlock ∧ some k_ ≠ (v126 : Value).ownBlock)) HO_6.out (fun k_ hk => ⟨(by rw [HE34.out]; exact hk.1), hk.2⟩)); clear HO_6; have HO_6 := n_; clear n_; have n_ := Xam (Kd.R_mono (ok' := fun k_ => ((True ∧ some k_ ≠ (.slice A34 y128.length c34 : Value).ownBlock) ∧ some k_ ≠ (u6 : Value).ownBlock)) HO127.out (fun k_ hk => ⟨⟨trivial, (by rw [HE34.out]; exact hk.1.2)⟩, hk.2⟩)); clear HO127; have HO127 := n_; clear n_; obtain ⟨Ao35, co35, eo35⟩ := Kd.R_slice HO127.out; subst eo35) | ((with_reducible refine gate_builtin (b := .append) (xs := #[.tmp 53, .tmp 58]) rfl ?_); (try (refine gate_guard (by rfl) ?_; dsimp only)); at_builtin; refine Kd.S_append k89 (w0 := w) w.heap.size rfl (.tmp 53) (.tmp 58) 83 89 (.agg #[(.int .i64 0), (.int .i64 0), (.slice none 0 0)]) 40 rfl Try.underlying83 info89 rfl (by decide) (by omega) u5 x5_2 (⟨x29_2, t101, t125⟩ : S89) [.int .i64 x29_2, .int .i64 t101, .slice Ao35 t125.length co35] (fun k_ => some k_ ≠ (.slice A34 y128.length c34 : Value).ownBlock ∧ some k_ ≠ (u6 : Value).ownBlock) (fun k_ => some k_ = (.slice Ao35 t125.length co35 : Value).ownBlock) rfl rfl ?aP (fun k_ hk_ => ((Kd.R_mono (ok' := fun k_ => ((fun k_ => some k_ ≠ (.slice A34 y128.length c34 : Value).ownBlock ∧ some k_ ≠ (u6 : Value).ownBlock)) k_ ∧ some k_ ≠ (u5 : Value).ownBlock) (Kd.R_apart' (HO127.out) (Kd.S_typed HO_5.out) (by decide)) (fun k_ hk => ⟨⟨hk.1.1.2, hk.1.2⟩, hk.2⟩))).1 k_ hk_.symm) ?aF ?aO ?aB ?aS ?aL ?_; (case aP => exact k89_mkM _ _ _ (⟨x29_2, t101, t125⟩ : S89) (Kd.R_mono (Kd.R_tight rfl (Kd.R_mono (ok' := fun k_ => ((fun k_ => some k_ ≠ (.slice A34 y128.length c34 : Value).ownBlock ∧ some k_ ≠ (u6 : Value).ownBlock)) k_ ∧ some k_ ≠ (u5 : Value).ownBlock) (Kd.R_apart' (HO127.out) (Kd.S_typed HO_5.out) (by decide)) (fun k_ hk => ⟨⟨hk.1.1.2, hk.1.2⟩, hk.2⟩))) (fun _ h_ => h_))); (case aB => exact (by repeat (first | (with_reducible first | exact HB.out | apply Xba | apply Xbn | apply Xbd) | exact HB.out))); (case aF => exact (fun k_ hk => ⟨Kd.fresh' (Kd.Q_lt (by (with_reducible repeat (first | apply Kd.Q_alloc | apply Kd.Q_drewN | apply Kd.Q_drew)); exact HO130.out)) k_ hk, Kd.fresh' (Kd.R_lt (by (with_reducible repeat (first | apply Xra | apply Xrn | apply Xrd)); exact HO_6.out)) k_ hk⟩)); (case aO => exact (by (with_reducible repeat (first | apply Kd.S_alloc | apply Kd.S_drewN | apply Kd.S_drew)); exact Kd.S_mono HO_5.out (fun k_ hk => ⟨⟨hk.1.1, hk.1.2⟩, fun e_ => hk.2 e_⟩))); (case aS => exact (Xbs (by repeat (first | (with_reducible first | exact HB.out | apply Xba | apply Xbn | apply Xbd) | exact HB.out)))); (case aL => have := LMc29.out; omega); intro v132 w36 ho hb hg hat; have g_HO127 := Xam (Kd.R_over' (by (with_reducible repeat (first | apply Xra | apply Xrn | apply Xrd)); exact HO127.out) (Kd.S_typed (by (with_reducible repeat (first | apply Kd.S_alloc | apply Kd.S_drewN | apply Kd.S_drew)); exact HO_5.out)) (by decide) hg); rw [← Ny131.out] at ho; have n0_ := Xam (Kd.Q_over' (by (with_reducible repeat (first | apply Kd.Q_alloc | apply Kd.Q_drewN | apply Kd.Q_drew)); exact HO130.out) (Kd.S_typed (by (with_reducible repeat (first | apply Kd.S_alloc | apply Kd.S_drewN | apply Kd.S_drew)); exact HO_5.out)) (by decide) hg); have n1_ := Xam (Kd.R_over' (by (with_reducible repeat (first | apply Xra | apply Xrn | apply Xrd)); exact HO_6.out) (Kd.S_typed (by (with_reducible repeat (first | apply Kd.S_alloc | apply Kd.S_drewN | apply Kd.S_drew)); exact HO_5.out)) (by decide) hg); have n2_ := Xam (hb); have n3_ := Xam (ho); clear HO130; clear HO_6; clear HB; clear HO_5; clear HO127; have HO127 := g_HO127; clear g_HO127; have HO130 := n0_; have HO_6 := n1_; have HB := n2_; have HO133 := n3_; clear n0_ n1_ n2_ n3_; clear ho hb hg hat; obtain ⟨Ao37, co37, eo37⟩ := Kd.R_slice HO_6.out; subst eo37) | ((with_reducible refine gate_callee (f := 113) rfl ?_); refine goesL_ (some 62) rfl rfl Try.func113 (by kernel_rfl) rfl #[.slice Ao37 x6_2.length co37, .slice Ao35 t125.length co35] rfl (by (try simp only [List.map_toArray, List.map_cons, List.map_nil]); first | done | rfl | (simp only [List.length_drop, List.length_take]; rfl)) ?_; (with_reducible refine (impl_XorBytes.calls k2 _ _ x6_2 _ _ t125 t134 _ ?side1 ?side2 ?side3 ?side4 A30.out).mono ?_); (case side1 => repeat (first | exact (Kd.R_reads' HO_6.out).2.2 | (with_reducible refine Xca ?_ _) | (with_reducible refine Xcn ?_ _) | (with_reducible refine Xcd ?_))); (case side2 => exact (Kd.R_reads' HO_6.out).2.1); (case side3 => repeat (first | exact (Kd.R_reads' HO127.out).2.2 | (with_reducible refine Xca ?_ _) | (with_reducible refine Xcn ?_ _) | (with_reducible refine Xcd ?_))); (case side4 => exact (Kd.R_reads' HO127.out).2.1); rintro e w38 ⟨v135, rfl, ho0, hb⟩; refine ⟨_, rfl, ?_⟩; have n0_ := Xam (Kd.Q_elder' (by (with_reducible repeat (first | apply Kd.Q_alloc | apply Kd.Q_drewN | apply Kd.Q_drew)); exact HO130.out) (Kd.R_base ho0) hb); have n1_ := Xam (Kd.R_elder' (by (with_reducible repeat (first | apply Xra | apply Xrn | apply Xrd)); exact HO_6.out) (Kd.R_base ho0) hb); have n2_ := Xam (Kd.S_elder' (by (with_reducible repeat (first | apply Kd.S_alloc | apply Kd.S_drewN | apply Kd.S_drew)); exact HO133.out) (Kd.R_base ho0) hb); have n3_ := Xam (Kd.R_lower (Kd.R_new' (Kd.R_new' ho0 (Kd.Q_lt (by (with_reducible repeat (first | apply Kd.Q_alloc | apply Kd.Q_drewN | apply Kd.Q_drew)); exact HO130.out))) (Kd.R_lt (by (with_reducible repeat (first | apply Xra | apply Xrn | apply Xrd)); exact HO_6.out))) (Xbs (by repeat (first | (with_reducible first | exact HB.out | apply Xba | apply Xbn | apply Xbd) | exact HB.out)))); have n4_ := Xam (Xbt (by repeat (first | (with_reducible first | exact HB.out | apply Xba | apply Xbn | apply Xbd) | exact HB.out)) hb); clear HO130; clear HO_6; clear HO133; clear HB; have HO130 := n0_; have HO_6 := n1_; have HO133 := n2_; have HO136 := n3_; have HB := n4_; clear n0_ n1_ n2_ n3_ n4_; (try clear hb); (try clear hb2); (try clear hk); (try clear hi); (try clear ho0)))
                          go_roundg k2
                          case measure => have := HJ2.out; have := HK2.out; omega
                          case rel => exact ⟨(y128), (y131), (t134), (wrap64 (x29_2 + 1)), (by first | rfl | (simp; done) | (simp [*]; done)), H', ⟨by have := HJ2.out; have := HK2.out; omega⟩, ⟨by (with_reducible repeat (first | apply Kd.Q_alloc | apply Kd.Q_drewN | apply Kd.Q_drew)); exact Kd.Q_mono HO130.out (fun _ hk => hk.2)⟩, ⟨by (with_reducible repeat (first | apply Kd.S_alloc | apply Kd.S_drewN | apply Kd.S_drew)); exact Kd.S_mono HO133.out (fun _ hk => ⟨hk.1.1, hk.2⟩)⟩, ⟨by (with_reducible repeat (first | apply Xra | apply Xrn | apply Xrd)); exact Kd.R_mono HO136.out (fun _ hk => hk.1.2)⟩, ⟨by repeat (first | (with_reducible first | exact HB.out | apply Xba | apply Xbn | apply Xbd) | exact HB.out)⟩⟩
                        · rw [if_neg c29] at H
                          exact absurd H (by simp)
                      · rw [if_neg c26] at H
                        exact absurd H (by simp)
                    · rw [if_neg c25] at H
                      exact absurd H (by simp)
                · rw [if_neg c15] at H
                  have c15b0 : decide (x29_2 < t101) = false := decide_eq_false c15
                  clear c15
                  obtain rfl := Option.some.inj H
                  go_wp2
                  go_ret
                  exact ⟨_, by first | rfl | (simp [errW_none, errW_some] <;> rfl) | (simp [*, errW_none, errW_some] <;> rfl), by (with_reducible repeat (first | apply Kd.S_alloc | apply Kd.S_drewN | apply Kd.S_drew)); exact Kd.S_mono HO_5.out (fun _ hk => trivial), by repeat (first | (with_reducible first | exact HB.out | apply Xba | apply Xbn | apply Xbd) | exact HB.out)⟩
          · rw [if_neg c7] at H
            exact absurd H (by simp)
        · rw [if_neg c6] at H
          exact absurd H (by simp)

end Go.Proofs.Ytofkfagfdeohmaa.Q
