-- written by a program of this session (qprint.py) over the kit's print.py
import Derived.Test.YtcdaiclfomekhaaQx0
namespace Go.Proofs.Ytcdaiclfomekhaa.Q
open Go.RowKit Go.Proofs.YtcdaiclfomekhaaW.PrintWords Go.Proofs.YtcdaiclfomekhaaW.PrintLast Go.Proofs.YtcdaiclfomekhaaW.PrintMore Go.Proofs.YtcdaiclfomekhaaW.PrintWords Go.Proofs.YtcdaiclfomekhaaW.PrintWords.QPW
attribute [local go_sem] max2_int min2_int max_two min_two max_three min_three max_four min_four   -- for this text's walks alone
set_option linter.unusedVariables false
set_option linter.unusedSimpArgs false

/-! ### spec_Max: function 94 -/
def spec_Max.f (a0 : Int) (a1 : Int) : Option (Int) := if a1 > a0 then (some a1) else (some a0)
set_option maxHeartbeats 8000000 in
set_option maxRecDepth 100000 in
theorem spec_Max.calls (a0 : Int) (a1 : Int) (r : Int) (w : World) (h : spec_Max.f a0 a1 = some r) :
    Calls Try.prog 94 #[.int .i64 a0, .int .i64 a1] w fun e w' => e = .returned (.int .i64 r) ∧ Drawn0 w w' := by
  have H : (if a1 > a0 then (some a1) else (some a0)) = some r := h
  clear h
  by_cases c3 : a1 > a0
  · rw [if_pos c3] at H
    have c3b0 : decide (a0 < a1) = true := decide_eq_true c3
    clear c3
    obtain rfl := Option.some.inj H
    go_enter Try.func94, Try.ntmps94
    go_wp2
    go_ret
    exact ⟨by first | rfl | (simp; done) | (simp [*]; done), by repeat (first | exact Drawn0.refl _ | apply Drawn0.step)⟩
  · rw [if_neg c3] at H
    have c3b0 : decide (a0 < a1) = false := decide_eq_false c3
    clear c3
    obtain rfl := Option.some.inj H
    go_enter Try.func94, Try.ntmps94
    go_wp2
    go_ret
    exact ⟨by first | rfl | (simp; done) | (simp [*]; done), by repeat (first | exact Drawn0.refl _ | apply Drawn0.step)⟩

end Go.Proofs.Ytcdaiclfomekhaa.Q
