-- written by a program of this session (qprint.py) over the kit's print.py
import Derived.Test.YtgdfnoipcompkaaQx0
import Derived.Test.YtgdfnoipcompkaaQxJGOEDE
import Derived.Test.YtgdfnoipcompkaaQxMMDCKI
import Derived.Test.YtgdfnoipcompkaaQxNHADOJ
namespace Go.Proofs.Ytgdfnoipcompkaa.Q
open Go.RowKit Go.Proofs.YtgdfnoipcompkaaW.PrintWords Go.Proofs.YtgdfnoipcompkaaW.PrintLast Go.Proofs.YtgdfnoipcompkaaW.PrintMore Go.Proofs.YtgdfnoipcompkaaW.PrintWords Go.Proofs.YtgdfnoipcompkaaW.PrintWords.QPW
attribute [local go_sem] max2_int min2_int max_two min_two max_three min_three max_four min_four   -- for this text's walks alone
set_option linter.unusedVariables false
set_option linter.unusedSimpArgs false

/-! ### laws_FnExactRemoveMember: function 4 -/
mutual
def laws_FnExactRemoveMember.j0 : Nat → Int → Int → Bool → Bool → Bool → Int → Int → Int → List Int → Int → Int → Int → List Int → Int → Int → Int → List Int → Int → Int → Int → List Int → Option (Bool)
  | 0, _, _, _, _, _, _, _, _, _, _, _, _, _, _, _, _, _, _, _, _, _ => none
  | k + 1, x1, x2, x9, x12, x48, x102000, x102001, x102002, x102003, x117000, x117001, x117002, x117003, x124000, x124001, x124002, x124003, x132000, x132001, x132002, x132003 => if x48 = true then (some false) else ((laws_toSenderGroup.f k x102000 x102001 x102002 x102003).bind fun bt133 => ((laws_eqSenderGroup.f k x124000 x124001 x124002 x124003 bt133.1 bt133.2.1 bt133.2.2.1 bt133.2.2.2).bind fun t139 => (if t139 = true then ((laws_markSenderGroup.f k x124000 x124001 x124002 x124003 1).bind fun bt140 => (if bt140.1 < 0 then (laws_FnExactRemoveMember.j1 k x1 x2 x9 true x102000 x102001 x102002 x102003 x117000 x117001 x117002 x117003 x132000 x132001 x132002 x132003) else ((laws_eqSenderGroup.f k x132000 x132001 x132002 x132003 x117000 x117001 x117002 x117003).bind fun t142 => (if t142 = true then (laws_FnExactRemoveMember.j1 k x1 x2 x9 (x12 != x9) x102000 x102001 x102002 x102003 x117000 x117001 x117002 x117003 x132000 x132001 x132002 x132003) else (laws_FnExactRemoveMember.j1 k x1 x2 x9 true x102000 x102001 x102002 x102003 x117000 x117001 x117002 x117003 x132000 x132001 x132002 x132003))))) else (some false))))
def laws_FnExactRemoveMember.j1 : Nat → Int → Int → Bool → Bool → Int → Int → Int → List Int → Int → Int → Int → List Int → Int → Int → Int → List Int → Option (Bool)
  | 0, _, _, _, _, _, _, _, _, _, _, _, _, _, _, _, _ => none
  | k + 1, x1, x2, x9, x69, x102000, x102001, x102002, x102003, x117000, x117001, x117002, x117003, x132000, x132001, x132002, x132003 => if x69 = true then (some false) else ((laws_markSenderGroup.f k x132000 x132001 x132002 x132003 1).bind fun bt143 => ((laws_heldSenderGroup.f k x132000 x132001 x132002 bt143.2 1).bind fun t145 => (if t145 < 0 then (some false) else (if t145 = bt143.1 then ((laws_toSenderGroup.f k x102000 x102001 x102002 x102003).bind fun bt146 => ((impl_RemoveMember.f k bt146.1 bt146.2.1 bt146.2.2.1 bt146.2.2.2 x1 x2).bind fun bt152 => ((laws_eqSenderGroup.f k bt152.1 bt152.2.1 bt152.2.2.1 bt152.2.2.2.1 x117000 x117001 x117002 x117003).bind fun t160 => (if t160 = true then (laws_FnExactRemoveMember.j2 k bt143.1 (bt152.2.2.2.2 != x9) x132000 x132001 x132002 bt143.2) else (laws_FnExactRemoveMember.j2 k bt143.1 true x132000 x132001 x132002 bt143.2))))) else (some false)))))
def laws_FnExactRemoveMember.j2 : Nat → Int → Bool → Int → Int → Int → List Int → Option (Bool)
  | 0, _, _, _, _, _, _ => none
  | k + 1, x14, x97, x132000, x132001, x132002, x132003 => if x97 = true then (some false) else ((laws_heldSenderGroup.f k x132000 x132001 x132002 x132003 1).bind fun t161 => (if t161 < 0 then (some false) else (if t161 = x14 then (some true) else (some false))))
end
def laws_FnExactRemoveMember.f (k : Nat) (a0_0 : Int) (a0_1 : Int) (a0_2 : Int) (l0_3 : List Int) (a1 : Int) (a2 : Int) : Option (Bool) := (laws_szSenderGroup.f a0_0 a0_1 a0_2 l0_3 1048576).bind fun t102 => (if t102 < 0 then (some true) else ((laws_toSenderGroup.f k a0_0 a0_1 a0_2 l0_3).bind fun bt103 => ((spec_RemoveMember.f k bt103.1 bt103.2.1 bt103.2.2.1 bt103.2.2.2 a1 a2).bind fun bt109 => ((laws_toSenderGroup.f k a0_0 a0_1 a0_2 l0_3).bind fun bt117 => ((impl_RemoveMember.f k bt117.1 bt117.2.1 bt117.2.2.1 bt117.2.2.2 a1 a2).bind fun bt124 => ((laws_eqSenderGroup.f k bt124.1 bt124.2.1 bt124.2.2.1 bt124.2.2.2.1 bt109.1 bt109.2.1 bt109.2.2.1 bt109.2.2.2.1).bind fun t132 => (if t132 = true then (laws_FnExactRemoveMember.j0 k a1 a2 bt109.2.2.2.2 bt124.2.2.2.2 (bt124.2.2.2.2 != bt109.2.2.2.2) a0_0 a0_1 a0_2 l0_3 bt109.1 bt109.2.1 bt109.2.2.1 bt109.2.2.2.1 bt117.1 bt117.2.1 bt117.2.2.1 bt117.2.2.2 bt124.1 bt124.2.1 bt124.2.2.1 bt124.2.2.2.1) else (laws_FnExactRemoveMember.j0 k a1 a2 bt109.2.2.2.2 bt124.2.2.2.2 true a0_0 a0_1 a0_2 l0_3 bt109.1 bt109.2.1 bt109.2.2.1 bt109.2.2.2.1 bt117.1 bt117.2.1 bt117.2.2.1 bt117.2.2.2 bt124.1 bt124.2.1 bt124.2.2.1 bt124.2.2.2.1))))))))
theorem laws_FnExactRemoveMember.mono_l : ∀ k, (∀ y0 y1 y2 y3 y4 y5 y6 y7 y8 y9 y10 y11 y12 y13 y14 y15 y16 y17 y18 y19 y20, LeO (laws_FnExactRemoveMember.j0 k y0 y1 y2 y3 y4 y5 y6 y7 y8 y9 y10 y11 y12 y13 y14 y15 y16 y17 y18 y19 y20) (laws_FnExactRemoveMember.j0 (k + 1) y0 y1 y2 y3 y4 y5 y6 y7 y8 y9 y10 y11 y12 y13 y14 y15 y16 y17 y18 y19 y20)) ∧ (∀ y0 y1 y2 y3 y4 y5 y6 y7 y8 y9 y10 y11 y12 y13 y14 y15, LeO (laws_FnExactRemoveMember.j1 k y0 y1 y2 y3 y4 y5 y6 y7 y8 y9 y10 y11 y12 y13 y14 y15) (laws_FnExactRemoveMember.j1 (k + 1) y0 y1 y2 y3 y4 y5 y6 y7 y8 y9 y10 y11 y12 y13 y14 y15)) ∧ (∀ y0 y1 y2 y3 y4 y5, LeO (laws_FnExactRemoveMember.j2 k y0 y1 y2 y3 y4 y5) (laws_FnExactRemoveMember.j2 (k + 1) y0 y1 y2 y3 y4 y5))
  | 0 => ⟨fun _ _ _ _ _ _ _ _ _ _ _ _ _ _ _ _ _ _ _ _ _ r h => by simp [laws_FnExactRemoveMember.j0] at h, fun _ _ _ _ _ _ _ _ _ _ _ _ _ _ _ _ r h => by simp [laws_FnExactRemoveMember.j1] at h, fun _ _ _ _ _ _ r h => by simp [laws_FnExactRemoveMember.j2] at h⟩
  | k + 1 => by
    obtain ⟨ih0, ih1, ih2⟩ := laws_FnExactRemoveMember.mono_l k
    refine ⟨?_, ?_, ?_⟩
    · intro y0 y1 y2 y3 y4 y5 y6 y7 y8 y9 y10 y11 y12 y13 y14 y15 y16 y17 y18 y19 y20
      unfold laws_FnExactRemoveMember.j0
      repeat' first
      | (with_reducible exact ih0 _ _ _ _ _ _ _ _ _ _ _ _ _ _ _ _ _ _ _ _ _)
      | (with_reducible exact ih1 _ _ _ _ _ _ _ _ _ _ _ _ _ _ _ _)
      | (with_reducible exact ih2 _ _ _ _ _ _)
      | (with_reducible exact impl_RemoveMember.mono _ _ _ _ _ _ _)
      | (with_reducible exact laws_eqSenderGroup.mono _ _ _ _ _ _ _ _ _)
      | (with_reducible exact laws_heldSenderGroup.mono _ _ _ _ _ _)
      | (with_reducible exact laws_markSenderGroup.mono _ _ _ _ _ _)
      | (with_reducible exact laws_toSenderGroup.mono _ _ _ _ _)
      | (with_reducible exact spec_RemoveMember.mono _ _ _ _ _ _ _)
      | (with_reducible exact LeO.refl _)
      | (with_reducible exact LeO.none _)
      | (with_reducible refine LeO.ite ?_ ?_)
      | (with_reducible refine LeO.bind ?_ (fun _ => ?_))
      | exact ih0 _ _ _ _ _ _ _ _ _ _ _ _ _ _ _ _ _ _ _ _ _
      | exact ih1 _ _ _ _ _ _ _ _ _ _ _ _ _ _ _ _
      | exact ih2 _ _ _ _ _ _
      | exact impl_RemoveMember.mono _ _ _ _ _ _ _
      | exact laws_eqSenderGroup.mono _ _ _ _ _ _ _ _ _
      | exact laws_heldSenderGroup.mono _ _ _ _ _ _
      | exact laws_markSenderGroup.mono _ _ _ _ _ _
      | exact laws_toSenderGroup.mono _ _ _ _ _
      | exact spec_RemoveMember.mono _ _ _ _ _ _ _
      | exact LeO.none _
      | refine LeO.ite ?_ ?_
      | refine LeO.bind ?_ (fun _ => ?_)
    · intro y0 y1 y2 y3 y4 y5 y6 y7 y8 y9 y10 y11 y12 y13 y14 y15
      unfold laws_FnExactRemoveMember.j1
      repeat' first
      | (with_reducible exact ih0 _ _ _ _ _ _ _ _ _ _ _ _ _ _ _ _ _ _ _ _ _)
      | (with_reducible exact ih1 _ _ _ _ _ _ _ _ _ _ _ _ _ _ _ _)
      | (with_reducible exact ih2 _ _ _ _ _ _)
      | (with_reducible exact impl_RemoveMember.mono _ _ _ _ _ _ _)
      | (with_reducible exact laws_eqSenderGroup.mono _ _ _ _ _ _ _ _ _)
      | (with_reducible exact laws_heldSenderGroup.mono _ _ _ _ _ _)
      | (with_reducible exact laws_markSenderGroup.mono _ _ _ _ _ _)
      | (with_reducible exact laws_toSenderGroup.mono _ _ _ _ _)
      | (with_reducible exact spec_RemoveMember.mono _ _ _ _ _ _ _)
      | (with_reducible exact LeO.refl _)
      | (with_reducible exact LeO.none _)
      | (with_reducible refine LeO.ite ?_ ?_)
      | (with_reducible refine LeO.bind ?_ (fun _ => ?_))
      | exact ih0 _ _ _ _ _ _ _ _ _ _ _ _ _ _ _ _ _ _ _ _ _
      | exact ih1 _ _ _ _ _ _ _ _ _ _ _ _ _ _ _ _
      | exact ih2 _ _ _ _ _ _
      | exact impl_RemoveMember.mono _ _ _ _ _ _ _
      | exact laws_eqSenderGroup.mono _ _ _ _ _ _ _ _ _
      | exact laws_heldSenderGroup.mono _ _ _ _ _ _
      | exact laws_markSenderGroup.mono _ _ _ _ _ _
      | exact laws_toSenderGroup.mono _ _ _ _ _
      | exact spec_RemoveMember.mono _ _ _ _ _ _ _
      | exact LeO.none _
      | refine LeO.ite ?_ ?_
      | refine LeO.bind ?_ (fun _ => ?_)
    · intro y0 y1 y2 y3 y4 y5
      unfold laws_FnExactRemoveMember.j2
      repeat' first
      | (with_reducible exact ih0 _ _ _ _ _ _ _ _ _ _ _ _ _ _ _ _ _ _ _ _ _)
      | (with_reducible exact ih1 _ _ _ _ _ _ _ _ _ _ _ _ _ _ _ _)
      | (with_reducible exact ih2 _ _ _ _ _ _)
      | (with_reducible exact impl_RemoveMember.mono _ _ _ _ _ _ _)
      | (with_reducible exact laws_eqSenderGroup.mono _ _ _ _ _ _ _ _ _)
      | (with_reducible exact laws_heldSenderGroup.mono _ _ _ _ _ _)
      | (with_reducible exact laws_markSenderGroup.mono _ _ _ _ _ _)
      | (with_reducible exact laws_toSenderGroup.mono _ _ _ _ _)
      | (with_reducible exact spec_RemoveMember.mono _ _ _ _ _ _ _)
      | (with_reducible exact LeO.refl _)
      | (with_reducible exact LeO.none _)
      | (with_reducible refine LeO.ite ?_ ?_)
      | (with_reducible refine LeO.bind ?_ (fun _ => ?_))
      | exact ih0 _ _ _ _ _ _ _ _ _ _ _ _ _ _ _ _ _ _ _ _ _
      | exact ih1 _ _ _ _ _ _ _ _ _ _ _ _ _ _ _ _
      | exact ih2 _ _ _ _ _ _
      | exact impl_RemoveMember.mono _ _ _ _ _ _ _
      | exact laws_eqSenderGroup.mono _ _ _ _ _ _ _ _ _
      | exact laws_heldSenderGroup.mono _ _ _ _ _ _
      | exact laws_markSenderGroup.mono _ _ _ _ _ _
      | exact laws_toSenderGroup.mono _ _ _ _ _
      | exact spec_RemoveMember.mono _ _ _ _ _ _ _
      | exact LeO.none _
      | refine LeO.ite ?_ ?_
      | refine LeO.bind ?_ (fun _ => ?_)
theorem laws_FnExactRemoveMember.mono : ∀ a0 a1 a2 a3 a4 a5 k, LeO (laws_FnExactRemoveMember.f k a0 a1 a2 a3 a4 a5) (laws_FnExactRemoveMember.f (k + 1) a0 a1 a2 a3 a4 a5) := by
  intro a0 a1 a2 a3 a4 a5 k
  obtain ⟨ih0, ih1, ih2⟩ := laws_FnExactRemoveMember.mono_l k
  unfold laws_FnExactRemoveMember.f
  repeat' first
      | (with_reducible exact ih0 _ _ _ _ _ _ _ _ _ _ _ _ _ _ _ _ _ _ _ _ _)
      | (with_reducible exact ih1 _ _ _ _ _ _ _ _ _ _ _ _ _ _ _ _)
      | (with_reducible exact ih2 _ _ _ _ _ _)
      | (with_reducible exact impl_RemoveMember.mono _ _ _ _ _ _ _)
      | (with_reducible exact laws_eqSenderGroup.mono _ _ _ _ _ _ _ _ _)
      | (with_reducible exact laws_heldSenderGroup.mono _ _ _ _ _ _)
      | (with_reducible exact laws_markSenderGroup.mono _ _ _ _ _ _)
      | (with_reducible exact laws_toSenderGroup.mono _ _ _ _ _)
      | (with_reducible exact spec_RemoveMember.mono _ _ _ _ _ _ _)
      | (with_reducible exact LeO.refl _)
      | (with_reducible exact LeO.none _)
      | (with_reducible refine LeO.ite ?_ ?_)
      | (with_reducible refine LeO.bind ?_ (fun _ => ?_))
      | exact ih0 _ _ _ _ _ _ _ _ _ _ _ _ _ _ _ _ _ _ _ _ _
      | exact ih1 _ _ _ _ _ _ _ _ _ _ _ _ _ _ _ _
      | exact ih2 _ _ _ _ _ _
      | exact impl_RemoveMember.mono _ _ _ _ _ _ _
      | exact laws_eqSenderGroup.mono _ _ _ _ _ _ _ _ _
      | exact laws_heldSenderGroup.mono _ _ _ _ _ _
      | exact laws_markSenderGroup.mono _ _ _ _ _ _
      | exact laws_toSenderGroup.mono _ _ _ _ _
      | exact spec_RemoveMember.mono _ _ _ _ _ _ _
      | exact LeO.none _
      | refine LeO.ite ?_ ?_
      | refine LeO.bind ?_ (fun _ => ?_)
set_option maxHeartbeats 8000000 in
set_option maxRecDepth 100000 in
theorem laws_FnExactRemoveMember.calls (k : Nat) (a0_0 : Int) (a0_1 : Int) (a0_2 : Int) (A0_3 : Option Addr) (c0_3 : Nat) (l0_3 : List Int) (a1 : Int) (a2 : Int) (r : Bool) (w : World) (hr0_3 : Kd.C (Kd.int .i64) w A0_3 l0_3.length l0_3) (hc0_3 : l0_3.length ≤ c0_3) (h : laws_FnExactRemoveMember.f k a0_0 a0_1 a0_2 l0_3 a1 a2 = some r) :
    Calls Try.prog 4 #[.agg #[.int .i64 a0_0, .int .i64 a0_1, .int .i64 a0_2, .slice A0_3 l0_3.length c0_3], .int .i64 a1, .int .i64 a2] w fun e w' => e = .returned (.bool r) ∧ Below w.heap.size w w' := by
  have hu45 := Try.underlying45
  have hu47 := Try.underlying47
  have HR0_3 := Xam hr0_3
  have HC0_3 := Xam hc0_3
  clear hr0_3 hc0_3
  have HB := Xam (Below.refl w.heap.size w)
  have H : ((laws_szSenderGroup.f a0_0 a0_1 a0_2 l0_3 1048576).bind fun t102 => (if t102 < 0 then (some true) else ((laws_toSenderGroup.f k a0_0 a0_1 a0_2 l0_3).bind fun bt103 => ((spec_RemoveMember.f k bt103.1 bt103.2.1 bt103.2.2.1 bt103.2.2.2 a1 a2).bind fun bt109 => ((laws_toSenderGroup.f k a0_0 a0_1 a0_2 l0_3).bind fun bt117 => ((impl_RemoveMember.f k bt117.1 bt117.2.1 bt117.2.2.1 bt117.2.2.2 a1 a2).bind fun bt124 => ((laws_eqSenderGroup.f k bt124.1 bt124.2.1 bt124.2.2.1 bt124.2.2.2.1 bt109.1 bt109.2.1 bt109.2.2.1 bt109.2.2.2.1).bind fun t132 => (if t132 = true then (laws_FnExactRemoveMember.j0 k a1 a2 bt109.2.2.2.2 bt124.2.2.2.2 (bt124.2.2.2.2 != bt109.2.2.2.2) a0_0 a0_1 a0_2 l0_3 bt109.1 bt109.2.1 bt109.2.2.1 bt109.2.2.2.1 bt117.1 bt117.2.1 bt117.2.2.1 bt117.2.2.2 bt124.1 bt124.2.1 bt124.2.2.1 bt124.2.2.2.1) else (laws_FnExactRemoveMember.j0 k a1 a2 bt109.2.2.2.2 bt124.2.2.2.2 true a0_0 a0_1 a0_2 l0_3 bt109.1 bt109.2.1 bt109.2.2.1 bt109.2.2.2.1 bt117.1 bt117.2.1 bt117.2.2.1 bt117.2.2.2 bt124.1 bt124.2.1 bt124.2.2.1 bt124.2.2.2.1))))))))) = some r := h
  clear h
  replace H := Option.bind_eq_some_iff.mp H
  obtain ⟨t102, A40, H⟩ := H
  replace H : (if t102 < 0 then (some true) else ((laws_toSenderGroup.f k a0_0 a0_1 a0_2 l0_3).bind fun bt103 => ((spec_RemoveMember.f k bt103.1 bt103.2.1 bt103.2.2.1 bt103.2.2.2 a1 a2).bind fun bt109 => ((laws_toSenderGroup.f k a0_0 a0_1 a0_2 l0_3).bind fun bt117 => ((impl_RemoveMember.f k bt117.1 bt117.2.1 bt117.2.2.1 bt117.2.2.2 a1 a2).bind fun bt124 => ((laws_eqSenderGroup.f k bt124.1 bt124.2.1 bt124.2.2.1 bt124.2.2.2.1 bt109.1 bt109.2.1 bt109.2.2.1 bt109.2.2.2.1).bind fun t132 => (if t132 = true then (laws_FnExactRemoveMember.j0 k a1 a2 bt109.2.2.2.2 bt124.2.2.2.2 (bt124.2.2.2.2 != bt109.2.2.2.2) a0_0 a0_1 a0_2 l0_3 bt109.1 bt109.2.1 bt109.2.2.1 bt109.2.2.2.1 bt117.1 bt117.2.1 bt117.2.2.1 bt117.2.2.2 bt124.1 bt124.2.1 bt124.2.2.1 bt124.2.2.2.1) else (laws_FnExactRemoveMember.j0 k a1 a2 bt109.2.2.2.2 bt124.2.2.2.2 true a0_0 a0_1 a0_2 l0_3 bt109.1 bt109.2.1 bt109.2.2.1 bt109.2.2.2.1 bt117.1 bt117.2.1 bt117.2.2.1 bt117.2.2.2 bt124.1 bt124.2.1 bt124.2.2.1 bt124.2.2.2.1)))))))) = some r := H
  have A4 := Xam A40
  clear A40
  by_cases c5 : t102 < 0
  · rw [if_pos c5] at H
    have c5b0 : decide (t102 < 0) = true := decide_eq_true c5
    clear c5
    obtain rfl := Option.some.inj H
    go_enter Try.func4, Try.ntmps4
    go_wp2_with (first | ((with_reducible refine gate_dst (N := 3) rfl ?_); refine box_event ?hg (N := 3) ?hd (cs := #[.int .i64 a0_0, .int .i64 a0_1, .int .i64 a0_2, .slice A0_3 l0_3.length c0_3]) (t := 45) ?hr ?_; (case hd => rfl); (case hg => rfl); (case hr => first | (go_simp; done) | (go_simp; rfl)); intro gb101 hg w6 hbox hb; have n0_ := Xam (Xbt (by repeat (first | (with_reducible first | exact HB.out | apply Xba | apply Xbn | apply Xbd) | exact HB.out)) hb); have n1_ := Xam (hbox); have n2_ := Xam ((by rw [hg]; exact (Xbs (by repeat (first | (with_reducible first | exact HB.out | apply Xba | apply Xbn | apply Xbd) | exact HB.out))) : w.heap.size ≤ gb101)); have n3_ := Xam ((by rw [hg]; exact (Xbs (by repeat (first | (with_reducible first | exact HB.out | apply Xba | apply Xbn | apply Xbd) | exact HB.out))) : w.heap.size ≤ gb101)); clear HB; have HB := n0_; have BK101 := n1_; have GW101 := n2_; have GE101 := n3_; clear n0_ n1_ n2_ n3_; clear hb hbox hg; have hcz7_0 : w6.cell? ⟨gb101, 0, none⟩ = some (.int .i64 a0_0) := (Xbc BK101.out 0).trans rfl; have hcz7_1 : w6.cell? ⟨gb101, 1, none⟩ = some (.int .i64 a0_1) := (Xbc BK101.out 1).trans rfl; have hcz7_2 : w6.cell? ⟨gb101, 2, none⟩ = some (.int .i64 a0_2) := (Xbc BK101.out 2).trans rfl; have hcz7_3 : w6.cell? ⟨gb101, 3, none⟩ = some (.slice A0_3 l0_3.length c0_3) := (Xbc BK101.out 3).trans rfl; have hfz7_0 := Xbf BK101.out 0; have hfz7_1 := Xbf BK101.out 1; have hfz7_2 := Xbf BK101.out 2; have hfz7_3 := Xbf BK101.out 3) | ((with_reducible refine gate_callee (f := 26) rfl ?_); refine goesL_ (some 20) rfl rfl Try.func26 (by kernel_rfl) rfl #[.agg #[.int .i64 a0_0, .int .i64 a0_1, .int .i64 a0_2, .slice A0_3 l0_3.length c0_3], .int .i64 1048576] rfl (by (try simp only [List.map_toArray, List.map_cons, List.map_nil]); first | done | rfl | (simp only [List.length_drop, List.length_take]; rfl)) ?_; (with_reducible refine (laws_szSenderGroup.calls a0_0 a0_1 a0_2 _ _ l0_3 1048576 t102 _ ?side1 ?side2 A4.out).mono ?_); (case side1 => repeat (first | exact (Kd.C_below HR0_3.out HB.out) | (with_reducible refine Xca ?_ _) | (with_reducible refine Xcn ?_ _) | (with_reducible refine Xcd ?_))); (case side2 => exact HC0_3.out); rintro e w8 ⟨rfl, hb⟩; refine ⟨_, rfl, ?_⟩; have n0_ := Xam (Xbb (g := gb101) (o := .cells #[.int .i64 a0_0, .int .i64 a0_1, .int .i64 a0_2, .slice A0_3 l0_3.length c0_3] 45 (0, 0)) (by (with_reducible repeat (first | refine Xkn ?_ _ | refine Xkd ?_ | refine Xka ?_ _)); exact BK101.out) hb); have n1_ := Xam (Xbt (by repeat (first | (with_reducible first | exact HB.out | apply Xba | apply Xbn | apply Xbd | refine Xbe ?_ GE101.out) | exact HB.out)) hb); clear BK101; clear HB; have BK101 := n0_; have HB := n1_; clear n0_ n1_; (try clear hb); (try clear hb2); (try clear hk); (try clear hi)))
    go_ret
    exact ⟨by first | rfl | (simp [errW_none, errW_some] <;> rfl) | (simp [*, errW_none, errW_some] <;> rfl), by repeat (first | (with_reducible first | exact HB.out | apply Xba | apply Xbn | apply Xbd | refine Xbe ?_ GE101.out) | exact HB.out)⟩
  · rw [if_neg c5] at H
    have c5b0 : decide (t102 < 0) = false := decide_eq_false c5
    clear c5
    replace H := Option.bind_eq_some_iff.mp H
    obtain ⟨⟨t103, t104, t105, t106⟩, A90, H⟩ := H
    replace H : ((spec_RemoveMember.f k t103 t104 t105 t106 a1 a2).bind fun bt109 => ((laws_toSenderGroup.f k a0_0 a0_1 a0_2 l0_3).bind fun bt117 => ((impl_RemoveMember.f k bt117.1 bt117.2.1 bt117.2.2.1 bt117.2.2.2 a1 a2).bind fun bt124 => ((laws_eqSenderGroup.f k bt124.1 bt124.2.1 bt124.2.2.1 bt124.2.2.2.1 bt109.1 bt109.2.1 bt109.2.2.1 bt109.2.2.2.1).bind fun t132 => (if t132 = true then (laws_FnExactRemoveMember.j0 k a1 a2 bt109.2.2.2.2 bt124.2.2.2.2 (bt124.2.2.2.2 != bt109.2.2.2.2) a0_0 a0_1 a0_2 l0_3 bt109.1 bt109.2.1 bt109.2.2.1 bt109.2.2.2.1 bt117.1 bt117.2.1 bt117.2.2.1 bt117.2.2.2 bt124.1 bt124.2.1 bt124.2.2.1 bt124.2.2.2.1) else (laws_FnExactRemoveMember.j0 k a1 a2 bt109.2.2.2.2 bt124.2.2.2.2 true a0_0 a0_1 a0_2 l0_3 bt109.1 bt109.2.1 bt109.2.2.1 bt109.2.2.2.1 bt117.1 bt117.2.1 bt117.2.2.1 bt117.2.2.2 bt124.1 bt124.2.1 bt124.2.2.1 bt124.2.2.2.1)))))) = some r := H
    have A9 := Xam A90
    clear A90
    replace H := Option.bind_eq_some_iff.mp H
    obtain ⟨⟨t109, t110, t111, t112, t115⟩, A100, H⟩ := H
    replace H : ((laws_toSenderGroup.f k a0_0 a0_1 a0_2 l0_3).bind fun bt117 => ((impl_RemoveMember.f k bt117.1 bt117.2.1 bt117.2.2.1 bt117.2.2.2 a1 a2).bind fun bt124 => ((laws_eqSenderGroup.f k bt124.1 bt124.2.1 bt124.2.2.1 bt124.2.2.2.1 t109 t110 t111 t112).bind fun t132 => (if t132 = true then (laws_FnExactRemoveMember.j0 k a1 a2 t115 bt124.2.2.2.2 (bt124.2.2.2.2 != t115) a0_0 a0_1 a0_2 l0_3 t109 t110 t111 t112 bt117.1 bt117.2.1 bt117.2.2.1 bt117.2.2.2 bt124.1 bt124.2.1 bt124.2.2.1 bt124.2.2.2.1) else (laws_FnExactRemoveMember.j0 k a1 a2 t115 bt124.2.2.2.2 true a0_0 a0_1 a0_2 l0_3 t109 t110 t111 t112 bt117.1 bt117.2.1 bt117.2.2.1 bt117.2.2.2 bt124.1 bt124.2.1 bt124.2.2.1 bt124.2.2.2.1))))) = some r := H
    have A10 := Xam A100
    clear A100
    replace H := Option.bind_eq_some_iff.mp H
    obtain ⟨⟨t117, t118, t119, t120⟩, A110, H⟩ := H
    replace H : ((impl_RemoveMember.f k t117 t118 t119 t120 a1 a2).bind fun bt124 => ((laws_eqSenderGroup.f k bt124.1 bt124.2.1 bt124.2.2.1 bt124.2.2.2.1 t109 t110 t111 t112).bind fun t132 => (if t132 = true then (laws_FnExactRemoveMember.j0 k a1 a2 t115 bt124.2.2.2.2 (bt124.2.2.2.2 != t115) a0_0 a0_1 a0_2 l0_3 t109 t110 t111 t112 t117 t118 t119 t120 bt124.1 bt124.2.1 bt124.2.2.1 bt124.2.2.2.1) else (laws_FnExactRemoveMember.j0 k a1 a2 t115 bt124.2.2.2.2 true a0_0 a0_1 a0_2 l0_3 t109 t110 t111 t112 t117 t118 t119 t120 bt124.1 bt124.2.1 bt124.2.2.1 bt124.2.2.2.1)))) = some r := H
    have A11 := Xam A110
    clear A110
    replace H := Option.bind_eq_some_iff.mp H
    obtain ⟨⟨t124, t125, t126, t127, t130⟩, A120, H⟩ := H
    replace H : ((laws_eqSenderGroup.f k t124 t125 t126 t127 t109 t110 t111 t112).bind fun t132 => (if t132 = true then (laws_FnExactRemoveMember.j0 k a1 a2 t115 t130 (t130 != t115) a0_0 a0_1 a0_2 l0_3 t109 t110 t111 t112 t117 t118 t119 t120 t124 t125 t126 t127) else (laws_FnExactRemoveMember.j0 k a1 a2 t115 t130 true a0_0 a0_1 a0_2 l0_3 t109 t110 t111 t112 t117 t118 t119 t120 t124 t125 t126 t127))) = some r := H
    have A12 := Xam A120
    clear A120
    have HC13 := Xam H
    clear H
    go_enter Try.func4, Try.ntmps4
    go_upto_region 8 with (first | ((with_reducible refine gate_dst (N := 3) rfl ?_); refine box_event ?hg (N := 3) ?hd (cs := #[.int .i64 a0_0, .int .i64 a0_1, .int .i64 a0_2, .slice A0_3 l0_3.length c0_3]) (t := 45) ?hr ?_; (case hd => rfl); (case hg => rfl); (case hr => first | (go_simp; done) | (go_simp; rfl)); intro gb101 hg w14 hbox hb; have n0_ := Xam (Xbt (by repeat (first | (with_reducible first | exact HB.out | apply Xba | apply Xbn | apply Xbd) | exact HB.out)) hb); have n1_ := Xam (hbox); have n2_ := Xam ((by rw [hg]; exact (Xbs (by repeat (first | (with_reducible first | exact HB.out | apply Xba | apply Xbn | apply Xbd) | exact HB.out))) : w.heap.size ≤ gb101)); have n3_ := Xam ((by rw [hg]; exact (Xbs (by repeat (first | (with_reducible first | exact HB.out | apply Xba | apply Xbn | apply Xbd) | exact HB.out))) : w.heap.size ≤ gb101)); clear HB; have HB := n0_; have BK101 := n1_; have GW101 := n2_; have GE101 := n3_; clear n0_ n1_ n2_ n3_; clear hb hbox hg; have hcz15_0 : w14.cell? ⟨gb101, 0, none⟩ = some (.int .i64 a0_0) := (Xbc BK101.out 0).trans rfl; have hcz15_1 : w14.cell? ⟨gb101, 1, none⟩ = some (.int .i64 a0_1) := (Xbc BK101.out 1).trans rfl; have hcz15_2 : w14.cell? ⟨gb101, 2, none⟩ = some (.int .i64 a0_2) := (Xbc BK101.out 2).trans rfl; have hcz15_3 : w14.cell? ⟨gb101, 3, none⟩ = some (.slice A0_3 l0_3.length c0_3) := (Xbc BK101.out 3).trans rfl; have hfz15_0 := Xbf BK101.out 0; have hfz15_1 := Xbf BK101.out 1; have hfz15_2 := Xbf BK101.out 2; have hfz15_3 := Xbf BK101.out 3) | ((with_reducible refine gate_callee (f := 26) rfl ?_); refine goesL_ (some 20) rfl rfl Try.func26 (by kernel_rfl) rfl #[.agg #[.int .i64 a0_0, .int .i64 a0_1, .int .i64 a0_2, .slice A0_3 l0_3.length c0_3], .int .i64 1048576] rfl (by (try simp only [List.map_toArray, List.map_cons, List.map_nil]); first | done | rfl | (simp only [List.length_drop, List.length_take]; rfl)) ?_; (with_reducible refine (laws_szSenderGroup.calls a0_0 a0_1 a0_2 _ _ l0_3 1048576 t102 _ ?side1 ?side2 A4.out).mono ?_); (case side1 => repeat (first | exact (Kd.C_below HR0_3.out HB.out) | (with_reducible refine Xca ?_ _) | (with_reducible refine Xcn ?_ _) | (with_reducible refine Xcd ?_))); (case side2 => exact HC0_3.out); rintro e w16 ⟨rfl, hb⟩; refine ⟨_, rfl, ?_⟩; have n0_ := Xam (Xbb (g := gb101) (o := .cells #[.int .i64 a0_0, .int .i64 a0_1, .int .i64 a0_2, .slice A0_3 l0_3.length c0_3] 45 (0, 0)) (by (with_reducible repeat (first | refine Xkn ?_ _ | refine Xkd ?_ | refine Xka ?_ _)); exact BK101.out) hb); have n1_ := Xam (Xbt (by repeat (first | (with_reducible first | exact HB.out | apply Xba | apply Xbn | apply Xbd | refine Xbe ?_ GE101.out) | exact HB.out)) hb); clear BK101; clear HB; have BK101 := n0_; have HB := n1_; clear n0_ n1_; (try clear hb); (try clear hb2); (try clear hk); (try clear hi); have hcz17_0 : w16.cell? ⟨gb101, 0, none⟩ = some (.int .i64 a0_0) := (Xbc BK101.out 0).trans rfl; have hcz17_1 : w16.cell? ⟨gb101, 1, none⟩ = some (.int .i64 a0_1) := (Xbc BK101.out 1).trans rfl; have hcz17_2 : w16.cell? ⟨gb101, 2, none⟩ = some (.int .i64 a0_2) := (Xbc BK101.out 2).trans rfl; have hcz17_3 : w16.cell? ⟨gb101, 3, none⟩ = some (.slice A0_3 l0_3.length c0_3) := (Xbc BK101.out 3).trans rfl; have hfz17_0 := Xbf BK101.out 0; have hfz17_1 := Xbf BK101.out 1; have hfz17_2 := Xbf BK101.out 2; have hfz17_3 := Xbf BK101.out 3) | ((with_reducible refine gate_callee (f := 28) rfl ?_); refine goesL_ (some 25) rfl rfl Try.func28 (by kernel_rfl) rfl #[.agg #[.int .i64 a0_0, .int .i64 a0_1, .int .i64 a0_2, .slice A0_3 l0_3.length c0_3]] rfl (by (try simp only [List.map_toArray, List.map_cons, List.map_nil]); first | done | rfl | (simp only [List.length_drop, List.length_take]; rfl)) ?_; (with_reducible refine (laws_toSenderGroup.calls k a0_0 a0_1 a0_2 _ _ l0_3 t103 t104 t105 t106 _ ?side1 ?side2 A9.out).mono ?_); (case side1 => repeat (first | exact (Kd.C_below HR0_3.out HB.out) | (with_reducible refine Xca ?_ _) | (with_reducible refine Xcn ?_ _) | (with_reducible refine Xcd ?_))); (case side2 => exact HC0_3.out); rintro e w18 ⟨v107, rfl, ho0, hb⟩; refine ⟨_, rfl, ?_⟩; have n0_ := Xam (Kd.R_lower ho0 (Xbs (by repeat (first | (with_reducible first | exact HB.out | apply Xba | apply Xbn | apply Xbd | refine Xbe ?_ GE101.out) | exact HB.out)))); have n1_ := Xam (Xbb (g := gb101) (o := .cells #[.int .i64 a0_0, .int .i64 a0_1, .int .i64 a0_2, .slice A0_3 l0_3.length c0_3] 45 (0, 0)) (by (with_reducible repeat (first | refine Xkn ?_ _ | refine Xkd ?_ | refine Xka ?_ _)); exact BK101.out) hb); have n2_ := Xam (Xbt (by repeat (first | (with_reducible first | exact HB.out | apply Xba | apply Xbn | apply Xbd | refine Xbe ?_ GE101.out) | exact HB.out)) hb); clear BK101; clear HB; have HO108 := n0_; have BK101 := n1_; have HB := n2_; clear n0_ n1_ n2_; (try clear hb); (try clear hb2); (try clear hk); (try clear hi); (try clear ho0); obtain ⟨Ao19, co19, eo19⟩ := Kd.R_slice HO108.out; subst eo19) | ((with_reducible refine gate_callee (f := 27) rfl ?_); refine goesL_ (some 28) rfl rfl Try.func27 (by kernel_rfl) rfl #[.agg #[.int .i64 t103, .int .i64 t104, .int .i64 t105, .slice Ao19 t106.length co19], .int .i64 a1, .int .i64 a2] rfl (by (try simp only [List.map_toArray, List.map_cons, List.map_nil]); first | done | rfl | (simp only [List.length_drop, List.length_take]; rfl)) ?_; (with_reducible refine (spec_RemoveMember.calls k t103 t104 t105 _ _ t106 a1 a2 t109 t110 t111 t112 t115 _ ?side1 ?side2 A10.out).mono ?_); (case side1 => repeat (first | exact (Kd.R_reads' HO108.out).2.2 | (with_reducible refine Xca ?_ _) | (with_reducible refine Xcn ?_ _) | (with_reducible refine Xcd ?_))); (case side2 => exact (Kd.R_reads' HO108.out).2.1); rintro e w20 ⟨v113, rfl, ho0, hb⟩; refine ⟨_, rfl, ?_⟩; have n0_ := Xam (Kd.R_elder' (by (with_reducible repeat (first | apply Xra | apply Xrn | apply Xrd)); exact HO108.out) (Kd.R_base ho0) hb); have n1_ := Xam (Kd.R_lower (Kd.R_new' ho0 (Kd.R_lt (by (with_reducible repeat (first | apply Xra | apply Xrn | apply Xrd)); exact HO108.out))) (Xbs (by repeat (first | (with_reducible first | exact HB.out | apply Xba | apply Xbn | apply Xbd | refine Xbe ?_ GE101.out) | exact HB.out)))); have n2_ := Xam (Xbb (g := gb101) (o := .cells #[.int .i64 a0_0, .int .i64 a0_1, .int .i64 a0_2, .slice A0_3 l0_3.length c0_3] 45 (0, 0)) (by (with_reducible repeat (first | refine Xkn ?_ _ | refine Xkd ?_ | refine Xka ?_ _)); exact BK101.out) hb); have n3_ := Xam (Xbt (by repeat (first | (with_reducible first | exact HB.out | apply Xba | apply Xbn | apply Xbd | refine Xbe ?_ GE101.out) | exact HB.out)) hb); clear HO108; clear BK101; clear HB; have HO108 := n0_; have HO114 := n1_; have BK101 := n2_; have HB := n3_; clear n0_ n1_ n2_ n3_; (try clear hb); (try clear hb2); (try clear hk); (try clear hi); (try clear ho0)) | ((with_reducible refine gate_dst (N := 8) rfl ?_); refine box_event ?hg (N := 8) ?hd (cs := #[.int .i64 0, .int .i64 0, .int .i64 0, .slice none 0 0]) (t := 47) ?hr ?_; (case hd => rfl); (case hg => rfl); (case hr => first | (go_simp; done) | (go_simp; rfl)); intro gb116 hg w21 hbox hb; have n0_ := Xam (Kd.R_below (by (with_reducible repeat (first | apply Xra | apply Xrn | apply Xrd)); exact HO108.out) hb); have n1_ := Xam (Kd.R_below (by (with_reducible repeat (first | apply Xra | apply Xrn | apply Xrd)); exact HO114.out) hb); have n2_ := Xam (Xbb (g := gb101) (o := .cells #[.int .i64 a0_0, .int .i64 a0_1, .int .i64 a0_2, .slice A0_3 l0_3.length c0_3] 45 (0, 0)) (by (with_reducible repeat (first | refine Xkn ?_ _ | refine Xkd ?_ | refine Xka ?_ _)); exact BK101.out) hb); have n3_ := Xam (Xbt (by repeat (first | (with_reducible first | exact HB.out | apply Xba | apply Xbn | apply Xbd | refine Xbe ?_ GE101.out) | exact HB.out)) hb); have n4_ := Xam (hbox); have n5_ := Xam ((by rw [hg]; exact (Xbs (by repeat (first | (with_reducible first | exact HB.out | apply Xba | apply Xbn | apply Xbd | refine Xbe ?_ GE101.out) | exact HB.out))) : w.heap.size ≤ gb116)); have n6_ := Xam ((by rw [hg]; exact (Xbs (by repeat (first | (with_reducible first | exact HB.out | apply Xba | apply Xbn | apply Xbd | refine Xbe ?_ GE101.out) | exact HB.out))) : w.heap.size ≤ gb116)); have n7_ := Xam ((by rw [hg]; exact Nat.ne_of_lt (Xbl (g := gb101) (o := .cells #[.int .i64 a0_0, .int .i64 a0_1, .int .i64 a0_2, .slice A0_3 l0_3.length c0_3] 45 (0, 0)) (by (with_reducible repeat (first | refine Xkn ?_ _ | refine Xkd ?_ | refine Xka ?_ _)); exact BK101.out)) : gb101 ≠ gb116)); have n8_ := Xam ((by rw [hg]; exact Nat.ne_of_gt (Xbl (g := gb101) (o := .cells #[.int .i64 a0_0, .int .i64 a0_1, .int .i64 a0_2, .slice A0_3 l0_3.length c0_3] 45 (0, 0)) (by (with_reducible repeat (first | refine Xkn ?_ _ | refine Xkd ?_ | refine Xka ?_ _)); exact BK101.out)) : gb116 ≠ gb101)); clear HO108; clear HO114; clear BK101; clear HB; have HO108 := n0_; have HO114 := n1_; have BK101 := n2_; have HB := n3_; have BK116 := n4_; have GW116 := n5_; have GE116 := n6_; have NB101_116 := n7_; have NB116_101 := n8_; clear n0_ n1_ n2_ n3_ n4_ n5_ n6_ n7_ n8_; clear hb hbox hg; have hnb22 := NB116_101.out; have hnc22 := NB101_116.out; have hcz23_0 : w21.cell? ⟨gb116, 0, none⟩ = some (.int .i64 0) := (Xbc BK116.out 0).trans rfl; have hcz23_1 : w21.cell? ⟨gb116, 1, none⟩ = some (.int .i64 0) := (Xbc BK116.out 1).trans rfl; have hcz23_2 : w21.cell? ⟨gb116, 2, none⟩ = some (.int .i64 0) := (Xbc BK116.out 2).trans rfl; have hcz23_3 : w21.cell? ⟨gb116, 3, none⟩ = some (.slice none 0 0) := (Xbc BK116.out 3).trans rfl; have hfz23_0 := Xbf BK116.out 0; have hfz23_1 := Xbf BK116.out 1; have hfz23_2 := Xbf BK116.out 2; have hfz23_3 := Xbf BK116.out 3; obtain ⟨Ao24, co24, eo24⟩ := Kd.R_slice HO114.out; subst eo24; have hcz25_0 : w21.cell? ⟨gb101, 0, none⟩ = some (.int .i64 a0_0) := (Xbc BK101.out 0).trans rfl; have hcz25_1 : w21.cell? ⟨gb101, 1, none⟩ = some (.int .i64 a0_1) := (Xbc BK101.out 1).trans rfl; have hcz25_2 : w21.cell? ⟨gb101, 2, none⟩ = some (.int .i64 a0_2) := (Xbc BK101.out 2).trans rfl; have hcz25_3 : w21.cell? ⟨gb101, 3, none⟩ = some (.slice A0_3 l0_3.length c0_3) := (Xbc BK101.out 3).trans rfl; have hfz25_0 := Xbf BK101.out 0; have hfz25_1 := Xbf BK101.out 1; have hfz25_2 := Xbf BK101.out 2; have hfz25_3 := Xbf BK101.out 3) | ((with_reducible refine gate_callee (f := 28) rfl ?_); refine goesL_ (some 32) rfl rfl Try.func28 (by kernel_rfl) rfl #[.agg #[.int .i64 a0_0, .int .i64 a0_1, .int .i64 a0_2, .slice A0_3 l0_3.length c0_3]] rfl (by (try simp only [List.map_toArray, List.map_cons, List.map_nil]); first | done | rfl | (simp only [List.length_drop, List.length_take]; rfl)) ?_; (with_reducible refine (laws_toSenderGroup.calls k a0_0 a0_1 a0_2 _ _ l0_3 t117 t118 t119 t120 _ ?side1 ?side2 A11.out).mono ?_); (case side1 => exact Kd.C_below HR0_3.out (by repeat (first | (with_reducible first | exact HB.out | apply Xba | apply Xbn | apply Xbd | refine Xbe ?_ GE101.out | refine Xbe ?_ GE116.out) | exact HB.out))); (case side2 => exact HC0_3.out); rintro e w26 ⟨v121, rfl, ho0, hb⟩; refine ⟨_, rfl, ?_⟩; have n0_ := Xam (Kd.R_elder' (by (with_reducible repeat (first | apply Xra | apply Xrn | apply Xrd)); exact (Kd.R_mono (Kd.R_far (p := ⟨gb116, 3, none⟩) (Kd.R_far (p := ⟨gb116, 2, none⟩) (Kd.R_far (p := ⟨gb116, 1, none⟩) (Kd.R_far (p := ⟨gb116, 0, none⟩) (Kd.R_types HO108.out BK116.out (by decide)) (fun _ hk => hk.2) (.int .i64 t109)) (fun _ hk => hk.2) (.int .i64 t110)) (fun _ hk => hk.2) (.int .i64 t111)) (fun _ hk => hk.2) (.slice Ao24 t112.length co24)) (fun _ h_ => h_.1))) (Kd.R_base ho0) hb); have n1_ := Xam (Kd.R_elder' (by (with_reducible repeat (first | apply Xra | apply Xrn | apply Xrd)); exact (Kd.R_mono (Kd.R_far (p := ⟨gb116, 3, none⟩) (Kd.R_far (p := ⟨gb116, 2, none⟩) (Kd.R_far (p := ⟨gb116, 1, none⟩) (Kd.R_far (p := ⟨gb116, 0, none⟩) (Kd.R_types HO114.out BK116.out (by decide)) (fun _ hk => hk.2) (.int .i64 t109)) (fun _ hk => hk.2) (.int .i64 t110)) (fun _ hk => hk.2) (.int .i64 t111)) (fun _ hk => hk.2) (.slice Ao24 t112.length co24)) (fun _ h_ => h_.1))) (Kd.R_base ho0) hb); have n2_ := Xam (Kd.R_lower (Kd.R_new' (Kd.R_new' ho0 (Kd.R_lt (by (with_reducible repeat (first | apply Xra | apply Xrn | apply Xrd)); exact (Kd.R_mono (Kd.R_far (p := ⟨gb116, 3, none⟩) (Kd.R_far (p := ⟨gb116, 2, none⟩) (Kd.R_far (p := ⟨gb116, 1, none⟩) (Kd.R_far (p := ⟨gb116, 0, none⟩) (Kd.R_types HO108.out BK116.out (by decide)) (fun _ hk => hk.2) (.int .i64 t109)) (fun _ hk => hk.2) (.int .i64 t110)) (fun _ hk => hk.2) (.int .i64 t111)) (fun _ hk => hk.2) (.slice Ao24 t112.length co24)) (fun _ h_ => h_.1))))) (Kd.R_lt (by (with_reducible repeat (first | apply Xra | apply Xrn | apply Xrd)); exact (Kd.R_mono (Kd.R_far (p := ⟨gb116, 3, none⟩) (Kd.R_far (p := ⟨gb116, 2, none⟩) (Kd.R_far (p := ⟨gb116, 1, none⟩) (Kd.R_far (p := ⟨gb116, 0, none⟩) (Kd.R_types HO114.out BK116.out (by decide)) (fun _ hk => hk.2) (.int .i64 t109)) (fun _ hk => hk.2) (.int .i64 t110)) (fun _ hk => hk.2) (.int .i64 t111)) (fun _ hk => hk.2) (.slice Ao24 t112.length co24)) (fun _ h_ => h_.1))))) (Xbs (by repeat (first | (with_reducible first | exact HB.out | apply Xba | apply Xbn | apply Xbd | refine Xbe ?_ GE101.out | refine Xbe ?_ GE116.out) | exact HB.out)))); have n3_ := Xam (Xbb (g := gb101) (o := .cells #[.int .i64 a0_0, .int .i64 a0_1, .int .i64 a0_2, .slice A0_3 l0_3.length c0_3] 45 (0, 0)) (by (with_reducible repeat (first | refine Xkn ?_ _ | refine Xkd ?_ | refine Xka ?_ _)); refine blk_far ?_ NB101_116.out _; (with_reducible repeat (first | refine Xkn ?_ _ | refine Xkd ?_ | refine Xka ?_ _)); refine blk_far ?_ NB101_116.out _; (with_reducible repeat (first | refine Xkn ?_ _ | refine Xkd ?_ | refine Xka ?_ _)); refine blk_far ?_ NB101_116.out _; (with_reducible repeat (first | refine Xkn ?_ _ | refine Xkd ?_ | refine Xka ?_ _)); refine blk_far ?_ NB101_116.out _; (with_reducible repeat (first | refine Xkn ?_ _ | refine Xkd ?_ | refine Xka ?_ _)); exact BK101.out) hb); have n4_ := Xam (Xbb (g := gb116) (o := .cells #[.int .i64 t109, .int .i64 t110, .int .i64 t111, .slice Ao24 t112.length co24] 47 (0, 0)) (by (with_reducible repeat (first | refine Xkn ?_ _ | refine Xkd ?_ | refine Xka ?_ _)); refine blk_put (cs := #[.int .i64 t109, .int .i64 t110, .int .i64 t111, .slice none 0 0]) ?_ 3 _ rfl; (with_reducible repeat (first | refine Xkn ?_ _ | refine Xkd ?_ | refine Xka ?_ _)); refine blk_put (cs := #[.int .i64 t109, .int .i64 t110, .int .i64 0, .slice none 0 0]) ?_ 2 _ rfl; (with_reducible repeat (first | refine Xkn ?_ _ | refine Xkd ?_ | refine Xka ?_ _)); refine blk_put (cs := #[.int .i64 t109, .int .i64 0, .int .i64 0, .slice none 0 0]) ?_ 1 _ rfl; (with_reducible repeat (first | refine Xkn ?_ _ | refine Xkd ?_ | refine Xka ?_ _)); refine blk_put (cs := #[.int .i64 0, .int .i64 0, .int .i64 0, .slice none 0 0]) ?_ 0 _ rfl; (with_reducible repeat (first | refine Xkn ?_ _ | refine Xkd ?_ | refine Xka ?_ _)); exact BK116.out) hb); have n5_ := Xam (Xbt (by repeat (first | (with_reducible first | exact HB.out | apply Xba | apply Xbn | apply Xbd | refine Xbe ?_ GE101.out | refine Xbe ?_ GE116.out) | exact HB.out)) hb); clear HO108; clear HO114; clear BK101; clear BK116; clear HB; have HO108 := n0_; have HO114 := n1_; have HO122 := n2_; have BK101 := n3_; have BK116 := n4_; have HB := n5_; clear n0_ n1_ n2_ n3_ n4_ n5_; (try clear hb); (try clear hb2); (try clear hk); (try clear hi); (try clear ho0)) | ((with_reducible refine gate_dst (N := 10) rfl ?_); refine box_event ?hg (N := 10) ?hd (cs := #[.int .i64 0, .int .i64 0, .int .i64 0, .slice none 0 0]) (t := 47) ?hr ?_; (case hd => rfl); (case hg => rfl); (case hr => first | (go_simp; done) | (go_simp; rfl)); intro gb123 hg w27 hbox hb; have n0_ := Xam (Kd.R_below (by (with_reducible repeat (first | apply Xra | apply Xrn | apply Xrd)); exact HO108.out) hb); have n1_ := Xam (Kd.R_below (by (with_reducible repeat (first | apply Xra | apply Xrn | apply Xrd)); exact HO114.out) hb); have n2_ := Xam (Kd.R_below (by (with_reducible repeat (first | apply Xra | apply Xrn | apply Xrd)); exact HO122.out) hb); have n3_ := Xam (Xbb (g := gb101) (o := .cells #[.int .i64 a0_0, .int .i64 a0_1, .int .i64 a0_2, .slice A0_3 l0_3.length c0_3] 45 (0, 0)) (by (with_reducible repeat (first | refine Xkn ?_ _ | refine Xkd ?_ | refine Xka ?_ _)); exact BK101.out) hb); have n4_ := Xam (Xbb (g := gb116) (o := .cells #[.int .i64 t109, .int .i64 t110, .int .i64 t111, .slice Ao24 t112.length co24] 47 (0, 0)) (by (with_reducible repeat (first | refine Xkn ?_ _ | refine Xkd ?_ | refine Xka ?_ _)); exact BK116.out) hb); have n5_ := Xam (Xbt (by repeat (first | (with_reducible first | exact HB.out | apply Xba | apply Xbn | apply Xbd | refine Xbe ?_ GE101.out | refine Xbe ?_ GE116.out) | exact HB.out)) hb); have n6_ := Xam (hbox); have n7_ := Xam ((by rw [hg]; exact (Xbs (by repeat (first | (with_reducible first | exact HB.out | apply Xba | apply Xbn | apply Xbd | refine Xbe ?_ GE101.out | refine Xbe ?_ GE116.out) | exact HB.out))) : w.heap.size ≤ gb123)); have n8_ := Xam ((by rw [hg]; exact (Xbs (by repeat (first | (with_reducible first | exact HB.out | apply Xba | apply Xbn | apply Xbd | refine Xbe ?_ GE101.out | refine Xbe ?_ GE116.out) | exact HB.out))) : w.heap.size ≤ gb123)); have n9_ := Xam ((by rw [hg]; exact Nat.ne_of_lt (Xbl (g := gb101) (o := .cells #[.int .i64 a0_0, .int .i64 a0_1, .int .i64 a0_2, .slice A0_3 l0_3.length c0_3] 45 (0, 0)) (by (with_reducible repeat (first | refine Xkn ?_ _ | refine Xkd ?_ | refine Xka ?_ _)); exact BK101.out)) : gb101 ≠ gb123)); have n10_ := Xam ((by rw [hg]; exact Nat.ne_of_gt (Xbl (g := gb101) (o := .cells #[.int .i64 a0_0, .int .i64 a0_1, .int .i64 a0_2, .slice A0_3 l0_3.length c0_3] 45 (0, 0)) (by (with_reducible repeat (first | refine Xkn ?_ _ | refine Xkd ?_ | refine Xka ?_ _)); exact BK101.out)) : gb123 ≠ gb101)); have n11_ := Xam ((by rw [hg]; exact Nat.ne_of_lt (Xbl (g := gb116) (o := .cells #[.int .i64 t109, .int .i64 t110, .int .i64 t111, .slice Ao24 t112.length co24] 47 (0, 0)) (by (with_reducible repeat (first | refine Xkn ?_ _ | refine Xkd ?_ | refine Xka ?_ _)); exact BK116.out)) : gb116 ≠ gb123)); have n12_ := Xam ((by rw [hg]; exact Nat.ne_of_gt (Xbl (g := gb116) (o := .cells #[.int .i64 t109, .int .i64 t110, .int .i64 t111, .slice Ao24 t112.length co24] 47 (0, 0)) (by (with_reducible repeat (first | refine Xkn ?_ _ | refine Xkd ?_ | refine Xka ?_ _)); exact BK116.out)) : gb123 ≠ gb116)); clear HO108; clear HO114; clear HO122; clear BK101; clear BK116; clear HB; have HO108 := n0_; have HO114 := n1_; have HO122 := n2_; have BK101 := n3_; have BK116 := n4_; have HB := n5_; have BK123 := n6_; have GW123 := n7_; have GE123 := n8_; have NB101_123 := n9_; have NB123_101 := n10_; have NB116_123 := n11_; have NB123_116 := n12_; clear n0_ n1_ n2_ n3_ n4_ n5_ n6_ n7_ n8_ n9_ n10_ n11_ n12_; clear hb hbox hg; have hnb28 := NB123_101.out; have hnc28 := NB101_123.out; have hnb29 := NB123_116.out; have hnc29 := NB116_123.out; have hcz30_0 : w27.cell? ⟨gb123, 0, none⟩ = some (.int .i64 0) := (Xbc BK123.out 0).trans rfl; have hcz30_1 : w27.cell? ⟨gb123, 1, none⟩ = some (.int .i64 0) := (Xbc BK123.out 1).trans rfl; have hcz30_2 : w27.cell? ⟨gb123, 2, none⟩ = some (.int .i64 0) := (Xbc BK123.out 2).trans rfl; have hcz30_3 : w27.cell? ⟨gb123, 3, none⟩ = some (.slice none 0 0) := (Xbc BK123.out 3).trans rfl; have hfz30_0 := Xbf BK123.out 0; have hfz30_1 := Xbf BK123.out 1; have hfz30_2 := Xbf BK123.out 2; have hfz30_3 := Xbf BK123.out 3; obtain ⟨Ao31, co31, eo31⟩ := Kd.R_slice HO122.out; subst eo31) | ((with_reducible refine gate_callee (f := 29) rfl ?_); refine goesL_ (some 37) rfl rfl Try.func29 (by kernel_rfl) rfl #[.agg #[.int .i64 t117, .int .i64 t118, .int .i64 t119, .slice Ao31 t120.length co31], .int .i64 a1, .int .i64 a2] rfl (by (try simp only [List.map_toArray, List.map_cons, List.map_nil]); first | done | rfl | (simp only [List.length_drop, List.length_take]; rfl)) ?_; (with_reducible refine (impl_RemoveMember.calls k t117 t118 t119 _ _ t120 a1 a2 t124 t125 t126 t127 t130 _ ?side1 ?side2 A12.out).mono ?_); (case side1 => refine (Kd.R_reads' (e := 3) (base := w.heap.size) (ok := fun k_ => ((True ∧ some k_ ≠ (.slice Ao19 t106.length co19 : Value).ownBlock) ∧ some k_ ≠ (.slice Ao24 t112.length co24 : Value).ownBlock)) (n := t120.length) (c := co31) ?_).2.2; exact (by (with_reducible repeat (first | apply Xra | apply Xrn | apply Xrd)); exact (Kd.R_mono (Kd.R_far (p := ⟨gb123, 3, none⟩) (Kd.R_far (p := ⟨gb123, 2, none⟩) (Kd.R_far (p := ⟨gb123, 1, none⟩) (Kd.R_far (p := ⟨gb123, 0, none⟩) (Kd.R_types HO122.out BK123.out (by decide)) (fun _ hk => hk.2) (.int .i64 t117)) (fun _ hk => hk.2) (.int .i64 t118)) (fun _ hk => hk.2) (.int .i64 t119)) (fun _ hk => hk.2) (.slice Ao31 t120.length co31)) (fun _ h_ => h_.1)))); (case side2 => exact (Kd.R_reads' HO122.out).2.1); rintro e w32 ⟨v128, rfl, ho0, hb⟩; refine ⟨_, rfl, ?_⟩; have n0_ := Xam (Kd.R_elder' (by (with_reducible repeat (first | apply Xra | apply Xrn | apply Xrd)); exact (Kd.R_mono (Kd.R_far (p := ⟨gb123, 3, none⟩) (Kd.R_far (p := ⟨gb123, 2, none⟩) (Kd.R_far (p := ⟨gb123, 1, none⟩) (Kd.R_far (p := ⟨gb123, 0, none⟩) (Kd.R_types HO108.out BK123.out (by decide)) (fun _ hk => hk.2) (.int .i64 t117)) (fun _ hk => hk.2) (.int .i64 t118)) (fun _ hk => hk.2) (.int .i64 t119)) (fun _ hk => hk.2) (.slice Ao31 t120.length co31)) (fun _ h_ => h_.1))) (Kd.R_base ho0) hb); have n1_ := Xam (Kd.R_elder' (by (with_reducible repeat (first | apply Xra | apply Xrn | apply Xrd)); exact (Kd.R_mono (Kd.R_far (p := ⟨gb123, 3, none⟩) (Kd.R_far (p := ⟨gb123, 2, none⟩) (Kd.R_far (p := ⟨gb123, 1, none⟩) (Kd.R_far (p := ⟨gb123, 0, none⟩) (Kd.R_types HO114.out BK123.out (by decide)) (fun _ hk => hk.2) (.int .i64 t117)) (fun _ hk => hk.2) (.int .i64 t118)) (fun _ hk => hk.2) (.int .i64 t119)) (fun _ hk => hk.2) (.slice Ao31 t120.length co31)) (fun _ h_ => h_.1))) (Kd.R_base ho0) hb); have n2_ := Xam (Kd.R_elder' (by (with_reducible repeat (first | apply Xra | apply Xrn | apply Xrd)); exact (Kd.R_mono (Kd.R_far (p := ⟨gb123, 3, none⟩) (Kd.R_far (p := ⟨gb123, 2, none⟩) (Kd.R_far (p := ⟨gb123, 1, none⟩) (Kd.R_far (p := ⟨gb123, 0, none⟩) (Kd.R_types HO122.out BK123.out (by decide)) (fun _ hk => hk.2) (.int .i64 t117)) (fun _ hk => hk.2) (.int .i64 t118)) (fun _ hk => hk.2) (.int .i64 t119)) (fun _ hk => hk.2) (.slice Ao31 t120.length co31)) (fun _ h_ => h_.1))) (Kd.R_base ho0) hb); have n3_ := Xam (Kd.R_lower (Kd.R_new' (Kd.R_new' (Kd.R_new' ho0 (Kd.R_lt (by (with_reducible repeat (first | apply Xra | apply Xrn | apply Xrd)); exact (Kd.R_mono (Kd.R_far (p := ⟨gb123, 3, none⟩) (Kd.R_far (p := ⟨gb123, 2, none⟩) (Kd.R_far (p := ⟨gb123, 1, none⟩) (Kd.R_far (p := ⟨gb123, 0, none⟩) (Kd.R_types HO108.out BK123.out (by decide)) (fun _ hk => hk.2) (.int .i64 t117)) (fun _ hk => hk.2) (.int .i64 t118)) (fun _ hk => hk.2) (.int .i64 t119)) (fun _ hk => hk.2) (.slice Ao31 t120.length co31)) (fun _ h_ => h_.1))))) (Kd.R_lt (by (with_reducible repeat (first | apply Xra | apply Xrn | apply Xrd)); exact (Kd.R_mono (Kd.R_far (p := ⟨gb123, 3, none⟩) (Kd.R_far (p := ⟨gb123, 2, none⟩) (Kd.R_far (p := ⟨gb123, 1, none⟩) (Kd.R_far (p := ⟨gb123, 0, none⟩) (Kd.R_types HO114.out BK123.out (by decide)) (fun _ hk => hk.2) (.int .i64 t117)) (fun _ hk => hk.2) (.int .i64 t118)) (fun _ hk => hk.2) (.int .i64 t119)) (fun _ hk => hk.2) (.slice Ao31 t120.length co31)) (fun _ h_ => h_.1))))) (Kd.R_lt (by (with_reducible repeat (first | apply Xra | apply Xrn | apply Xrd)); exact (Kd.R_mono (Kd.R_far (p := ⟨gb123, 3, none⟩) (Kd.R_far (p := ⟨gb123, 2, none⟩) (Kd.R_far (p := ⟨gb123, 1, none⟩) (Kd.R_far (p := ⟨gb123, 0, none⟩) (Kd.R_types HO122.out BK123.out (by decide)) (fun _ hk => hk.2) (.int .i64 t117)) (fun _ hk => hk.2) (.int .i64 t118)) (fun _ hk => hk.2) (.int .i64 t119)) (fun _ hk => hk.2) (.slice Ao31 t120.length co31)) (fun _ h_ => h_.1))))) (Xbs (by repeat (first | (with_reducible first | exact HB.out | apply Xba | apply Xbn | apply Xbd | refine Xbe ?_ GE101.out | refine Xbe ?_ GE116.out | refine Xbe ?_ GE123.out) | exact HB.out)))); have n4_ := Xam (Xbb (g := gb101) (o := .cells #[.int .i64 a0_0, .int .i64 a0_1, .int .i64 a0_2, .slice A0_3 l0_3.length c0_3] 45 (0, 0)) (by (with_reducible repeat (first | refine Xkn ?_ _ | refine Xkd ?_ | refine Xka ?_ _)); refine blk_far ?_ NB101_123.out _; (with_reducible repeat (first | refine Xkn ?_ _ | refine Xkd ?_ | refine Xka ?_ _)); refine blk_far ?_ NB101_123.out _; (with_reducible repeat (first | refine Xkn ?_ _ | refine Xkd ?_ | refine Xka ?_ _)); refine blk_far ?_ NB101_123.out _; (with_reducible repeat (first | refine Xkn ?_ _ | refine Xkd ?_ | refine Xka ?_ _)); refine blk_far ?_ NB101_123.out _; (with_reducible repeat (first | refine Xkn ?_ _ | refine Xkd ?_ | refine Xka ?_ _)); exact BK101.out) hb); have n5_ := Xam (Xbb (g := gb116) (o := .cells #[.int .i64 t109, .int .i64 t110, .int .i64 t111, .slice Ao24 t112.length co24] 47 (0, 0)) (by (with_reducible repeat (first | refine Xkn ?_ _ | refine Xkd ?_ | refine Xka ?_ _)); refine blk_far ?_ NB116_123.out _; (with_reducible repeat (first | refine Xkn ?_ _ | refine Xkd ?_ | refine Xka ?_ _)); refine blk_far ?_ NB116_123.out _; (with_reducible repeat (first | refine Xkn ?_ _ | refine Xkd ?_ | refine Xka ?_ _)); refine blk_far ?_ NB116_123.out _; (with_reducible repeat (first | refine Xkn ?_ _ | refine Xkd ?_ | refine Xka ?_ _)); refine blk_far ?_ NB116_123.out _; (with_reducible repeat (first | refine Xkn ?_ _ | refine Xkd ?_ | refine Xka ?_ _)); exact BK116.out) hb); have n6_ := Xam (Xbb (g := gb123) (o := .cells #[.int .i64 t117, .int .i64 t118, .int .i64 t119, .slice Ao31 t120.length co31] 47 (0, 0)) (by (with_reducible repeat (first | refine Xkn ?_ _ | refine Xkd ?_ | refine Xka ?_ _)); refine blk_put (cs := #[.int .i64 t117, .int .i64 t118, .int .i64 t119, .slice none 0 0]) ?_ 3 _ rfl; (with_reducible repeat (first | refine Xkn ?_ _ | refine Xkd ?_ | refine Xka ?_ _)); refine blk_put (cs := #[.int .i64 t117, .int .i64 t118, .int .i64 0, .slice none 0 0]) ?_ 2 _ rfl; (with_reducible repeat (first | refine Xkn ?_ _ | refine Xkd ?_ | refine Xka ?_ _)); refine blk_put (cs := #[.int .i64 t117, .int .i64 0, .int .i64 0, .slice none 0 0]) ?_ 1 _ rfl; (with_reducible repeat (first | refine Xkn ?_ _ | refine Xkd ?_ | refine Xka ?_ _)); refine blk_put (cs := #[.int .i64 0, .int .i64 0, .int .i64 0, .slice none 0 0]) ?_ 0 _ rfl; (with_reducible repeat (first | refine Xkn ?_ _ | refine Xkd ?_ | refine Xka ?_ _)); exact BK123.out) hb); have n7_ := Xam (Xbt (by repeat (first | (with_reducible first | exact HB.out | apply Xba | apply Xbn | apply Xbd | refine Xbe ?_ GE101.out | refine Xbe ?_ GE116.out | refine Xbe ?_ GE123.out) | exact HB.out)) hb); clear HO108; clear HO114; clear HO122; clear BK101; clear BK116; clear BK123; clear HB; have HO108 := n0_; have HO114 := n1_; have HO122 := n2_; have HO129 := n3_; have BK101 := n4_; have BK116 := n5_; have BK123 := n6_; have HB := n7_; clear n0_ n1_ n2_ n3_ n4_ n5_ n6_ n7_; (try clear hb); (try clear hb2); (try clear hk); (try clear hi); (try clear ho0)) | ((with_reducible refine gate_dst (N := 11) rfl ?_); refine box_event ?hg (N := 11) ?hd (cs := #[.int .i64 0, .int .i64 0, .int .i64 0, .slice none 0 0]) (t := 47) ?hr ?_; (case hd => rfl); (case hg => rfl); (case hr => first | (go_simp; done) | (go_simp; rfl)); intro gb131 hg w33 hbox hb; have n0_ := Xam (Kd.R_below (by (with_reducible repeat (first | apply Xra | apply Xrn | apply Xrd)); exact HO108.out) hb); have n1_ := Xam (Kd.R_below (by (with_reducible repeat (first | apply Xra | apply Xrn | apply Xrd)); exact HO114.out) hb); have n2_ := Xam (Kd.R_below (by (with_reducible repeat (first | apply Xra | apply Xrn | apply Xrd)); exact HO122.out) hb); have n3_ := Xam (Kd.R_below (by (with_reducible repeat (first | apply Xra | apply Xrn | apply Xrd)); exact HO129.out) hb); have n4_ := Xam (Xbb (g := gb101) (o := .cells #[.int .i64 a0_0, .int .i64 a0_1, .int .i64 a0_2, .slice A0_3 l0_3.length c0_3] 45 (0, 0)) (by (with_reducible repeat (first | refine Xkn ?_ _ | refine Xkd ?_ | refine Xka ?_ _)); exact BK101.out) hb); have n5_ := Xam (Xbb (g := gb116) (o := .cells #[.int .i64 t109, .int .i64 t110, .int .i64 t111, .slice Ao24 t112.length co24] 47 (0, 0)) (by (with_reducible repeat (first | refine Xkn ?_ _ | refine Xkd ?_ | refine Xka ?_ _)); exact BK116.out) hb); have n6_ := Xam (Xbb (g := gb123) (o := .cells #[.int .i64 t117, .int .i64 t118, .int .i64 t119, .slice Ao31 t120.length co31] 47 (0, 0)) (by (with_reducible repeat (first | refine Xkn ?_ _ | refine Xkd ?_ | refine Xka ?_ _)); exact BK123.out) hb); have n7_ := Xam (Xbt (by repeat (first | (with_reducible first | exact HB.out | apply Xba | apply Xbn | apply Xbd | refine Xbe ?_ GE101.out | refine Xbe ?_ GE116.out | refine Xbe ?_ GE123.out) | exact HB.out)) hb); have n8_ := Xam (hbox); have n9_ := Xam ((by rw [hg]; exact (Xbs (by repeat (first | (with_reducible first | exact HB.out | apply Xba | apply Xbn | apply Xbd | refine Xbe ?_ GE101.out | refine Xbe ?_ GE116.out | refine Xbe ?_ GE123.out) | exact HB.out))) : w.heap.size ≤ gb131)); have n10_ := Xam ((by rw [hg]; exact (Xbs (by repeat (first | (with_reducible first | exact HB.out | apply Xba | apply Xbn | apply Xbd | refine Xbe ?_ GE101.out | refine Xbe ?_ GE116.out | refine Xbe ?_ GE123.out) | exact HB.out))) : w.heap.size ≤ gb131)); have n11_ := Xam ((by rw [hg]; exact Nat.ne_of_lt (Xbl (g := gb101) (o := .cells #[.int .i64 a0_0, .int .i64 a0_1, .int .i64 a0_2, .slice A0_3 l0_3.length c0_3] 45 (0, 0)) (by (with_reducible repeat (first | refine Xkn ?_ _ | refine Xkd ?_ | refine Xka ?_ _)); exact BK101.out)) : gb101 ≠ gb131)); have n12_ := Xam ((by rw [hg]; exact Nat.ne_of_gt (Xbl (g := gb101) (o := .cells #[.int .i64 a0_0, .int .i64 a0_1, .int .i64 a0_2, .slice A0_3 l0_3.length c0_3] 45 (0, 0)) (by (with_reducible repeat (first | refine Xkn ?_ _ | refine Xkd ?_ | refine Xka ?_ _)); exact BK101.out)) : gb131 ≠ gb101)); have n13_ := Xam ((by rw [hg]; exact Nat.ne_of_lt (Xbl (g := gb116) (o := .cells #[.int .i64 t109, .int .i64 t110, .int .i64 t111, .slice Ao24 t112.length co24] 47 (0, 0)) (by (with_reducible repeat (first | refine Xkn ?_ _ | refine Xkd ?_ | refine Xka ?_ _)); exact BK116.out)) : gb116 ≠ gb131)); have n14_ := Xam ((by rw [hg]; exact Nat.ne_of_gt (Xbl (g := gb116) (o := .cells #[.int .i64 t109, .int .i64 t110, .int .i64 t111, .slice Ao24 t112.length co24] 47 (0, 0)) (by (with_reducible repeat (first | refine Xkn ?_ _ | refine Xkd ?_ | refine Xka ?_ _)); exact BK116.out)) : gb131 ≠ gb116)); have n15_ := Xam ((by rw [hg]; exact Nat.ne_of_lt (Xbl (g := gb123) (o := .cells #[.int .i64 t117, .int .i64 t118, .int .i64 t119, .slice Ao31 t120.length co31] 47 (0, 0)) (by (with_reducible repeat (first | refine Xkn ?_ _ | refine Xkd ?_ | refine Xka ?_ _)); exact BK123.out)) : gb123 ≠ gb131)); have n16_ := Xam ((by rw [hg]; exact Nat.ne_of_gt (Xbl (g := gb123) (o := .cells #[.int .i64 t117, .int .i64 t118, .int .i64 t119, .slice Ao31 t120.length co31] 47 (0, 0)) (by (with_reducible repeat (first | refine Xkn ?_ _ | refine Xkd ?_ | refine Xka ?_ _)); exact BK123.out)) : gb131 ≠ gb123)); clear HO108; clear HO114; clear HO122; clear HO129; clear BK101; clear BK116; clear BK123; clear HB; have HO108 := n0_; have HO114 := n1_; have HO122 := n2_; have HO129 := n3_; have BK101 := n4_; have BK116 := n5_; have BK123 := n6_; have HB := n7_; have BK131 := n8_; have GW131 := n9_; have GE131 := n10_; have NB101_131 := n11_; have NB131_101 := n12_; have NB116_131 := n13_; have NB131_116 := n14_; have NB123_131 := n15_; have NB131_123 := n16_; clear n0_ n1_ n2_ n3_ n4_ n5_ n6_ n7_ n8_ n9_ n10_ n11_ n12_ n13_ n14_ n15_ n16_; clear hb hbox hg; have hnb34 := NB131_101.out; have hnc34 := NB101_131.out; have hnb35 := NB131_116.out; have hnc35 := NB116_131.out; have hnb36 := NB131_123.out; have hnc36 := NB123_131.out; have hcz37_0 : w33.cell? ⟨gb131, 0, none⟩ = some (.int .i64 0) := (Xbc BK131.out 0).trans rfl; have hcz37_1 : w33.cell? ⟨gb131, 1, none⟩ = some (.int .i64 0) := (Xbc BK131.out 1).trans rfl; have hcz37_2 : w33.cell? ⟨gb131, 2, none⟩ = some (.int .i64 0) := (Xbc BK131.out 2).trans rfl; have hcz37_3 : w33.cell? ⟨gb131, 3, none⟩ = some (.slice none 0 0) := (Xbc BK131.out 3).trans rfl; have hfz37_0 := Xbf BK131.out 0; have hfz37_1 := Xbf BK131.out 1; have hfz37_2 := Xbf BK131.out 2; have hfz37_3 := Xbf BK131.out 3; obtain ⟨Ao38, co38, eo38⟩ := Kd.R_slice HO129.out; subst eo38))
    (try simp only [Act.put, List.setIfInBounds_toArray, List.set_cons_zero, List.set_cons_succ])
    go_cut [48] (fun v48 wc => ∃ (kq : Nat) (x48_12 : Bool), v48 = .bool x48_12 ∧ Aside0 (laws_FnExactRemoveMember.j0 kq a1 a2 t115 t130 x48_12 a0_0 a0_1 a0_2 l0_3 t109 t110 t111 t112 t117 t118 t119 t120 t124 t125 t126 t127 = some r) ∧ Aside0 (kq ≤ k) ∧ Aside0 (Kd.R (Kd.int .i64) 3 wc w.heap.size (fun k_ => some k_ ≠ ((.slice Ao31 t120.length co31) : Value).ownBlock ∧ some k_ ≠ ((.slice Ao38 t127.length co38) : Value).ownBlock) (.slice Ao24 t112.length co24) t112) ∧ Aside0 (Kd.R (Kd.int .i64) 3 wc w.heap.size (fun k_ => some k_ ≠ ((.slice Ao24 t112.length co24) : Value).ownBlock ∧ some k_ ≠ ((.slice Ao38 t127.length co38) : Value).ownBlock) (.slice Ao31 t120.length co31) t120) ∧ Aside0 (Kd.R (Kd.int .i64) 3 wc w.heap.size (fun k_ => some k_ ≠ ((.slice Ao24 t112.length co24) : Value).ownBlock ∧ some k_ ≠ ((.slice Ao31 t120.length co31) : Value).ownBlock) (.slice Ao38 t127.length co38) t127) ∧ Aside0 (wc.heap[gb101]? = some (.cells #[.int .i64 a0_0, .int .i64 a0_1, .int .i64 a0_2, (.slice A0_3 l0_3.length c0_3)] 45 (0, 0))) ∧ Aside0 (wc.heap[gb116]? = some (.cells #[.int .i64 t109, .int .i64 t110, .int .i64 t111, (.slice Ao24 t112.length co24)] 47 (0, 0))) ∧ Aside0 (wc.heap[gb123]? = some (.cells #[.int .i64 t117, .int .i64 t118, .int .i64 t119, (.slice Ao31 t120.length co31)] 47 (0, 0))) ∧ Aside0 (wc.heap[gb131]? = some (.cells #[.int .i64 t124, .int .i64 t125, .int .i64 t126, (.slice Ao38 t127.length co38)] 47 (0, 0))) ∧ Aside0 (Below w.heap.size w wc))
    case first =>
      have H := HC13.out
      clear HC13
      replace H := Option.bind_eq_some_iff.mp H
      obtain ⟨t132, A390, H⟩ := H
      replace H : (if t132 = true then (laws_FnExactRemoveMember.j0 k a1 a2 t115 t130 (t130 != t115) a0_0 a0_1 a0_2 l0_3 t109 t110 t111 t112 t117 t118 t119 t120 t124 t125 t126 t127) else (laws_FnExactRemoveMember.j0 k a1 a2 t115 t130 true a0_0 a0_1 a0_2 l0_3 t109 t110 t111 t112 t117 t118 t119 t120 t124 t125 t126 t127)) = some r := H
      have A39 := Xam A390
      clear A390
      by_cases c40 : t132 = true
      · subst c40
        have H1 : (laws_FnExactRemoveMember.j0 k a1 a2 t115 t130 (t130 != t115) a0_0 a0_1 a0_2 l0_3 t109 t110 t111 t112 t117 t118 t119 t120 t124 t125 t126 t127) = some r := by rw [if_pos rfl] at H; exact H
        clear H
        have H := H1
        clear H1
        have H' := Xam H
        clear H
        have hnb41 := NB131_101.out
        have hnc41 := NB101_131.out
        have hnb42 := NB131_116.out
        have hnc42 := NB116_131.out
        have hnb43 := NB131_123.out
        have hnc43 := NB123_131.out
        have hcz44_0 : w33.cell? ⟨gb131, 0, none⟩ = some (.int .i64 0) := (Xbc BK131.out 0).trans rfl
        have hcz44_1 : w33.cell? ⟨gb131, 1, none⟩ = some (.int .i64 0) := (Xbc BK131.out 1).trans rfl
        have hcz44_2 : w33.cell? ⟨gb131, 2, none⟩ = some (.int .i64 0) := (Xbc BK131.out 2).trans rfl
        have hcz44_3 : w33.cell? ⟨gb131, 3, none⟩ = some (.slice none 0 0) := (Xbc BK131.out 3).trans rfl
        have hfz44_0 := Xbf BK131.out 0
        have hfz44_1 := Xbf BK131.out 1
        have hfz44_2 := Xbf BK131.out 2
        have hfz44_3 := Xbf BK131.out 3
        have hnb45 := NB116_101.out
        have hnc45 := NB101_116.out
        have hnb46 := NB116_123.out
        have hnc46 := NB123_116.out
        have hcz47_0 : w33.cell? ⟨gb116, 0, none⟩ = some (.int .i64 t109) := (Xbc BK116.out 0).trans rfl
        have hcz47_1 : w33.cell? ⟨gb116, 1, none⟩ = some (.int .i64 t110) := (Xbc BK116.out 1).trans rfl
        have hcz47_2 : w33.cell? ⟨gb116, 2, none⟩ = some (.int .i64 t111) := (Xbc BK116.out 2).trans rfl
        have hcz47_3 : w33.cell? ⟨gb116, 3, none⟩ = some (.slice Ao24 t112.length co24) := (Xbc BK116.out 3).trans rfl
        have hfz47_0 := Xbf BK116.out 0
        have hfz47_1 := Xbf BK116.out 1
        have hfz47_2 := Xbf BK116.out 2
        have hfz47_3 := Xbf BK116.out 3
        go_wp2_with (first | ((with_reducible refine gate_callee (f := 30) rfl ?_); refine goesL_ (some 42) rfl rfl Try.func30 (by kernel_rfl) rfl #[.agg #[.int .i64 t124, .int .i64 t125, .int .i64 t126, .slice Ao38 t127.length co38], .agg #[.int .i64 t109, .int .i64 t110, .int .i64 t111, .slice Ao24 t112.length co24]] rfl (by (try simp only [List.map_toArray, List.map_cons, List.map_nil]); first | done | rfl | (simp only [List.length_drop, List.length_take]; rfl)) ?_; (with_reducible refine (laws_eqSenderGroup.calls k t124 t125 t126 _ _ t127 t109 t110 t111 _ _ t112 true _ ?side1 ?side2 ?side3 ?side4 A39.out).mono ?_); (case side1 => refine (Kd.R_reads' (e := 3) (base := w.heap.size) (ok := fun k_ => (((True ∧ some k_ ≠ (.slice Ao19 t106.length co19 : Value).ownBlock) ∧ some k_ ≠ (.slice Ao24 t112.length co24 : Value).ownBlock) ∧ some k_ ≠ (.slice Ao31 t120.length co31 : Value).ownBlock)) (n := t127.length) (c := co38) ?_).2.2; exact (by (with_reducible repeat (first | apply Xra | apply Xrn | apply Xrd)); exact (Kd.R_mono (Kd.R_far (p := ⟨gb131, 3, none⟩) (Kd.R_far (p := ⟨gb131, 2, none⟩) (Kd.R_far (p := ⟨gb131, 1, none⟩) (Kd.R_far (p := ⟨gb131, 0, none⟩) (Kd.R_types HO129.out BK131.out (by decide)) (fun _ hk => hk.2) (.int .i64 t124)) (fun _ hk => hk.2) (.int .i64 t125)) (fun _ hk => hk.2) (.int .i64 t126)) (fun _ hk => hk.2) (.slice Ao38 t127.length co38)) (fun _ h_ => h_.1)))); (case side2 => exact (Kd.R_reads' HO129.out).2.1); (case side3 => refine (Kd.R_reads' (e := 3) (base := w.heap.size) (ok := fun k_ => (((True ∧ some k_ ≠ (.slice Ao19 t106.length co19 : Value).ownBlock) ∧ some k_ ≠ (.slice Ao31 t120.length co31 : Value).ownBlock) ∧ some k_ ≠ (.slice Ao38 t127.length co38 : Value).ownBlock)) (n := t112.length) (c := co24) ?_).2.2; exact (by (with_reducible repeat (first | apply Xra | apply Xrn | apply Xrd)); exact (Kd.R_mono (Kd.R_far (p := ⟨gb131, 3, none⟩) (Kd.R_far (p := ⟨gb131, 2, none⟩) (Kd.R_far (p := ⟨gb131, 1, none⟩) (Kd.R_far (p := ⟨gb131, 0, none⟩) (Kd.R_types HO114.out BK131.out (by decide)) (fun _ hk => hk.2) (.int .i64 t124)) (fun _ hk => hk.2) (.int .i64 t125)) (fun _ hk => hk.2) (.int .i64 t126)) (fun _ hk => hk.2) (.slice Ao38 t127.length co38)) (fun _ h_ => h_.1)))); (case side4 => exact (Kd.R_reads' HO114.out).2.1); rintro e w48 ⟨rfl, hb⟩; refine ⟨_, rfl, ?_⟩; have n0_ := Xam (Kd.R_below (by (with_reducible repeat (first | apply Xra | apply Xrn | apply Xrd)); exact (Kd.R_mono (Kd.R_far (p := ⟨gb131, 3, none⟩) (Kd.R_far (p := ⟨gb131, 2, none⟩) (Kd.R_far (p := ⟨gb131, 1, none⟩) (Kd.R_far (p := ⟨gb131, 0, none⟩) (Kd.R_types HO108.out BK131.out (by decide)) (fun _ hk => hk.2) (.int .i64 t124)) (fun _ hk => hk.2) (.int .i64 t125)) (fun _ hk => hk.2) (.int .i64 t126)) (fun _ hk => hk.2) (.slice Ao38 t127.length co38)) (fun _ h_ => h_.1))) hb); have n1_ := Xam (Kd.R_below (by (with_reducible repeat (first | apply Xra | apply Xrn | apply Xrd)); exact (Kd.R_mono (Kd.R_far (p := ⟨gb131, 3, none⟩) (Kd.R_far (p := ⟨gb131, 2, none⟩) (Kd.R_far (p := ⟨gb131, 1, none⟩) (Kd.R_far (p := ⟨gb131, 0, none⟩) (Kd.R_types HO114.out BK131.out (by decide)) (fun _ hk => hk.2) (.int .i64 t124)) (fun _ hk => hk.2) (.int .i64 t125)) (fun _ hk => hk.2) (.int .i64 t126)) (fun _ hk => hk.2) (.slice Ao38 t127.length co38)) (fun _ h_ => h_.1))) hb); have n2_ := Xam (Kd.R_below (by (with_reducible repeat (first | apply Xra | apply Xrn | apply Xrd)); exact (Kd.R_mono (Kd.R_far (p := ⟨gb131, 3, none⟩) (Kd.R_far (p := ⟨gb131, 2, none⟩) (Kd.R_far (p := ⟨gb131, 1, none⟩) (Kd.R_far (p := ⟨gb131, 0, none⟩) (Kd.R_types HO122.out BK131.out (by decide)) (fun _ hk => hk.2) (.int .i64 t124)) (fun _ hk => hk.2) (.int .i64 t125)) (fun _ hk => hk.2) (.int .i64 t126)) (fun _ hk => hk.2) (.slice Ao38 t127.length co38)) (fun _ h_ => h_.1))) hb); have n3_ := Xam (Kd.R_below (by (with_reducible repeat (first | apply Xra | apply Xrn | apply Xrd)); exact (Kd.R_mono (Kd.R_far (p := ⟨gb131, 3, none⟩) (Kd.R_far (p := ⟨gb131, 2, none⟩) (Kd.R_far (p := ⟨gb131, 1, none⟩) (Kd.R_far (p := ⟨gb131, 0, none⟩) (Kd.R_types HO129.out BK131.out (by decide)) (fun _ hk => hk.2) (.int .i64 t124)) (fun _ hk => hk.2) (.int .i64 t125)) (fun _ hk => hk.2) (.int .i64 t126)) (fun _ hk => hk.2) (.slice Ao38 t127.length co38)) (fun _ h_ => h_.1))) hb); have n4_ := Xam (Xbb (g := gb101) (o := .cells #[.int .i64 a0_0, .int .i64 a0_1, .int .i64 a0_2, .slice A0_3 l0_3.length c0_3] 45 (0, 0)) (by (with_reducible repeat (first | refine Xkn ?_ _ | refine Xkd ?_ | refine Xka ?_ _)); refine blk_far ?_ NB101_131.out _; (with_reducible repeat (first | refine Xkn ?_ _ | refine Xkd ?_ | refine Xka ?_ _)); refine blk_far ?_ NB101_131.out _; (with_reducible repeat (first | refine Xkn ?_ _ | refine Xkd ?_ | refine Xka ?_ _)); refine blk_far ?_ NB101_131.out _; (with_reducible repeat (first | refine Xkn ?_ _ | refine Xkd ?_ | refine Xka ?_ _)); refine blk_far ?_ NB101_131.out _; (with_reducible repeat (first | refine Xkn ?_ _ | refine Xkd ?_ | refine Xka ?_ _)); exact BK101.out) hb); have n5_ := Xam (Xbb (g := gb116) (o := .cells #[.int .i64 t109, .int .i64 t110, .int .i64 t111, .slice Ao24 t112.length co24] 47 (0, 0)) (by (with_reducible repeat (first | refine Xkn ?_ _ | refine Xkd ?_ | refine Xka ?_ _)); refine blk_far ?_ NB116_131.out _; (with_reducible repeat (first | refine Xkn ?_ _ | refine Xkd ?_ | refine Xka ?_ _)); refine blk_far ?_ NB116_131.out _; (with_reducible repeat (first | refine Xkn ?_ _ | refine Xkd ?_ | refine Xka ?_ _)); refine blk_far ?_ NB116_131.out _; (with_reducible repeat (first | refine Xkn ?_ _ | refine Xkd ?_ | refine Xka ?_ _)); refine blk_far ?_ NB116_131.out _; (with_reducible repeat (first | refine Xkn ?_ _ | refine Xkd ?_ | refine Xka ?_ _)); exact BK116.out) hb); have n6_ := Xam (Xbb (g := gb123) (o := .cells #[.int .i64 t117, .int .i64 t118, .int .i64 t119, .slice Ao31 t120.length co31] 47 (0, 0)) (by (with_reducible repeat (first | refine Xkn ?_ _ | refine Xkd ?_ | refine Xka ?_ _)); refine blk_far ?_ NB123_131.out _; (with_reducible repeat (first | refine Xkn ?_ _ | refine Xkd ?_ | refine Xka ?_ _)); refine blk_far ?_ NB123_131.out _; (with_reducible repeat (first | refine Xkn ?_ _ | refine Xkd ?_ | refine Xka ?_ _)); refine blk_far ?_ NB123_131.out _; (with_reducible repeat (first | refine Xkn ?_ _ | refine Xkd ?_ | refine Xka ?_ _)); refine blk_far ?_ NB123_131.out _; (with_reducible repeat (first | refine Xkn ?_ _ | refine Xkd ?_ | refine Xka ?_ _)); exact BK123.out) hb); have n7_ := Xam (Xbb (g := gb131) (o := .cells #[.int .i64 t124, .int .i64 t125, .int .i64 t126, .slice Ao38 t127.length co38] 47 (0, 0)) (by (with_reducible repeat (first | refine Xkn ?_ _ | refine Xkd ?_ | refine Xka ?_ _)); refine blk_put (cs := #[.int .i64 t124, .int .i64 t125, .int .i64 t126, .slice none 0 0]) ?_ 3 _ rfl; (with_reducible repeat (first | refine Xkn ?_ _ | refine Xkd ?_ | refine Xka ?_ _)); refine blk_put (cs := #[.int .i64 t124, .int .i64 t125, .int .i64 0, .slice none 0 0]) ?_ 2 _ rfl; (with_reducible repeat (first | refine Xkn ?_ _ | refine Xkd ?_ | refine Xka ?_ _)); refine blk_put (cs := #[.int .i64 t124, .int .i64 0, .int .i64 0, .slice none 0 0]) ?_ 1 _ rfl; (with_reducible repeat (first | refine Xkn ?_ _ | refine Xkd ?_ | refine Xka ?_ _)); refine blk_put (cs := #[.int .i64 0, .int .i64 0, .int .i64 0, .slice none 0 0]) ?_ 0 _ rfl; (with_reducible repeat (first | refine Xkn ?_ _ | refine Xkd ?_ | refine Xka ?_ _)); exact BK131.out) hb); have n8_ := Xam (Xbt (by repeat (first | (with_reducible first | exact HB.out | apply Xba | apply Xbn | apply Xbd | refine Xbe ?_ GE101.out | refine Xbe ?_ GE116.out | refine Xbe ?_ GE123.out | refine Xbe ?_ GE131.out) | exact HB.out)) hb); clear HO108; clear HO114; clear HO122; clear HO129; clear BK101; clear BK116; clear BK123; clear BK131; clear HB; have HO108 := n0_; have HO114 := n1_; have HO122 := n2_; have HO129 := n3_; have BK101 := n4_; have BK116 := n5_; have BK123 := n6_; have BK131 := n7_; have HB := n8_; clear n0_ n1_ n2_ n3_ n4_ n5_ n6_ n7_ n8_; (try clear hb); (try clear hb2); (try clear hk); (try clear hi)))
        go_meet
        case rel => exact ⟨_, ((t130 != t115)), (by first | rfl | (simp; done) | (simp [*]; done)), H', ⟨by first | omega | exact Nat.le_refl _⟩, ⟨by (with_reducible repeat (first | apply Xra | apply Xrn | apply Xrd)); exact Kd.R_mono HO114.out (fun _ hk => ⟨hk.1.2, hk.2⟩)⟩, ⟨by (with_reducible repeat (first | apply Xra | apply Xrn | apply Xrd)); exact Kd.R_mono HO122.out (fun _ hk => ⟨hk.1.2, hk.2⟩)⟩, ⟨by (with_reducible repeat (first | apply Xra | apply Xrn | apply Xrd)); exact Kd.R_mono HO129.out (fun _ hk => ⟨hk.1.2, hk.2⟩)⟩, ⟨by (with_reducible repeat (first | refine Xkn ?_ _ | refine Xkd ?_ | refine Xka ?_ _)); exact BK101.out⟩, ⟨by (with_reducible repeat (first | refine Xkn ?_ _ | refine Xkd ?_ | refine Xka ?_ _)); exact BK116.out⟩, ⟨by (with_reducible repeat (first | refine Xkn ?_ _ | refine Xkd ?_ | refine Xka ?_ _)); exact BK123.out⟩, ⟨by (with_reducible repeat (first | refine Xkn ?_ _ | refine Xkd ?_ | refine Xka ?_ _)); exact BK131.out⟩, ⟨by repeat (first | (with_reducible first | exact HB.out | apply Xba | apply Xbn | apply Xbd | refine Xbe ?_ GE101.out | refine Xbe ?_ GE116.out | refine Xbe ?_ GE123.out | refine Xbe ?_ GE131.out) | exact HB.out)⟩⟩
      · replace c40 := Bool.eq_false_iff.mpr c40
        subst c40
        have H1 : (laws_FnExactRemoveMember.j0 k a1 a2 t115 t130 true a0_0 a0_1 a0_2 l0_3 t109 t110 t111 t112 t117 t118 t119 t120 t124 t125 t126 t127) = some r := by rw [if_neg (show ¬ (false = true) by decide)] at H; exact H
        clear H
        have H := H1
        clear H1
        have H' := Xam H
        clear H
        have hnb49 := NB131_101.out
        have hnc49 := NB101_131.out
        have hnb50 := NB131_116.out
        have hnc50 := NB116_131.out
        have hnb51 := NB131_123.out
        have hnc51 := NB123_131.out
        have hcz52_0 : w33.cell? ⟨gb131, 0, none⟩ = some (.int .i64 0) := (Xbc BK131.out 0).trans rfl
        have hcz52_1 : w33.cell? ⟨gb131, 1, none⟩ = some (.int .i64 0) := (Xbc BK131.out 1).trans rfl
        have hcz52_2 : w33.cell? ⟨gb131, 2, none⟩ = some (.int .i64 0) := (Xbc BK131.out 2).trans rfl
        have hcz52_3 : w33.cell? ⟨gb131, 3, none⟩ = some (.slice none 0 0) := (Xbc BK131.out 3).trans rfl
        have hfz52_0 := Xbf BK131.out 0
        have hfz52_1 := Xbf BK131.out 1
        have hfz52_2 := Xbf BK131.out 2
        have hfz52_3 := Xbf BK131.out 3
        have hnb53 := NB116_101.out
        have hnc53 := NB101_116.out
        have hnb54 := NB116_123.out
        have hnc54 := NB123_116.out
        have hcz55_0 : w33.cell? ⟨gb116, 0, none⟩ = some (.int .i64 t109) := (Xbc BK116.out 0).trans rfl
        have hcz55_1 : w33.cell? ⟨gb116, 1, none⟩ = some (.int .i64 t110) := (Xbc BK116.out 1).trans rfl
        have hcz55_2 : w33.cell? ⟨gb116, 2, none⟩ = some (.int .i64 t111) := (Xbc BK116.out 2).trans rfl
        have hcz55_3 : w33.cell? ⟨gb116, 3, none⟩ = some (.slice Ao24 t112.length co24) := (Xbc BK116.out 3).trans rfl
        have hfz55_0 := Xbf BK116.out 0
        have hfz55_1 := Xbf BK116.out 1
        have hfz55_2 := Xbf BK116.out 2
        have hfz55_3 := Xbf BK116.out 3
        go_wp2_with (first | ((with_reducible refine gate_callee (f := 30) rfl ?_); refine goesL_ (some 42) rfl rfl Try.func30 (by kernel_rfl) rfl #[.agg #[.int .i64 t124, .int .i64 t125, .int .i64 t126, .slice Ao38 t127.length co38], .agg #[.int .i64 t109, .int .i64 t110, .int .i64 t111, .slice Ao24 t112.length co24]] rfl (by (try simp only [List.map_toArray, List.map_cons, List.map_nil]); first | done | rfl | (simp only [List.length_drop, List.length_take]; rfl)) ?_; (with_reducible refine (laws_eqSenderGroup.calls k t124 t125 t126 _ _ t127 t109 t110 t111 _ _ t112 false _ ?side1 ?side2 ?side3 ?side4 A39.out).mono ?_); (case side1 => refine (Kd.R_reads' (e := 3) (base := w.heap.size) (ok := fun k_ => (((True ∧ some k_ ≠ (.slice Ao19 t106.length co19 : Value).ownBlock) ∧ some k_ ≠ (.slice Ao24 t112.length co24 : Value).ownBlock) ∧ some k_ ≠ (.slice Ao31 t120.length co31 : Value).ownBlock)) (n := t127.length) (c := co38) ?_).2.2; exact (by (with_reducible repeat (first | apply Xra | apply Xrn | apply Xrd)); exact (Kd.R_mono (Kd.R_far (p := ⟨gb131, 3, none⟩) (Kd.R_far (p := ⟨gb131, 2, none⟩) (Kd.R_far (p := ⟨gb131, 1, none⟩) (Kd.R_far (p := ⟨gb131, 0, none⟩) (Kd.R_types HO129.out BK131.out (by decide)) (fun _ hk => hk.2) (.int .i64 t124)) (fun _ hk => hk.2) (.int .i64 t125)) (fun _ hk => hk.2) (.int .i64 t126)) (fun _ hk => hk.2) (.slice Ao38 t127.length co38)) (fun _ h_ => h_.1)))); (case side2 => exact (Kd.R_reads' HO129.out).2.1); (case side3 => refine (Kd.R_reads' (e := 3) (base := w.heap.size) (ok := fun k_ => (((True ∧ some k_ ≠ (.slice Ao19 t106.length co19 : Value).ownBlock) ∧ some k_ ≠ (.slice Ao31 t120.length co31 : Value).ownBlock) ∧ some k_ ≠ (.slice Ao38 t127.length co38 : Value).ownBlock)) (n := t112.length) (c := co24) ?_).2.2; exact (by (with_reducible repeat (first | apply Xra | apply Xrn | apply Xrd)); exact (Kd.R_mono (Kd.R_far (p := ⟨gb131, 3, none⟩) (Kd.R_far (p := ⟨gb131, 2, none⟩) (Kd.R_far (p := ⟨gb131, 1, none⟩) (Kd.R_far (p := ⟨gb131, 0, none⟩) (Kd.R_types HO114.out BK131.out (by decide)) (fun _ hk => hk.2) (.int .i64 t124)) (fun _ hk => hk.2) (.int .i64 t125)) (fun _ hk => hk.2) (.int .i64 t126)) (fun _ hk => hk.2) (.slice Ao38 t127.length co38)) (fun _ h_ => h_.1)))); (case side4 => exact (Kd.R_reads' HO114.out).2.1); rintro e w56 ⟨rfl, hb⟩; refine ⟨_, rfl, ?_⟩; have n0_ := Xam (Kd.R_below (by (with_reducible repeat (first | apply Xra | apply Xrn | apply Xrd)); exact (Kd.R_mono (Kd.R_far (p := ⟨gb131, 3, none⟩) (Kd.R_far (p := ⟨gb131, 2, none⟩) (Kd.R_far (p := ⟨gb131, 1, none⟩) (Kd.R_far (p := ⟨gb131, 0, none⟩) (Kd.R_types HO108.out BK131.out (by decide)) (fun _ hk => hk.2) (.int .i64 t124)) (fun _ hk => hk.2) (.int .i64 t125)) (fun _ hk => hk.2) (.int .i64 t126)) (fun _ hk => hk.2) (.slice Ao38 t127.length co38)) (fun _ h_ => h_.1))) hb); have n1_ := Xam (Kd.R_below (by (with_reducible repeat (first | apply Xra | apply Xrn | apply Xrd)); exact (Kd.R_mono (Kd.R_far (p := ⟨gb131, 3, none⟩) (Kd.R_far (p := ⟨gb131, 2, none⟩) (Kd.R_far (p := ⟨gb131, 1, none⟩) (Kd.R_far (p := ⟨gb131, 0, none⟩) (Kd.R_types HO114.out BK131.out (by decide)) (fun _ hk => hk.2) (.int .i64 t124)) (fun _ hk => hk.2) (.int .i64 t125)) (fun _ hk => hk.2) (.int .i64 t126)) (fun _ hk => hk.2) (.slice Ao38 t127.length co38)) (fun _ h_ => h_.1))) hb); have n2_ := Xam (Kd.R_below (by (with_reducible repeat (first | apply Xra | apply Xrn | apply Xrd)); exact (Kd.R_mono (Kd.R_far (p := ⟨gb131, 3, none⟩) (Kd.R_far (p := ⟨gb131, 2, none⟩) (Kd.R_far (p := ⟨gb131, 1, none⟩) (Kd.R_far (p := ⟨gb131, 0, none⟩) (Kd.R_types HO122.out BK131.out (by decide)) (fun _ hk => hk.2) (.int .i64 t124)) (fun _ hk => hk.2) (.int .i64 t125)) (fun _ hk => hk.2) (.int .i64 t126)) (fun _ hk => hk.2) (.slice Ao38 t127.length co38)) (fun _ h_ => h_.1))) hb); have n3_ := Xam (Kd.R_below (by (with_reducible repeat (first | apply Xra | apply Xrn | apply Xrd)); exact (Kd.R_mono (Kd.R_far (p := ⟨gb131, 3, none⟩) (Kd.R_far (p := ⟨gb131, 2, none⟩) (Kd.R_far (p := ⟨gb131, 1, none⟩) (Kd.R_far (p := ⟨gb131, 0, none⟩) (Kd.R_types HO129.out BK131.out (by decide)) (fun _ hk => hk.2) (.int .i64 t124)) (fun _ hk => hk.2) (.int .i64 t125)) (fun _ hk => hk.2) (.int .i64 t126)) (fun _ hk => hk.2) (.slice Ao38 t127.length co38)) (fun _ h_ => h_.1))) hb); have n4_ := Xam (Xbb (g := gb101) (o := .cells #[.int .i64 a0_0, .int .i64 a0_1, .int .i64 a0_2, .slice A0_3 l0_3.length c0_3] 45 (0, 0)) (by (with_reducible repeat (first | refine Xkn ?_ _ | refine Xkd ?_ | refine Xka ?_ _)); refine blk_far ?_ NB101_131.out _; (with_reducible repeat (first | refine Xkn ?_ _ | refine Xkd ?_ | refine Xka ?_ _)); refine blk_far ?_ NB101_131.out _; (with_reducible repeat (first | refine Xkn ?_ _ | refine Xkd ?_ | refine Xka ?_ _)); refine blk_far ?_ NB101_131.out _; (with_reducible repeat (first | refine Xkn ?_ _ | refine Xkd ?_ | refine Xka ?_ _)); refine blk_far ?_ NB101_131.out _; (with_reducible repeat (first | refine Xkn ?_ _ | refine Xkd ?_ | refine Xka ?_ _)); exact BK101.out) hb); have n5_ := Xam (Xbb (g := gb116) (o := .cells #[.int .i64 t109, .int .i64 t110, .int .i64 t111, .slice Ao24 t112.length co24] 47 (0, 0)) (by (with_reducible repeat (first | refine Xkn ?_ _ | refine Xkd ?_ | refine Xka ?_ _)); refine blk_far ?_ NB116_131.out _; (with_reducible repeat (first | refine Xkn ?_ _ | refine Xkd ?_ | refine Xka ?_ _)); refine blk_far ?_ NB116_131.out _; (with_reducible repeat (first | refine Xkn ?_ _ | refine Xkd ?_ | refine Xka ?_ _)); refine blk_far ?_ NB116_131.out _; (with_reducible repeat (first | refine Xkn ?_ _ | refine Xkd ?_ | refine Xka ?_ _)); refine blk_far ?_ NB116_131.out _; (with_reducible repeat (first | refine Xkn ?_ _ | refine Xkd ?_ | refine Xka ?_ _)); exact BK116.out) hb); have n6_ := Xam (Xbb (g := gb123) (o := .cells #[.int .i64 t117, .int .i64 t118, .int .i64 t119, .slice Ao31 t120.length co31] 47 (0, 0)) (by (with_reducible repeat (first | refine Xkn ?_ _ | refine Xkd ?_ | refine Xka ?_ _)); refine blk_far ?_ NB123_131.out _; (with_reducible repeat (first | refine Xkn ?_ _ | refine Xkd ?_ | refine Xka ?_ _)); refine blk_far ?_ NB123_131.out _; (with_reducible repeat (first | refine Xkn ?_ _ | refine Xkd ?_ | refine Xka ?_ _)); refine blk_far ?_ NB123_131.out _; (with_reducible repeat (first | refine Xkn ?_ _ | refine Xkd ?_ | refine Xka ?_ _)); refine blk_far ?_ NB123_131.out _; (with_reducible repeat (first | refine Xkn ?_ _ | refine Xkd ?_ | refine Xka ?_ _)); exact BK123.out) hb); have n7_ := Xam (Xbb (g := gb131) (o := .cells #[.int .i64 t124, .int .i64 t125, .int .i64 t126, .slice Ao38 t127.length co38] 47 (0, 0)) (by (with_reducible repeat (first | refine Xkn ?_ _ | refine Xkd ?_ | refine Xka ?_ _)); refine blk_put (cs := #[.int .i64 t124, .int .i64 t125, .int .i64 t126, .slice none 0 0]) ?_ 3 _ rfl; (with_reducible repeat (first | refine Xkn ?_ _ | refine Xkd ?_ | refine Xka ?_ _)); refine blk_put (cs := #[.int .i64 t124, .int .i64 t125, .int .i64 0, .slice none 0 0]) ?_ 2 _ rfl; (with_reducible repeat (first | refine Xkn ?_ _ | refine Xkd ?_ | refine Xka ?_ _)); refine blk_put (cs := #[.int .i64 t124, .int .i64 0, .int .i64 0, .slice none 0 0]) ?_ 1 _ rfl; (with_reducible repeat (first | refine Xkn ?_ _ | refine Xkd ?_ | refine Xka ?_ _)); refine blk_put (cs := #[.int .i64 0, .int .i64 0, .int .i64 0, .slice none 0 0]) ?_ 0 _ rfl; (with_reducible repeat (first | refine Xkn ?_ _ | refine Xkd ?_ | refine Xka ?_ _)); exact BK131.out) hb); have n8_ := Xam (Xbt (by repeat (first | (with_reducible first | exact HB.out | apply Xba | apply Xbn | apply Xbd | refine Xbe ?_ GE101.out | refine Xbe ?_ GE116.out | refine Xbe ?_ GE123.out | refine Xbe ?_ GE131.out) | exact HB.out)) hb); clear HO108; clear HO114; clear HO122; clear HO129; clear BK101; clear BK116; clear BK123; clear BK131; clear HB; have HO108 := n0_; have HO114 := n1_; have HO122 := n2_; have HO129 := n3_; have BK101 := n4_; have BK116 := n5_; have BK123 := n6_; have BK131 := n7_; have HB := n8_; clear n0_ n1_ n2_ n3_ n4_ n5_ n6_ n7_ n8_; (try clear hb); (try clear hb2); (try clear hk); (try clear hi)))
        go_meet
        case rel => exact ⟨_, (true), (by first | rfl | (simp; done) | (simp [*]; done)), H', ⟨by first | omega | exact Nat.le_refl _⟩, ⟨by (with_reducible repeat (first | apply Xra | apply Xrn | apply Xrd)); exact Kd.R_mono HO114.out (fun _ hk => ⟨hk.1.2, hk.2⟩)⟩, ⟨by (with_reducible repeat (first | apply Xra | apply Xrn | apply Xrd)); exact Kd.R_mono HO122.out (fun _ hk => ⟨hk.1.2, hk.2⟩)⟩, ⟨by (with_reducible repeat (first | apply Xra | apply Xrn | apply Xrd)); exact Kd.R_mono HO129.out (fun _ hk => ⟨hk.1.2, hk.2⟩)⟩, ⟨by (with_reducible repeat (first | refine Xkn ?_ _ | refine Xkd ?_ | refine Xka ?_ _)); exact BK101.out⟩, ⟨by (with_reducible repeat (first | refine Xkn ?_ _ | refine Xkd ?_ | refine Xka ?_ _)); exact BK116.out⟩, ⟨by (with_reducible repeat (first | refine Xkn ?_ _ | refine Xkd ?_ | refine Xka ?_ _)); exact BK123.out⟩, ⟨by (with_reducible repeat (first | refine Xkn ?_ _ | refine Xkd ?_ | refine Xka ?_ _)); exact BK131.out⟩, ⟨by repeat (first | (with_reducible first | exact HB.out | apply Xba | apply Xbn | apply Xbd | refine Xbe ?_ GE101.out | refine Xbe ?_ GE116.out | refine Xbe ?_ GE123.out | refine Xbe ?_ GE131.out) | exact HB.out)⟩⟩
    case rest =>
      clear HC13
      try clear c2
      try clear p2
      try clear c3
      try clear c4
      try clear c5
      try clear c5b0
      try clear c22
      try clear c26
      try clear c27
      try clear c28
      try clear c29
      try clear c30
      try clear c34
      try clear c35
      try clear c36
      try clear c40
      try clear c41
      try clear c42
      try clear c43
      try clear c45
      try clear c46
      try clear c49
      try clear c50
      try clear c51
      try clear c53
      try clear c54
      try clear hcz15_0
      try clear hcz15_1
      try clear hcz15_2
      try clear hcz15_3
      try clear hcz17_0
      try clear hcz17_1
      try clear hcz17_2
      try clear hcz17_3
      try clear hcz23_0
      try clear hcz23_1
      try clear hcz23_2
      try clear hcz23_3
      try clear hcz25_0
      try clear hcz25_1
      try clear hcz25_2
      try clear hcz25_3
      try clear hcz30_0
      try clear hcz30_1
      try clear hcz30_2
      try clear hcz30_3
      try clear hcz37_0
      try clear hcz37_1
      try clear hcz37_2
      try clear hcz37_3
      try clear hcz44_0
      try clear hcz44_1
      try clear hcz44_2
      try clear hcz44_3
      try clear hcz47_0
      try clear hcz47_1
      try clear hcz47_2
      try clear hcz47_3
      try clear hcz52_0
      try clear hcz52_1
      try clear hcz52_2
      try clear hcz52_3
      try clear hcz55_0
      try clear hcz55_1
      try clear hcz55_2
      try clear hcz55_3
      try clear hcz7_0
      try clear hcz7_1
      try clear hcz7_2
      try clear hcz7_3
      try clear hfz15_0
      try clear hfz15_1
      try clear hfz15_2
      try clear hfz15_3
      try clear hfz17_0
      try clear hfz17_1
      try clear hfz17_2
      try clear hfz17_3
      try clear hfz23_0
      try clear hfz23_1
      try clear hfz23_2
      try clear hfz23_3
      try clear hfz25_0
      try clear hfz25_1
      try clear hfz25_2
      try clear hfz25_3
      try clear hfz30_0
      try clear hfz30_1
      try clear hfz30_2
      try clear hfz30_3
      try clear hfz37_0
      try clear hfz37_1
      try clear hfz37_2
      try clear hfz37_3
      try clear hfz44_0
      try clear hfz44_1
      try clear hfz44_2
      try clear hfz44_3
      try clear hfz47_0
      try clear hfz47_1
      try clear hfz47_2
      try clear hfz47_3
      try clear hfz52_0
      try clear hfz52_1
      try clear hfz52_2
      try clear hfz52_3
      try clear hfz55_0
      try clear hfz55_1
      try clear hfz55_2
      try clear hfz55_3
      try clear hfz7_0
      try clear hfz7_1
      try clear hfz7_2
      try clear hfz7_3
      obtain ⟨kq, x48_12, rfl, HA, HJ12, HO_117003, HO_124003, HO_132003, BK101, BK116, BK123, BK131, HB⟩ := hcut
      cases kq with
      | zero => exact absurd HA.out (by simp [laws_FnExactRemoveMember.j0])
      | succ kj12 =>
        have H := HA.out
        clear HA
        simp only [laws_FnExactRemoveMember.j0] at H
        by_cases c57 : x48_12 = true
        · subst c57
          have H1 : (some false) = some r := by rw [if_pos rfl] at H; exact H
          clear H
          have H := H1
          clear H1
          obtain rfl := Option.some.inj H
          go_wp2
          go_ret
          exact ⟨by first | rfl | (simp [errW_none, errW_some] <;> rfl) | (simp [*, errW_none, errW_some] <;> rfl), by repeat (first | (with_reducible first | exact HB.out | apply Xba | apply Xbn | apply Xbd | refine Xbe ?_ GE101.out | refine Xbe ?_ GE116.out | refine Xbe ?_ GE123.out | refine Xbe ?_ GE131.out) | exact HB.out)⟩
        · replace c57 := Bool.eq_false_iff.mpr c57
          subst c57
          have H1 : ((laws_toSenderGroup.f kj12 a0_0 a0_1 a0_2 l0_3).bind fun bt133 => ((laws_eqSenderGroup.f kj12 t117 t118 t119 t120 bt133.1 bt133.2.1 bt133.2.2.1 bt133.2.2.2).bind fun t139 => (if t139 = true then ((laws_markSenderGroup.f kj12 t117 t118 t119 t120 1).bind fun bt140 => (if bt140.1 < 0 then (laws_FnExactRemoveMember.j1 kj12 a1 a2 t115 true a0_0 a0_1 a0_2 l0_3 t109 t110 t111 t112 t124 t125 t126 t127) else ((laws_eqSenderGroup.f kj12 t124 t125 t126 t127 t109 t110 t111 t112).bind fun t142 => (if t142 = true then (laws_FnExactRemoveMember.j1 kj12 a1 a2 t115 (t130 != t115) a0_0 a0_1 a0_2 l0_3 t109 t110 t111 t112 t124 t125 t126 t127) else (laws_FnExactRemoveMember.j1 kj12 a1 a2 t115 true a0_0 a0_1 a0_2 l0_3 t109 t110 t111 t112 t124 t125 t126 t127))))) else (some false)))) = some r := by rw [if_neg (show ¬ (false = true) by decide)] at H; exact H
          clear H
          have H := H1
          clear H1
          replace H := Option.bind_eq_some_iff.mp H
          obtain ⟨⟨t133, t134, t135, t136⟩, A580, H⟩ := H
          replace H : ((laws_eqSenderGroup.f kj12 t117 t118 t119 t120 t133 t134 t135 t136).bind fun t139 => (if t139 = true then ((laws_markSenderGroup.f kj12 t117 t118 t119 t120 1).bind fun bt140 => (if bt140.1 < 0 then (laws_FnExactRemoveMember.j1 kj12 a1 a2 t115 true a0_0 a0_1 a0_2 l0_3 t109 t110 t111 t112 t124 t125 t126 t127) else ((laws_eqSenderGroup.f kj12 t124 t125 t126 t127 t109 t110 t111 t112).bind fun t142 => (if t142 = true then (laws_FnExactRemoveMember.j1 kj12 a1 a2 t115 (t130 != t115) a0_0 a0_1 a0_2 l0_3 t109 t110 t111 t112 t124 t125 t126 t127) else (laws_FnExactRemoveMember.j1 kj12 a1 a2 t115 true a0_0 a0_1 a0_2 l0_3 t109 t110 t111 t112 t124 t125 t126 t127))))) else (some false))) = some r := H
          have A58 := Xam A580
          clear A580
          replace H := Option.bind_eq_some_iff.mp H
          obtain ⟨t139, A590, H⟩ := H
          replace H : (if t139 = true then ((laws_markSenderGroup.f kj12 t117 t118 t119 t120 1).bind fun bt140 => (if bt140.1 < 0 then (laws_FnExactRemoveMember.j1 kj12 a1 a2 t115 true a0_0 a0_1 a0_2 l0_3 t109 t110 t111 t112 t124 t125 t126 t127) else ((laws_eqSenderGroup.f kj12 t124 t125 t126 t127 t109 t110 t111 t112).bind fun t142 => (if t142 = true then (laws_FnExactRemoveMember.j1 kj12 a1 a2 t115 (t130 != t115) a0_0 a0_1 a0_2 l0_3 t109 t110 t111 t112 t124 t125 t126 t127) else (laws_FnExactRemoveMember.j1 kj12 a1 a2 t115 true a0_0 a0_1 a0_2 l0_3 t109 t110 t111 t112 t124 t125 t126 t127))))) else (some false)) = some r := H
          have A59 := Xam A590
          clear A590
          by_cases c60 : t139 = true
          · subst c60
            have H1 : ((laws_markSenderGroup.f kj12 t117 t118 t119 t120 1).bind fun bt140 => (if bt140.1 < 0 then (laws_FnExactRemoveMember.j1 kj12 a1 a2 t115 true a0_0 a0_1 a0_2 l0_3 t109 t110 t111 t112 t124 t125 t126 t127) else ((laws_eqSenderGroup.f kj12 t124 t125 t126 t127 t109 t110 t111 t112).bind fun t142 => (if t142 = true then (laws_FnExactRemoveMember.j1 kj12 a1 a2 t115 (t130 != t115) a0_0 a0_1 a0_2 l0_3 t109 t110 t111 t112 t124 t125 t126 t127) else (laws_FnExactRemoveMember.j1 kj12 a1 a2 t115 true a0_0 a0_1 a0_2 l0_3 t109 t110 t111 t112 t124 t125 t126 t127))))) = some r := by rw [if_pos rfl] at H; exact H
            clear H
            have H := H1
            clear H1
            replace H := Option.bind_eq_some_iff.mp H
            obtain ⟨⟨t140, t141⟩, A610, H⟩ := H
            replace H : (if t140 < 0 then (laws_FnExactRemoveMember.j1 kj12 a1 a2 t115 true a0_0 a0_1 a0_2 l0_3 t109 t110 t111 t112 t124 t125 t126 t127) else ((laws_eqSenderGroup.f kj12 t124 t125 t126 t127 t109 t110 t111 t112).bind fun t142 => (if t142 = true then (laws_FnExactRemoveMember.j1 kj12 a1 a2 t115 (t130 != t115) a0_0 a0_1 a0_2 l0_3 t109 t110 t111 t112 t124 t125 t126 t127) else (laws_FnExactRemoveMember.j1 kj12 a1 a2 t115 true a0_0 a0_1 a0_2 l0_3 t109 t110 t111 t112 t124 t125 t126 t127)))) = some r := H
            have A61 := Xam A610
            clear A610
            have HC62 := Xam H
            clear H
            try go_wp2
            have n0_ := Xam (Xrd HO_117003.out)
            have n1_ := Xam (Xrd HO_124003.out)
            have n2_ := Xam (Xrd HO_132003.out)
            have n3_ := Xam (Xkd BK101.out)
            have n4_ := Xam (Xkd BK116.out)
            have n5_ := Xam (Xkd BK123.out)
            have n6_ := Xam (Xkd BK131.out)
            have n7_ := Xam (Xbd HB.out)
            clear HO_117003
            clear HO_124003
            clear HO_132003
            clear BK101
            clear BK116
            clear BK123
            clear BK131
            clear HB
            have HO_117003 := n0_
            have HO_124003 := n1_
            have HO_132003 := n2_
            have BK101 := n3_
            have BK116 := n4_
            have BK123 := n5_
            have BK131 := n6_
            have HB := n7_
            clear n0_ n1_ n2_ n3_ n4_ n5_ n6_ n7_
            refine start_ (n := 5) (S := fun w' => w'.cell? ⟨gb123, 0, none⟩ = some (.int .i64 t117) ∧ w'.cell? ⟨gb123, 1, none⟩ = some (.int .i64 t118) ∧ w'.cell? ⟨gb123, 2, none⟩ = some (.int .i64 t119) ∧ w'.cell? ⟨gb123, 3, none⟩ = some (.slice Ao31 t120.length co31) ∧ w'.cell? ⟨gb101, 0, none⟩ = some (.int .i64 a0_0) ∧ w'.cell? ⟨gb101, 1, none⟩ = some (.int .i64 a0_1) ∧ w'.cell? ⟨gb101, 2, none⟩ = some (.int .i64 a0_2) ∧ w'.cell? ⟨gb101, 3, none⟩ = some (.slice A0_3 l0_3.length c0_3)) (ds := []) #[false, false, false, false, false] (by kernel_rfl) rfl rfl ⟨(Xbc BK123.out 0).trans rfl, (Xbc BK123.out 1).trans rfl, (Xbc BK123.out 2).trans rfl, (Xbc BK123.out 3).trans rfl, (Xbc BK101.out 0).trans rfl, (Xbc BK101.out 1).trans rfl, (Xbc BK101.out 2).trans rfl, (Xbc BK101.out 3).trans rfl⟩ (fun hHeld => ?_)
            generalize wc.drew = w63 at HO_117003 HO_124003 HO_132003 BK101 BK116 BK123 BK131 HB hHeld ⊢
            refine take_ (i := 0) (N := some 49) (v := ?_) (a' := ?_) #[true, false, false, false, false] rfl rfl (by kernel_rfl) (fun _ _ _ h => h) (Or.inl ⟨by rfl, ?_⟩) hHeld ?_ ?_
            rotate_left
            · rintro w' ⟨s0, s1, s2, s3, s4, s5, s6, s7⟩
              go_simp
              with_reducible rfl
            rotate_left
            · simp only [Act.put, List.setIfInBounds_toArray, List.set_cons_zero, List.set_cons_succ, i64_w, i32_w]
              rfl
            refine take_ (i := 1) (N := some 50) (v := ?_) (a' := ?_) #[true, true, false, false, false] rfl rfl (by kernel_rfl) (fun _ _ _ h => h) (Or.inl ⟨by rfl, ?_⟩) hHeld ?_ ?_
            rotate_left
            · rintro w' ⟨s0, s1, s2, s3, s4, s5, s6, s7⟩
              go_simp
              with_reducible rfl
            rotate_left
            · simp only [Act.put, List.setIfInBounds_toArray, List.set_cons_zero, List.set_cons_succ, i64_w, i32_w]
              rfl
            refine one_ (i := 2) (N := some 51) #[true, true, true, false, false] rfl rfl (by kernel_rfl) (by decide) (fun K hK => ?_)
            refine goes_ Try.func28 (by kernel_rfl) rfl #[.agg #[.int .i64 a0_0, .int .i64 a0_1, .int .i64 a0_2, .slice A0_3 l0_3.length c0_3]] (by rfl) rfl rfl (by (try simp only [List.map_toArray, List.map_cons, List.map_nil]); first | done | rfl | (simp only [List.length_drop, List.length_take]; rfl)) ?_
            with_reducible refine (laws_toSenderGroup.calls kj12 a0_0 a0_1 a0_2 _ _ l0_3 t133 t134 t135 t136 _ ?side1 ?side2 A58.out).mono ?_
            (case side1 => repeat (first | exact (Kd.C_below HR0_3.out HB.out) | (with_reducible refine Xca ?_ _) | (with_reducible refine Xcn ?_ _) | (with_reducible refine Xcd ?_)))
            (case side2 => exact HC0_3.out)
            rintro e w64 ⟨v137, rfl, ho0, hb⟩
            refine ⟨_, rfl, ?_⟩
            have n0_ := Xam (Kd.R_elder' (by (with_reducible repeat (first | apply Xra | apply Xrn | apply Xrd)); exact HO_117003.out) (Kd.R_base ho0) hb)
            have n1_ := Xam (Kd.R_elder' (by (with_reducible repeat (first | apply Xra | apply Xrn | apply Xrd)); exact HO_124003.out) (Kd.R_base ho0) hb)
            have n2_ := Xam (Kd.R_elder' (by (with_reducible repeat (first | apply Xra | apply Xrn | apply Xrd)); exact HO_132003.out) (Kd.R_base ho0) hb)
            have n3_ := Xam (Kd.R_lower (Kd.R_new' (Kd.R_new' (Kd.R_new' ho0 (Kd.R_lt (by (with_reducible repeat (first | apply Xra | apply Xrn | apply Xrd)); exact HO_117003.out))) (Kd.R_lt (by (with_reducible repeat (first | apply Xra | apply Xrn | apply Xrd)); exact HO_124003.out))) (Kd.R_lt (by (with_reducible repeat (first | apply Xra | apply Xrn | apply Xrd)); exact HO_132003.out))) (Xbs (by repeat (first | (with_reducible first | exact HB.out | apply Xba | apply Xbn | apply Xbd | refine Xbe ?_ GE101.out | refine Xbe ?_ GE116.out | refine Xbe ?_ GE123.out | refine Xbe ?_ GE131.out) | exact HB.out))))
            have n4_ := Xam (Xbb (g := gb101) (o := .cells #[.int .i64 a0_0, .int .i64 a0_1, .int .i64 a0_2, .slice A0_3 l0_3.length c0_3] 45 (0, 0)) (by (with_reducible repeat (first | refine Xkn ?_ _ | refine Xkd ?_ | refine Xka ?_ _)); exact BK101.out) hb)
            have n5_ := Xam (Xbb (g := gb116) (o := .cells #[.int .i64 t109, .int .i64 t110, .int .i64 t111, .slice Ao24 t112.length co24] 47 (0, 0)) (by (with_reducible repeat (first | refine Xkn ?_ _ | refine Xkd ?_ | refine Xka ?_ _)); exact BK116.out) hb)
            have n6_ := Xam (Xbb (g := gb123) (o := .cells #[.int .i64 t117, .int .i64 t118, .int .i64 t119, .slice Ao31 t120.length co31] 47 (0, 0)) (by (with_reducible repeat (first | refine Xkn ?_ _ | refine Xkd ?_ | refine Xka ?_ _)); exact BK123.out) hb)
            have n7_ := Xam (Xbb (g := gb131) (o := .cells #[.int .i64 t124, .int .i64 t125, .int .i64 t126, .slice Ao38 t127.length co38] 47 (0, 0)) (by (with_reducible repeat (first | refine Xkn ?_ _ | refine Xkd ?_ | refine Xka ?_ _)); exact BK131.out) hb)
            have n8_ := Xam (Xbt (by repeat (first | (with_reducible first | exact HB.out | apply Xba | apply Xbn | apply Xbd | refine Xbe ?_ GE101.out | refine Xbe ?_ GE116.out | refine Xbe ?_ GE123.out | refine Xbe ?_ GE131.out) | exact HB.out)) hb)
            clear HO_117003
            clear HO_124003
            clear HO_132003
            clear BK101
            clear BK116
            clear BK123
            clear BK131
            clear HB
            have HO_117003 := n0_
            have HO_124003 := n1_
            have HO_132003 := n2_
            have HO138 := n3_
            have BK101 := n4_
            have BK116 := n5_
            have BK123 := n6_
            have BK131 := n7_
            have HB := n8_
            clear n0_ n1_ n2_ n3_ n4_ n5_ n6_ n7_ n8_
            (try clear hb)
            (try clear hb2)
            (try clear hk)
            (try clear hi)
            (try clear ho0)
            obtain ⟨Ao65, co65, eo65⟩ := Kd.R_slice HO138.out
            (first | subst eo65 | (injection eo65 with f1_ f2_ f3_; have f4_ := f1_.symm; have f5_ := f3_.symm; clear f1_ f2_ f3_; subst f4_; subst f5_))
            refine hK.out _ _ ⟨(Xbc BK123.out 0).trans rfl, (Xbc BK123.out 1).trans rfl, (Xbc BK123.out 2).trans rfl, (Xbc BK123.out 3).trans rfl, (Xbc BK101.out 0).trans rfl, (Xbc BK101.out 1).trans rfl, (Xbc BK101.out 2).trans rfl, (Xbc BK101.out 3).trans rfl⟩ (fun hHeld => ?_)
            clear hK K
            refine norm_ (a' := ?_) ?_ ?_
            rotate_left
            · show Act.put _ (some 51) _ = _
              simp only [Act.put, List.setIfInBounds_toArray, List.set_cons_zero, List.set_cons_succ, i64_w, i32_w]
              rfl
            refine one_ (i := 3) (N := some 52) #[true, true, true, true, false] rfl rfl (by kernel_rfl) (by decide) (fun K hK => ?_)
            refine goes_ Try.func30 (by kernel_rfl) rfl #[.agg #[.int .i64 t117, .int .i64 t118, .int .i64 t119, .slice Ao31 t120.length co31], .agg #[.int .i64 t133, .int .i64 t134, .int .i64 t135, .slice Ao65 t136.length co65]] (by rfl) rfl rfl (by (try simp only [List.map_toArray, List.map_cons, List.map_nil]); first | done | rfl | (simp only [List.length_drop, List.length_take]; rfl)) ?_
            with_reducible refine (laws_eqSenderGroup.calls kj12 t117 t118 t119 _ _ t120 t133 t134 t135 _ _ t136 true _ ?side1 ?side2 ?side3 ?side4 A59.out).mono ?_
            (case side1 => repeat (first | exact (Kd.R_reads' HO_124003.out).2.2 | (with_reducible refine Xca ?_ _) | (with_reducible refine Xcn ?_ _) | (with_reducible refine Xcd ?_)))
            (case side2 => exact (Kd.R_reads' HO_124003.out).2.1)
            (case side3 => repeat (first | exact (Kd.R_reads' HO138.out).2.2 | (with_reducible refine Xca ?_ _) | (with_reducible refine Xcn ?_ _) | (with_reducible refine Xcd ?_)))
            (case side4 => exact (Kd.R_reads' HO138.out).2.1)
            rintro e w66 ⟨rfl, hb⟩
            refine ⟨_, rfl, ?_⟩
            have n0_ := Xam (Kd.R_below (by (with_reducible repeat (first | apply Xra | apply Xrn | apply Xrd)); exact HO_117003.out) hb)
            have n1_ := Xam (Kd.R_below (by (with_reducible repeat (first | apply Xra | apply Xrn | apply Xrd)); exact HO_124003.out) hb)
            have n2_ := Xam (Kd.R_below (by (with_reducible repeat (first | apply Xra | apply Xrn | apply Xrd)); exact HO_132003.out) hb)
            have n3_ := Xam (Kd.R_below (by (with_reducible repeat (first | apply Xra | apply Xrn | apply Xrd)); exact HO138.out) hb)
            have n4_ := Xam (Xbb (g := gb101) (o := .cells #[.int .i64 a0_0, .int .i64 a0_1, .int .i64 a0_2, .slice A0_3 l0_3.length c0_3] 45 (0, 0)) (by (with_reducible repeat (first | refine Xkn ?_ _ | refine Xkd ?_ | refine Xka ?_ _)); exact BK101.out) hb)
            have n5_ := Xam (Xbb (g := gb116) (o := .cells #[.int .i64 t109, .int .i64 t110, .int .i64 t111, .slice Ao24 t112.length co24] 47 (0, 0)) (by (with_reducible repeat (first | refine Xkn ?_ _ | refine Xkd ?_ | refine Xka ?_ _)); exact BK116.out) hb)
            have n6_ := Xam (Xbb (g := gb123) (o := .cells #[.int .i64 t117, .int .i64 t118, .int .i64 t119, .slice Ao31 t120.length co31] 47 (0, 0)) (by (with_reducible repeat (first | refine Xkn ?_ _ | refine Xkd ?_ | refine Xka ?_ _)); exact BK123.out) hb)
            have n7_ := Xam (Xbb (g := gb131) (o := .cells #[.int .i64 t124, .int .i64 t125, .int .i64 t126, .slice Ao38 t127.length co38] 47 (0, 0)) (by (with_reducible repeat (first | refine Xkn ?_ _ | refine Xkd ?_ | refine Xka ?_ _)); exact BK131.out) hb)
            have n8_ := Xam (Xbt (by repeat (first | (with_reducible first | exact HB.out | apply Xba | apply Xbn | apply Xbd | refine Xbe ?_ GE101.out | refine Xbe ?_ GE116.out | refine Xbe ?_ GE123.out | refine Xbe ?_ GE131.out) | exact HB.out)) hb)
            clear HO_117003
            clear HO_124003
            clear HO_132003
            clear HO138
            clear BK101
            clear BK116
            clear BK123
            clear BK131
            clear HB
            have HO_117003 := n0_
            have HO_124003 := n1_
            have HO_132003 := n2_
            have HO138 := n3_
            have BK101 := n4_
            have BK116 := n5_
            have BK123 := n6_
            have BK131 := n7_
            have HB := n8_
            clear n0_ n1_ n2_ n3_ n4_ n5_ n6_ n7_ n8_
            (try clear hb)
            (try clear hb2)
            (try clear hk)
            (try clear hi)
            refine hK.out _ _ ⟨(Xbc BK123.out 0).trans rfl, (Xbc BK123.out 1).trans rfl, (Xbc BK123.out 2).trans rfl, (Xbc BK123.out 3).trans rfl, (Xbc BK101.out 0).trans rfl, (Xbc BK101.out 1).trans rfl, (Xbc BK101.out 2).trans rfl, (Xbc BK101.out 3).trans rfl⟩ (fun hHeld => ?_)
            clear hK K
            refine norm_ (a' := ?_) ?_ ?_
            rotate_left
            · show Act.put _ (some 52) _ = _
              simp only [Act.put, List.setIfInBounds_toArray, List.set_cons_zero, List.set_cons_succ, i64_w, i32_w]
              rfl
            refine pure_ (i := 4) (N := some 53) (v := ?_) (a' := ?_) #[true, true, true, true, true] rfl rfl (by kernel_rfl) (fun _ _ _ h => h) (Or.inl ⟨by rfl, ?_⟩) ?_ ?_
            rotate_left
            · intro w'
              go_simp
              with_reducible rfl
            rotate_left
            · simp only [Act.put, List.setIfInBounds_toArray, List.set_cons_zero, List.set_cons_succ, i64_w, i32_w]
              rfl
            refine done_ (by kernel_rfl) ?_
            have hnb67 := NB123_101.out
            have hnc67 := NB101_123.out
            have hnb68 := NB123_116.out
            have hnc68 := NB116_123.out
            have hnb69 := NB123_131.out
            have hnc69 := NB131_123.out
            have hcz70_0 : w66.cell? ⟨gb123, 0, none⟩ = some (.int .i64 t117) := (Xbc BK123.out 0).trans rfl
            have hcz70_1 : w66.cell? ⟨gb123, 1, none⟩ = some (.int .i64 t118) := (Xbc BK123.out 1).trans rfl
            have hcz70_2 : w66.cell? ⟨gb123, 2, none⟩ = some (.int .i64 t119) := (Xbc BK123.out 2).trans rfl
            have hcz70_3 : w66.cell? ⟨gb123, 3, none⟩ = some (.slice Ao31 t120.length co31) := (Xbc BK123.out 3).trans rfl
            have hfz70_0 := Xbf BK123.out 0
            have hfz70_1 := Xbf BK123.out 1
            have hfz70_2 := Xbf BK123.out 2
            have hfz70_3 := Xbf BK123.out 3
            go_upto_region 14 with (first | ((with_reducible refine gate_callee (f := 31) rfl ?_); refine goesL_ (some 56) rfl rfl Try.func31 (by kernel_rfl) rfl #[.agg #[.int .i64 t117, .int .i64 t118, .int .i64 t119, .slice Ao31 t120.length co31], .int .i64 1] rfl (by (try simp only [List.map_toArray, List.map_cons, List.map_nil]); first | done | rfl | (simp only [List.length_drop, List.length_take]; rfl)) ?_; (with_reducible refine (laws_markSenderGroup.calls kj12 t117 t118 t119 (fun k_ => some k_ = (.slice Ao31 t120.length co31 : Value).ownBlock) (.slice Ao31 t120.length co31) t120 1 t140 t141 w _ ?side1 ?side2 A61.out).mono ?_); (case side1 => repeat (first | (with_reducible first | exact HB.out | apply Xba | apply Xbn | apply Xbd | refine Xbe ?_ GE101.out | refine Xbe ?_ GE116.out | refine Xbe ?_ GE123.out | refine Xbe ?_ GE131.out) | exact HB.out)); (case side2 => exact Kd.R_tight rfl HO_124003.out); rintro e w71 ⟨rfl, hy0, hb, hkp⟩; refine ⟨_, rfl, ?_⟩; have n0_ := Xam (Kd.R_mono (ok' := fun k_ => some k_ ≠ (.slice Ao31 t120.length co31 : Value).ownBlock ∧ some k_ ≠ (.slice Ao38 t127.length co38 : Value).ownBlock ∧ some k_ ≠ (.slice Ao65 t136.length co65 : Value).ownBlock) (Kd.R_keptB (HO_117003.out) hkp (fun k_ hk_ hs_ => (hk_.1.1) hs_)) (fun k_ hk_ => ⟨hk_.1.1.1, hk_.1.1.2, hk_.1.2⟩)); have n1_ := Xam (Kd.R_reok rfl hy0 (fun k_ e_ => HO_124003.out.1 k_ e_)); have n2_ := Xam (Kd.R_mono (ok' := fun k_ => some k_ ≠ (.slice Ao24 t112.length co24 : Value).ownBlock ∧ some k_ ≠ (.slice Ao31 t120.length co31 : Value).ownBlock ∧ some k_ ≠ (.slice Ao65 t136.length co65 : Value).ownBlock) (Kd.R_keptB (HO_132003.out) hkp (fun k_ hk_ hs_ => (hk_.1.2) hs_)) (fun k_ hk_ => ⟨hk_.1.1.1, hk_.1.1.2, hk_.1.2⟩)); have n3_ := Xam (blk_kept (by (with_reducible repeat (first | refine Xkn ?_ _ | refine Xkd ?_ | refine Xka ?_ _)); exact BK101.out) hkp (fun hs_ => (fun e_ => (Kd.R_ne HO_124003.out BK101.out (by decide)) e_) hs_)); have n4_ := Xam (blk_kept (by (with_reducible repeat (first | refine Xkn ?_ _ | refine Xkd ?_ | refine Xka ?_ _)); exact BK116.out) hkp (fun hs_ => (fun e_ => (Kd.R_ne HO_124003.out BK116.out (by decide)) e_) hs_)); have n5_ := Xam (blk_kept (by (with_reducible repeat (first | refine Xkn ?_ _ | refine Xkd ?_ | refine Xka ?_ _)); exact BK123.out) hkp (fun hs_ => (fun e_ => (Kd.R_ne HO_124003.out BK123.out (by decide)) e_) hs_)); have n6_ := Xam (blk_kept (by (with_reducible repeat (first | refine Xkn ?_ _ | refine Xkd ?_ | refine Xka ?_ _)); exact BK131.out) hkp (fun hs_ => (fun e_ => (Kd.R_ne HO_124003.out BK131.out (by decide)) e_) hs_)); have n7_ := Xam (Kd.R_mono (ok' := fun k_ => some k_ ≠ (.slice Ao24 t112.length co24 : Value).ownBlock ∧ some k_ ≠ (.slice Ao31 t120.length co31 : Value).ownBlock ∧ some k_ ≠ (.slice Ao38 t127.length co38 : Value).ownBlock) (Kd.R_keptB (HO138.out) hkp (fun k_ hk_ hs_ => (hk_.1.2) hs_)) (fun k_ hk_ => ⟨hk_.1.1.1.2, hk_.1.1.2, hk_.1.2⟩)); have n8_ := Xam (hb); clear HO_117003; clear HO_124003; clear HO_132003; clear BK101; clear BK116; clear BK123; clear BK131; clear HO138; clear HB; have HO_117003 := n0_; have HO_124003 := n1_; have HO_132003 := n2_; have BK101 := n3_; have BK116 := n4_; have BK123 := n5_; have BK131 := n6_; have HO138 := n7_; have HB := n8_; clear n0_ n1_ n2_ n3_ n4_ n5_ n6_ n7_ n8_; (try clear hb); (try clear hkp); (try clear hy0)))
            (try simp only [Act.put, List.setIfInBounds_toArray, List.set_cons_zero, List.set_cons_succ])
            go_cut [69] (fun v69 wc => ∃ (kq : Nat) (x69_61 : Bool), v69 = .bool x69_61 ∧ Aside0 (laws_FnExactRemoveMember.j1 kq a1 a2 t115 x69_61 a0_0 a0_1 a0_2 l0_3 t109 t110 t111 t112 t124 t125 t126 t127 = some r) ∧ Aside0 (kq ≤ kj12) ∧ Aside0 (Kd.R (Kd.int .i64) 3 wc w.heap.size (fun k_ => some k_ ≠ ((.slice Ao31 t120.length co31) : Value).ownBlock ∧ some k_ ≠ ((.slice Ao38 t127.length co38) : Value).ownBlock) (.slice Ao24 t112.length co24) t112) ∧ Aside0 (Kd.R (Kd.int .i64) 3 wc w.heap.size (fun k_ => some k_ ≠ ((.slice Ao24 t112.length co24) : Value).ownBlock ∧ some k_ ≠ ((.slice Ao38 t127.length co38) : Value).ownBlock) (.slice Ao31 t120.length co31) t141) ∧ Aside0 (Kd.R (Kd.int .i64) 3 wc w.heap.size (fun k_ => some k_ ≠ ((.slice Ao24 t112.length co24) : Value).ownBlock ∧ some k_ ≠ ((.slice Ao31 t120.length co31) : Value).ownBlock) (.slice Ao38 t127.length co38) t127) ∧ Aside0 (wc.heap[gb101]? = some (.cells #[.int .i64 a0_0, .int .i64 a0_1, .int .i64 a0_2, (.slice A0_3 l0_3.length c0_3)] 45 (0, 0))) ∧ Aside0 (wc.heap[gb116]? = some (.cells #[.int .i64 t109, .int .i64 t110, .int .i64 t111, (.slice Ao24 t112.length co24)] 47 (0, 0))) ∧ Aside0 (wc.heap[gb123]? = some (.cells #[.int .i64 t117, .int .i64 t118, .int .i64 t119, (.slice Ao31 t120.length co31)] 47 (0, 0))) ∧ Aside0 (wc.heap[gb131]? = some (.cells #[.int .i64 t124, .int .i64 t125, .int .i64 t126, (.slice Ao38 t127.length co38)] 47 (0, 0))) ∧ Aside0 (Below w.heap.size w wc))
            case first =>
              have H := HC62.out
              clear HC62
              by_cases c72 : t140 < 0
              · rw [if_pos c72] at H
                have c72b0 : decide (t140 < 0) = true := decide_eq_true c72
                clear c72
                (first | rw [c72b0] | (simp only [i64_w, i32_w]; rw [c72b0]) | skip)
                have H' := Xam H
                clear H
                go_wp2
                go_meet
                case rel => exact ⟨_, (true), (by first | rfl | (simp; done) | (simp [*]; done)), H', ⟨by have := HJ12.out; first | omega | exact Nat.le_refl _⟩, ⟨by (with_reducible repeat (first | apply Xra | apply Xrn | apply Xrd)); exact Kd.R_mono HO_117003.out (fun _ hk => ⟨hk.1, hk.2.1⟩)⟩, ⟨by (with_reducible repeat (first | apply Xra | apply Xrn | apply Xrd)); exact Kd.R_mono HO_124003.out (fun _ hk => ⟨hk.1.1, hk.1.2⟩)⟩, ⟨by (with_reducible repeat (first | apply Xra | apply Xrn | apply Xrd)); exact Kd.R_mono HO_132003.out (fun _ hk => ⟨hk.1, hk.2.1⟩)⟩, ⟨by (with_reducible repeat (first | refine Xkn ?_ _ | refine Xkd ?_ | refine Xka ?_ _)); exact BK101.out⟩, ⟨by (with_reducible repeat (first | refine Xkn ?_ _ | refine Xkd ?_ | refine Xka ?_ _)); exact BK116.out⟩, ⟨by (with_reducible repeat (first | refine Xkn ?_ _ | refine Xkd ?_ | refine Xka ?_ _)); exact BK123.out⟩, ⟨by (with_reducible repeat (first | refine Xkn ?_ _ | refine Xkd ?_ | refine Xka ?_ _)); exact BK131.out⟩, ⟨by repeat (first | (with_reducible first | exact HB.out | apply Xba | apply Xbn | apply Xbd | refine Xbe ?_ GE101.out | refine Xbe ?_ GE116.out | refine Xbe ?_ GE123.out | refine Xbe ?_ GE131.out) | exact HB.out)⟩⟩
              · rw [if_neg c72] at H
                have c72b0 : decide (t140 < 0) = false := decide_eq_false c72
                clear c72
                (first | rw [c72b0] | (simp only [i64_w, i32_w]; rw [c72b0]) | skip)
                replace H := Option.bind_eq_some_iff.mp H
                obtain ⟨t142, A730, H⟩ := H
                replace H : (if t142 = true then (laws_FnExactRemoveMember.j1 kj12 a1 a2 t115 (t130 != t115) a0_0 a0_1 a0_2 l0_3 t109 t110 t111 t112 t124 t125 t126 t127) else (laws_FnExactRemoveMember.j1 kj12 a1 a2 t115 true a0_0 a0_1 a0_2 l0_3 t109 t110 t111 t112 t124 t125 t126 t127)) = some r := H
                have A73 := Xam A730
                clear A730
                by_cases c74 : t142 = true
                · subst c74
                  have H1 : (laws_FnExactRemoveMember.j1 kj12 a1 a2 t115 (t130 != t115) a0_0 a0_1 a0_2 l0_3 t109 t110 t111 t112 t124 t125 t126 t127) = some r := by rw [if_pos rfl] at H; exact H
                  clear H
                  have H := H1
                  clear H1
                  have H' := Xam H
                  clear H
                  have hnb75 := NB131_101.out
                  have hnc75 := NB101_131.out
                  have hnb76 := NB131_116.out
                  have hnc76 := NB116_131.out
                  have hnb77 := NB131_123.out
                  have hnc77 := NB123_131.out
                  have hcz78_0 : w71.cell? ⟨gb131, 0, none⟩ = some (.int .i64 t124) := (Xbc BK131.out 0).trans rfl
                  have hcz78_1 : w71.cell? ⟨gb131, 1, none⟩ = some (.int .i64 t125) := (Xbc BK131.out 1).trans rfl
                  have hcz78_2 : w71.cell? ⟨gb131, 2, none⟩ = some (.int .i64 t126) := (Xbc BK131.out 2).trans rfl
                  have hcz78_3 : w71.cell? ⟨gb131, 3, none⟩ = some (.slice Ao38 t127.length co38) := (Xbc BK131.out 3).trans rfl
                  have hfz78_0 := Xbf BK131.out 0
                  have hfz78_1 := Xbf BK131.out 1
                  have hfz78_2 := Xbf BK131.out 2
                  have hfz78_3 := Xbf BK131.out 3
                  have hnb79 := NB116_101.out
                  have hnc79 := NB101_116.out
                  have hnb80 := NB116_123.out
                  have hnc80 := NB123_116.out
                  have hcz81_0 : w71.cell? ⟨gb116, 0, none⟩ = some (.int .i64 t109) := (Xbc BK116.out 0).trans rfl
                  have hcz81_1 : w71.cell? ⟨gb116, 1, none⟩ = some (.int .i64 t110) := (Xbc BK116.out 1).trans rfl
                  have hcz81_2 : w71.cell? ⟨gb116, 2, none⟩ = some (.int .i64 t111) := (Xbc BK116.out 2).trans rfl
                  have hcz81_3 : w71.cell? ⟨gb116, 3, none⟩ = some (.slice Ao24 t112.length co24) := (Xbc BK116.out 3).trans rfl
                  have hfz81_0 := Xbf BK116.out 0
                  have hfz81_1 := Xbf BK116.out 1
                  have hfz81_2 := Xbf BK116.out 2
                  have hfz81_3 := Xbf BK116.out 3
                  go_wp2_with (first | (go_at_call 30; (with_reducible refine (laws_eqSenderGroup.calls kj12 t124 t125 t126 _ _ t127 t109 t110 t111 _ _ t112 true _ ?side1 ?side2 ?side3 ?side4 A73.out).mono ?_); (case side1 => repeat (first | exact (Kd.R_reads' HO_132003.out).2.2 | (with_reducible refine Xca ?_ _) | (with_reducible refine Xcn ?_ _) | (with_reducible refine Xcd ?_))); (case side2 => exact (Kd.R_reads' HO_132003.out).2.1); (case side3 => repeat (first | exact (Kd.R_reads' HO_117003.out).2.2 | (with_reducible refine Xca ?_ _) | (with_reducible refine Xcn ?_ _) | (with_reducible refine Xcd ?_))); (case side4 => exact (Kd.R_reads' HO_117003.out).2.1); rintro e w82 ⟨rfl, hb⟩; have n0_ := Xam (Kd.R_below (by (with_reducible repeat (first | apply Xra | apply Xrn | apply Xrd)); exact HO_117003.out) hb); have n1_ := Xam (Kd.R_below (by (with_reducible repeat (first | apply Xra | apply Xrn | apply Xrd)); exact HO_124003.out) hb); have n2_ := Xam (Kd.R_below (by (with_reducible repeat (first | apply Xra | apply Xrn | apply Xrd)); exact HO_132003.out) hb); have n3_ := Xam (Kd.R_below (by (with_reducible repeat (first | apply Xra | apply Xrn | apply Xrd)); exact HO138.out) hb); have n4_ := Xam (Xbb (g := gb101) (o := .cells #[.int .i64 a0_0, .int .i64 a0_1, .int .i64 a0_2, .slice A0_3 l0_3.length c0_3] 45 (0, 0)) (by (with_reducible repeat (first | refine Xkn ?_ _ | refine Xkd ?_ | refine Xka ?_ _)); exact BK101.out) hb); have n5_ := Xam (Xbb (g := gb116) (o := .cells #[.int .i64 t109, .int .i64 t110, .int .i64 t111, .slice Ao24 t112.length co24] 47 (0, 0)) (by (with_reducible repeat (first | refine Xkn ?_ _ | refine Xkd ?_ | refine Xka ?_ _)); exact BK116.out) hb); have n6_ := Xam (Xbb (g := gb123) (o := .cells #[.int .i64 t117, .int .i64 t118, .int .i64 t119, .slice Ao31 t120.length co31] 47 (0, 0)) (by (with_reducible repeat (first | refine Xkn ?_ _ | refine Xkd ?_ | refine Xka ?_ _)); exact BK123.out) hb); have n7_ := Xam (Xbb (g := gb131) (o := .cells #[.int .i64 t124, .int .i64 t125, .int .i64 t126, .slice Ao38 t127.length co38] 47 (0, 0)) (by (with_reducible repeat (first | refine Xkn ?_ _ | refine Xkd ?_ | refine Xka ?_ _)); exact BK131.out) hb); have n8_ := Xam (Xbt (by repeat (first | (with_reducible first | exact HB.out | apply Xba | apply Xbn | apply Xbd | refine Xbe ?_ GE101.out | refine Xbe ?_ GE116.out | refine Xbe ?_ GE123.out | refine Xbe ?_ GE131.out) | exact HB.out)) hb); clear HO_117003; clear HO_124003; clear HO_132003; clear HO138; clear BK101; clear BK116; clear BK123; clear BK131; clear HB; have HO_117003 := n0_; have HO_124003 := n1_; have HO_132003 := n2_; have HO138 := n3_; have BK101 := n4_; have BK116 := n5_; have BK123 := n6_; have BK131 := n7_; have HB := n8_; clear n0_ n1_ n2_ n3_ n4_ n5_ n6_ n7_ n8_; (try clear hb); (try clear hb2); (try clear hk); (try clear hi)))
                  go_meet
                  case rel => exact ⟨_, ((t130 != t115)), (by first | rfl | (simp; done) | (simp [*]; done)), H', ⟨by have := HJ12.out; first | omega | exact Nat.le_refl _⟩, ⟨by (with_reducible repeat (first | apply Xra | apply Xrn | apply Xrd)); exact Kd.R_mono HO_117003.out (fun _ hk => ⟨hk.1, hk.2.1⟩)⟩, ⟨by (with_reducible repeat (first | apply Xra | apply Xrn | apply Xrd)); exact Kd.R_mono HO_124003.out (fun _ hk => ⟨hk.1.1, hk.1.2⟩)⟩, ⟨by (with_reducible repeat (first | apply Xra | apply Xrn | apply Xrd)); exact Kd.R_mono HO_132003.out (fun _ hk => ⟨hk.1, hk.2.1⟩)⟩, ⟨by (with_reducible repeat (first | refine Xkn ?_ _ | refine Xkd ?_ | refine Xka ?_ _)); exact BK101.out⟩, ⟨by (with_reducible repeat (first | refine Xkn ?_ _ | refine Xkd ?_ | refine Xka ?_ _)); exact BK116.out⟩, ⟨by (with_reducible repeat (first | refine Xkn ?_ _ | refine Xkd ?_ | refine Xka ?_ _)); exact BK123.out⟩, ⟨by (with_reducible repeat (first | refine Xkn ?_ _ | refine Xkd ?_ | refine Xka ?_ _)); exact BK131.out⟩, ⟨by repeat (first | (with_reducible first | exact HB.out | apply Xba | apply Xbn | apply Xbd | refine Xbe ?_ GE101.out | refine Xbe ?_ GE116.out | refine Xbe ?_ GE123.out | refine Xbe ?_ GE131.out) | exact HB.out)⟩⟩
                · replace c74 := Bool.eq_false_iff.mpr c74
                  subst c74
                  have H1 : (laws_FnExactRemoveMember.j1 kj12 a1 a2 t115 true a0_0 a0_1 a0_2 l0_3 t109 t110 t111 t112 t124 t125 t126 t127) = some r := by rw [if_neg (show ¬ (false = true) by decide)] at H; exact H
                  clear H
                  have H := H1
                  clear H1
                  have H' := Xam H
                  clear H
                  have hnb83 := NB131_101.out
                  have hnc83 := NB101_131.out
                  have hnb84 := NB131_116.out
                  have hnc84 := NB116_131.out
                  have hnb85 := NB131_123.out
                  have hnc85 := NB123_131.out
                  have hcz86_0 : w71.cell? ⟨gb131, 0, none⟩ = some (.int .i64 t124) := (Xbc BK131.out 0).trans rfl
                  have hcz86_1 : w71.cell? ⟨gb131, 1, none⟩ = some (.int .i64 t125) := (Xbc BK131.out 1).trans rfl
                  have hcz86_2 : w71.cell? ⟨gb131, 2, none⟩ = some (.int .i64 t126) := (Xbc BK131.out 2).trans rfl
                  have hcz86_3 : w71.cell? ⟨gb131, 3, none⟩ = some (.slice Ao38 t127.length co38) := (Xbc BK131.out 3).trans rfl
                  have hfz86_0 := Xbf BK131.out 0
                  have hfz86_1 := Xbf BK131.out 1
                  have hfz86_2 := Xbf BK131.out 2
                  have hfz86_3 := Xbf BK131.out 3
                  have hnb87 := NB116_101.out
                  have hnc87 := NB101_116.out
                  have hnb88 := NB116_123.out
                  have hnc88 := NB123_116.out
                  have hcz89_0 : w71.cell? ⟨gb116, 0, none⟩ = some (.int .i64 t109) := (Xbc BK116.out 0).trans rfl
                  have hcz89_1 : w71.cell? ⟨gb116, 1, none⟩ = some (.int .i64 t110) := (Xbc BK116.out 1).trans rfl
                  have hcz89_2 : w71.cell? ⟨gb116, 2, none⟩ = some (.int .i64 t111) := (Xbc BK116.out 2).trans rfl
                  have hcz89_3 : w71.cell? ⟨gb116, 3, none⟩ = some (.slice Ao24 t112.length co24) := (Xbc BK116.out 3).trans rfl
                  have hfz89_0 := Xbf BK116.out 0
                  have hfz89_1 := Xbf BK116.out 1
                  have hfz89_2 := Xbf BK116.out 2
                  have hfz89_3 := Xbf BK116.out 3
                  go_wp2_with (first | (go_at_call 30; (with_reducible refine (laws_eqSenderGroup.calls kj12 t124 t125 t126 _ _ t127 t109 t110 t111 _ _ t112 false _ ?side1 ?side2 ?side3 ?side4 A73.out).mono ?_); (case side1 => repeat (first | exact (Kd.R_reads' HO_132003.out).2.2 | (with_reducible refine Xca ?_ _) | (with_reducible refine Xcn ?_ _) | (with_reducible refine Xcd ?_))); (case side2 => exact (Kd.R_reads' HO_132003.out).2.1); (case side3 => repeat (first | exact (Kd.R_reads' HO_117003.out).2.2 | (with_reducible refine Xca ?_ _) | (with_reducible refine Xcn ?_ _) | (with_reducible refine Xcd ?_))); (case side4 => exact (Kd.R_reads' HO_117003.out).2.1); rintro e w90 ⟨rfl, hb⟩; have n0_ := Xam (Kd.R_below (by (with_reducible repeat (first | apply Xra | apply Xrn | apply Xrd)); exact HO_117003.out) hb); have n1_ := Xam (Kd.R_below (by (with_reducible repeat (first | apply Xra | apply Xrn | apply Xrd)); exact HO_124003.out) hb); have n2_ := Xam (Kd.R_below (by (with_reducible repeat (first | apply Xra | apply Xrn | apply Xrd)); exact HO_132003.out) hb); have n3_ := Xam (Kd.R_below (by (with_reducible repeat (first | apply Xra | apply Xrn | apply Xrd)); exact HO138.out) hb); have n4_ := Xam (Xbb (g := gb101) (o := .cells #[.int .i64 a0_0, .int .i64 a0_1, .int .i64 a0_2, .slice A0_3 l0_3.length c0_3] 45 (0, 0)) (by (with_reducible repeat (first | refine Xkn ?_ _ | refine Xkd ?_ | refine Xka ?_ _)); exact BK101.out) hb); have n5_ := Xam (Xbb (g := gb116) (o := .cells #[.int .i64 t109, .int .i64 t110, .int .i64 t111, .slice Ao24 t112.length co24] 47 (0, 0)) (by (with_reducible repeat (first | refine Xkn ?_ _ | refine Xkd ?_ | refine Xka ?_ _)); exact BK116.out) hb); have n6_ := Xam (Xbb (g := gb123) (o := .cells #[.int .i64 t117, .int .i64 t118, .int .i64 t119, .slice Ao31 t120.length co31] 47 (0, 0)) (by (with_reducible repeat (first | refine Xkn ?_ _ | refine Xkd ?_ | refine Xka ?_ _)); exact BK123.out) hb); have n7_ := Xam (Xbb (g := gb131) (o := .cells #[.int .i64 t124, .int .i64 t125, .int .i64 t126, .slice Ao38 t127.length co38] 47 (0, 0)) (by (with_reducible repeat (first | refine Xkn ?_ _ | refine Xkd ?_ | refine Xka ?_ _)); exact BK131.out) hb); have n8_ := Xam (Xbt (by repeat (first | (with_reducible first | exact HB.out | apply Xba | apply Xbn | apply Xbd | refine Xbe ?_ GE101.out | refine Xbe ?_ GE116.out | refine Xbe ?_ GE123.out | refine Xbe ?_ GE131.out) | exact HB.out)) hb); clear HO_117003; clear HO_124003; clear HO_132003; clear HO138; clear BK101; clear BK116; clear BK123; clear BK131; clear HB; have HO_117003 := n0_; have HO_124003 := n1_; have HO_132003 := n2_; have HO138 := n3_; have BK101 := n4_; have BK116 := n5_; have BK123 := n6_; have BK131 := n7_; have HB := n8_; clear n0_ n1_ n2_ n3_ n4_ n5_ n6_ n7_ n8_; (try clear hb); (try clear hb2); (try clear hk); (try clear hi)))
                  go_meet
                  case rel => exact ⟨_, (true), (by first | rfl | (simp; done) | (simp [*]; done)), H', ⟨by have := HJ12.out; first | omega | exact Nat.le_refl _⟩, ⟨by (with_reducible repeat (first | apply Xra | apply Xrn | apply Xrd)); exact Kd.R_mono HO_117003.out (fun _ hk => ⟨hk.1, hk.2.1⟩)⟩, ⟨by (with_reducible repeat (first | apply Xra | apply Xrn | apply Xrd)); exact Kd.R_mono HO_124003.out (fun _ hk => ⟨hk.1.1, hk.1.2⟩)⟩, ⟨by (with_reducible repeat (first | apply Xra | apply Xrn | apply Xrd)); exact Kd.R_mono HO_132003.out (fun _ hk => ⟨hk.1, hk.2.1⟩)⟩, ⟨by (with_reducible repeat (first | refine Xkn ?_ _ | refine Xkd ?_ | refine Xka ?_ _)); exact BK101.out⟩, ⟨by (with_reducible repeat (first | refine Xkn ?_ _ | refine Xkd ?_ | refine Xka ?_ _)); exact BK116.out⟩, ⟨by (with_reducible repeat (first | refine Xkn ?_ _ | refine Xkd ?_ | refine Xka ?_ _)); exact BK123.out⟩, ⟨by (with_reducible repeat (first | refine Xkn ?_ _ | refine Xkd ?_ | refine Xka ?_ _)); exact BK131.out⟩, ⟨by repeat (first | (with_reducible first | exact HB.out | apply Xba | apply Xbn | apply Xbd | refine Xbe ?_ GE101.out | refine Xbe ?_ GE116.out | refine Xbe ?_ GE123.out | refine Xbe ?_ GE131.out) | exact HB.out)⟩⟩
            case rest =>
              clear HC62
              try clear c2
              try clear p2
              try clear c3
              try clear c4
              try clear c5
              try clear c5b0
              try clear c6
              try clear c7
              try clear c8
              try clear c22
              try clear c26
              try clear c27
              try clear c28
              try clear c29
              try clear c30
              try clear c31
              try clear c34
              try clear c35
              try clear c36
              try clear c40
              try clear c41
              try clear c42
              try clear c43
              try clear c45
              try clear c46
              try clear c49
              try clear c50
              try clear c51
              try clear c53
              try clear c54
              try clear c57
              try clear c60
              try clear c67
              try clear c68
              try clear c69
              try clear c72
              try clear c72b0
              try clear c74
              try clear c75
              try clear c76
              try clear c77
              try clear c79
              try clear c80
              try clear c83
              try clear c84
              try clear c85
              try clear c87
              try clear c88
              try clear hcz15_0
              try clear hcz15_1
              try clear hcz15_2
              try clear hcz15_3
              try clear hcz17_0
              try clear hcz17_1
              try clear hcz17_2
              try clear hcz17_3
              try clear hcz23_0
              try clear hcz23_1
              try clear hcz23_2
              try clear hcz23_3
              try clear hcz25_0
              try clear hcz25_1
              try clear hcz25_2
              try clear hcz25_3
              try clear hcz30_0
              try clear hcz30_1
              try clear hcz30_2
              try clear hcz30_3
              try clear hcz37_0
              try clear hcz37_1
              try clear hcz37_2
              try clear hcz37_3
              try clear hcz44_0
              try clear hcz44_1
              try clear hcz44_2
              try clear hcz44_3
              try clear hcz47_0
              try clear hcz47_1
              try clear hcz47_2
              try clear hcz47_3
              try clear hcz52_0
              try clear hcz52_1
              try clear hcz52_2
              try clear hcz52_3
              try clear hcz55_0
              try clear hcz55_1
              try clear hcz55_2
              try clear hcz55_3
              try clear hcz70_0
              try clear hcz70_1
              try clear hcz70_2
              try clear hcz70_3
              try clear hcz78_0
              try clear hcz78_1
              try clear hcz78_2
              try clear hcz78_3
              try clear hcz7_0
              try clear hcz7_1
              try clear hcz7_2
              try clear hcz7_3
              try clear hcz81_0
              try clear hcz81_1
              try clear hcz81_2
              try clear hcz81_3
              try clear hcz86_0
              try clear hcz86_1
              try clear hcz86_2
              try clear hcz86_3
              try clear hcz89_0
              try clear hcz89_1
              try clear hcz89_2
              try clear hcz89_3
              try clear hfz15_0
              try clear hfz15_1
              try clear hfz15_2
              try clear hfz15_3
              try clear hfz17_0
              try clear hfz17_1
              try clear hfz17_2
              try clear hfz17_3
              try clear hfz23_0
              try clear hfz23_1
              try clear hfz23_2
              try clear hfz23_3
              try clear hfz25_0
              try clear hfz25_1
              try clear hfz25_2
              try clear hfz25_3
              try clear hfz30_0
              try clear hfz30_1
              try clear hfz30_2
              try clear hfz30_3
              try clear hfz37_0
              try clear hfz37_1
              try clear hfz37_2
              try clear hfz37_3
              try clear hfz44_0
              try clear hfz44_1
              try clear hfz44_2
              try clear hfz44_3
              try clear hfz47_0
              try clear hfz47_1
              try clear hfz47_2
              try clear hfz47_3
              try clear hfz52_0
              try clear hfz52_1
              try clear hfz52_2
              try clear hfz52_3
              try clear hfz55_0
              try clear hfz55_1
              try clear hfz55_2
              try clear hfz55_3
              try clear hfz70_0
              try clear hfz70_1
              try clear hfz70_2
              try clear hfz70_3
              try clear hfz78_0
              try clear hfz78_1
              try clear hfz78_2
              try clear hfz78_3
              try clear hfz7_0
              try clear hfz7_1
              try clear hfz7_2
              try clear hfz7_3
              try clear hfz81_0
              try clear hfz81_1
              try clear hfz81_2
              try clear hfz81_3
              try clear hfz86_0
              try clear hfz86_1
              try clear hfz86_2
              try clear hfz86_3
              try clear hfz89_0
              try clear hfz89_1
              try clear hfz89_2
              try clear hfz89_3
              try clear p2
              obtain ⟨kq, x69_61, rfl, HA, HJ61, HO_117003, HO_124003, HO_132003, BK101, BK116, BK123, BK131, HB⟩ := hcut
              have hl124003_61 := (Kd.R_reads' HO_124003.out).1
              rw [hl124003_61] at HO_124003
              (try simp only [hl124003_61])
              (try simp only [hl124003_61] at BK101)
              (try simp only [hl124003_61] at BK116)
              (try simp only [hl124003_61] at BK123)
              (try simp only [hl124003_61] at BK131)
              (try simp only [hl124003_61] at HO_117003)
              (try simp only [hl124003_61] at HO_132003)
              cases kq with
              | zero => exact absurd HA.out (by simp [laws_FnExactRemoveMember.j1])
              | succ kj61 =>
                have H := HA.out
                clear HA
                simp only [laws_FnExactRemoveMember.j1] at H
                by_cases c91 : x69_61 = true
                · subst c91
                  have H1 : (some false) = some r := by rw [if_pos rfl] at H; exact H
                  clear H
                  have H := H1
                  clear H1
                  obtain rfl := Option.some.inj H
                  go_wp2
                  go_ret
                  exact ⟨by first | rfl | (simp [errW_none, errW_some] <;> rfl) | (simp [*, errW_none, errW_some] <;> rfl), by repeat (first | (with_reducible first | exact HB.out | apply Xba | apply Xbn | apply Xbd | refine Xbe ?_ GE101.out | refine Xbe ?_ GE116.out | refine Xbe ?_ GE123.out | refine Xbe ?_ GE131.out) | exact HB.out)⟩
                · replace c91 := Bool.eq_false_iff.mpr c91
                  subst c91
                  have H1 : ((laws_markSenderGroup.f kj61 t124 t125 t126 t127 1).bind fun bt143 => ((laws_heldSenderGroup.f kj61 t124 t125 t126 bt143.2 1).bind fun t145 => (if t145 < 0 then (some false) else (if t145 = bt143.1 then ((laws_toSenderGroup.f kj61 a0_0 a0_1 a0_2 l0_3).bind fun bt146 => ((impl_RemoveMember.f kj61 bt146.1 bt146.2.1 bt146.2.2.1 bt146.2.2.2 a1 a2).bind fun bt152 => ((laws_eqSenderGroup.f kj61 bt152.1 bt152.2.1 bt152.2.2.1 bt152.2.2.2.1 t109 t110 t111 t112).bind fun t160 => (if t160 = true then (laws_FnExactRemoveMember.j2 kj61 bt143.1 (bt152.2.2.2.2 != t115) t124 t125 t126 bt143.2) else (laws_FnExactRemoveMember.j2 kj61 bt143.1 true t124 t125 t126 bt143.2))))) else (some false))))) = some r := by rw [if_neg (show ¬ (false = true) by decide)] at H; exact H
                  clear H
                  have H := H1
                  clear H1
                  replace H := Option.bind_eq_some_iff.mp H
                  obtain ⟨⟨t143, t144⟩, A920, H⟩ := H
                  replace H : ((laws_heldSenderGroup.f kj61 t124 t125 t126 t144 1).bind fun t145 => (if t145 < 0 then (some false) else (if t145 = t143 then ((laws_toSenderGroup.f kj61 a0_0 a0_1 a0_2 l0_3).bind fun bt146 => ((impl_RemoveMember.f kj61 bt146.1 bt146.2.1 bt146.2.2.1 bt146.2.2.2 a1 a2).bind fun bt152 => ((laws_eqSenderGroup.f kj61 bt152.1 bt152.2.1 bt152.2.2.1 bt152.2.2.2.1 t109 t110 t111 t112).bind fun t160 => (if t160 = true then (laws_FnExactRemoveMember.j2 kj61 t143 (bt152.2.2.2.2 != t115) t124 t125 t126 t144) else (laws_FnExactRemoveMember.j2 kj61 t143 true t124 t125 t126 t144))))) else (some false)))) = some r := H
                  have A92 := Xam A920
                  clear A920
                  replace H := Option.bind_eq_some_iff.mp H
                  obtain ⟨t145, A930, H⟩ := H
                  replace H : (if t145 < 0 then (some false) else (if t145 = t143 then ((laws_toSenderGroup.f kj61 a0_0 a0_1 a0_2 l0_3).bind fun bt146 => ((impl_RemoveMember.f kj61 bt146.1 bt146.2.1 bt146.2.2.1 bt146.2.2.2 a1 a2).bind fun bt152 => ((laws_eqSenderGroup.f kj61 bt152.1 bt152.2.1 bt152.2.2.1 bt152.2.2.2.1 t109 t110 t111 t112).bind fun t160 => (if t160 = true then (laws_FnExactRemoveMember.j2 kj61 t143 (bt152.2.2.2.2 != t115) t124 t125 t126 t144) else (laws_FnExactRemoveMember.j2 kj61 t143 true t124 t125 t126 t144))))) else (some false))) = some r := H
                  have A93 := Xam A930
                  clear A930
                  by_cases c94 : t145 < 0
                  · rw [if_pos c94] at H
                    have c94b0 : decide (t145 < 0) = true := decide_eq_true c94
                    clear c94
                    obtain rfl := Option.some.inj H
                    have hnb95 := NB131_101.out
                    have hnc95 := NB101_131.out
                    have hnb96 := NB131_116.out
                    have hnc96 := NB116_131.out
                    have hnb97 := NB131_123.out
                    have hnc97 := NB123_131.out
                    have hcz98_0 : wc.cell? ⟨gb131, 0, none⟩ = some (.int .i64 t124) := (Xbc BK131.out 0).trans rfl
                    have hcz98_1 : wc.cell? ⟨gb131, 1, none⟩ = some (.int .i64 t125) := (Xbc BK131.out 1).trans rfl
                    have hcz98_2 : wc.cell? ⟨gb131, 2, none⟩ = some (.int .i64 t126) := (Xbc BK131.out 2).trans rfl
                    have hcz98_3 : wc.cell? ⟨gb131, 3, none⟩ = some (.slice Ao38 t127.length co38) := (Xbc BK131.out 3).trans rfl
                    have hfz98_0 := Xbf BK131.out 0
                    have hfz98_1 := Xbf BK131.out 1
                    have hfz98_2 := Xbf BK131.out 2
                    have hfz98_3 := Xbf BK131.out 3
                    go_wp2_with (first | ((with_reducible refine gate_callee (f := 31) rfl ?_); refine goesL_ (some 72) rfl rfl Try.func31 (by kernel_rfl) rfl #[.agg #[.int .i64 t124, .int .i64 t125, .int .i64 t126, .slice Ao38 t127.length co38], .int .i64 1] rfl (by (try simp only [List.map_toArray, List.map_cons, List.map_nil]); first | done | rfl | (simp only [List.length_drop, List.length_take]; rfl)) ?_; (with_reducible refine (laws_markSenderGroup.calls kj61 t124 t125 t126 (fun k_ => some k_ = (.slice Ao38 t127.length co38 : Value).ownBlock) (.slice Ao38 t127.length co38) t127 1 t143 t144 w _ ?side1 ?side2 A92.out).mono ?_); (case side1 => repeat (first | (with_reducible first | exact HB.out | apply Xba | apply Xbn | apply Xbd | refine Xbe ?_ GE101.out | refine Xbe ?_ GE116.out | refine Xbe ?_ GE123.out | refine Xbe ?_ GE131.out) | exact HB.out)); (case side2 => exact Kd.R_tight rfl HO_132003.out); rintro e w99 ⟨rfl, hy0, hb, hkp⟩; refine ⟨_, rfl, ?_⟩; have n0_ := Xam (Kd.R_mono (ok' := fun k_ => some k_ ≠ (.slice Ao31 t141.length co31 : Value).ownBlock ∧ some k_ ≠ (.slice Ao38 t127.length co38 : Value).ownBlock) (Kd.R_keptB (HO_117003.out) hkp (fun k_ hk_ hs_ => (hk_.2) hs_)) (fun k_ hk_ => ⟨hk_.1.1, hk_.1.2⟩)); have n1_ := Xam (Kd.R_mono (ok' := fun k_ => some k_ ≠ (.slice Ao24 t112.length co24 : Value).ownBlock ∧ some k_ ≠ (.slice Ao38 t127.length co38 : Value).ownBlock) (Kd.R_keptB (HO_124003.out) hkp (fun k_ hk_ hs_ => (hk_.2) hs_)) (fun k_ hk_ => ⟨hk_.1.1, hk_.1.2⟩)); have n2_ := Xam (Kd.R_reok rfl hy0 (fun k_ e_ => HO_132003.out.1 k_ e_)); have n3_ := Xam (blk_kept (by (with_reducible repeat (first | refine Xkn ?_ _ | refine Xkd ?_ | refine Xka ?_ _)); exact BK101.out) hkp (fun hs_ => (fun e_ => (Kd.R_ne HO_132003.out BK101.out (by decide)) e_) hs_)); have n4_ := Xam (blk_kept (by (with_reducible repeat (first | refine Xkn ?_ _ | refine Xkd ?_ | refine Xka ?_ _)); exact BK116.out) hkp (fun hs_ => (fun e_ => (Kd.R_ne HO_132003.out BK116.out (by decide)) e_) hs_)); have n5_ := Xam (blk_kept (by (with_reducible repeat (first | refine Xkn ?_ _ | refine Xkd ?_ | refine Xka ?_ _)); exact BK123.out) hkp (fun hs_ => (fun e_ => (Kd.R_ne HO_132003.out BK123.out (by decide)) e_) hs_)); have n6_ := Xam (blk_kept (by (with_reducible repeat (first | refine Xkn ?_ _ | refine Xkd ?_ | refine Xka ?_ _)); exact BK131.out) hkp (fun hs_ => (fun e_ => (Kd.R_ne HO_132003.out BK131.out (by decide)) e_) hs_)); have n7_ := Xam (hb); clear HO_117003; clear HO_124003; clear HO_132003; clear BK101; clear BK116; clear BK123; clear BK131; clear HB; have HO_117003 := n0_; have HO_124003 := n1_; have HO_132003 := n2_; have BK101 := n3_; have BK116 := n4_; have BK123 := n5_; have BK131 := n6_; have HB := n7_; clear n0_ n1_ n2_ n3_ n4_ n5_ n6_ n7_; (try clear hb); (try clear hkp); (try clear hy0); have hcz100_0 : w99.cell? ⟨gb131, 0, none⟩ = some (.int .i64 t124) := (Xbc BK131.out 0).trans rfl; have hcz100_1 : w99.cell? ⟨gb131, 1, none⟩ = some (.int .i64 t125) := (Xbc BK131.out 1).trans rfl; have hcz100_2 : w99.cell? ⟨gb131, 2, none⟩ = some (.int .i64 t126) := (Xbc BK131.out 2).trans rfl; have hcz100_3 : w99.cell? ⟨gb131, 3, none⟩ = some (.slice Ao38 t127.length co38) := (Xbc BK131.out 3).trans rfl; have hfz100_0 := Xbf BK131.out 0; have hfz100_1 := Xbf BK131.out 1; have hfz100_2 := Xbf BK131.out 2; have hfz100_3 := Xbf BK131.out 3) | ((with_reducible refine gate_callee (f := 32) rfl ?_); refine goesL_ (some 75) rfl rfl Try.func32 (by kernel_rfl) rfl #[.agg #[.int .i64 t124, .int .i64 t125, .int .i64 t126, .slice Ao38 t144.length co38], .int .i64 1] rfl (by (try simp only [List.map_toArray, List.map_cons, List.map_nil]); first | done | (rw [show t144.length = t127.length from (Kd.R_reads' HO_132003.out).1.symm] <;> rfl) | rfl | (simp only [List.length_drop, List.length_take]; rfl)) ?_; (with_reducible refine (laws_heldSenderGroup.calls kj61 t124 t125 t126 _ _ t144 1 t145 _ ?side1 ?side2 A93.out).mono ?_); (case side1 => repeat (first | exact (Kd.R_reads' HO_132003.out).2.2 | (with_reducible refine Xca ?_ _) | (with_reducible refine Xcn ?_ _) | (with_reducible refine Xcd ?_))); (case side2 => rw [show t144.length = t127.length from (Kd.R_reads' HO_132003.out).1.symm]; exact (Kd.R_reads' HO_132003.out).2.1); rintro e w101 ⟨rfl, hb⟩; refine ⟨_, rfl, ?_⟩; have n0_ := Xam (Kd.R_below (by (with_reducible repeat (first | apply Xra | apply Xrn | apply Xrd)); exact HO_117003.out) hb); have n1_ := Xam (Kd.R_below (by (with_reducible repeat (first | apply Xra | apply Xrn | apply Xrd)); exact HO_124003.out) hb); have n2_ := Xam (Kd.R_below (by (with_reducible repeat (first | apply Xra | apply Xrn | apply Xrd)); exact HO_132003.out) hb); have n3_ := Xam (Xbb (g := gb101) (o := .cells #[.int .i64 a0_0, .int .i64 a0_1, .int .i64 a0_2, .slice A0_3 l0_3.length c0_3] 45 (0, 0)) (by (with_reducible repeat (first | refine Xkn ?_ _ | refine Xkd ?_ | refine Xka ?_ _)); exact BK101.out) hb); have n4_ := Xam (Xbb (g := gb116) (o := .cells #[.int .i64 t109, .int .i64 t110, .int .i64 t111, .slice Ao24 t112.length co24] 47 (0, 0)) (by (with_reducible repeat (first | refine Xkn ?_ _ | refine Xkd ?_ | refine Xka ?_ _)); exact BK116.out) hb); have n5_ := Xam (Xbb (g := gb123) (o := .cells #[.int .i64 t117, .int .i64 t118, .int .i64 t119, .slice Ao31 t141.length co31] 47 (0, 0)) (by (with_reducible repeat (first | refine Xkn ?_ _ | refine Xkd ?_ | refine Xka ?_ _)); exact BK123.out) hb); have n6_ := Xam (Xbb (g := gb131) (o := .cells #[.int .i64 t124, .int .i64 t125, .int .i64 t126, .slice Ao38 t127.length co38] 47 (0, 0)) (by (with_reducible repeat (first | refine Xkn ?_ _ | refine Xkd ?_ | refine Xka ?_ _)); exact BK131.out) hb); have n7_ := Xam (Xbt (by repeat (first | (with_reducible first | exact HB.out | apply Xba | apply Xbn | apply Xbd | refine Xbe ?_ GE101.out | refine Xbe ?_ GE116.out | refine Xbe ?_ GE123.out | refine Xbe ?_ GE131.out) | exact HB.out)) hb); clear HO_117003; clear HO_124003; clear HO_132003; clear BK101; clear BK116; clear BK123; clear BK131; clear HB; have HO_117003 := n0_; have HO_124003 := n1_; have HO_132003 := n2_; have BK101 := n3_; have BK116 := n4_; have BK123 := n5_; have BK131 := n6_; have HB := n7_; clear n0_ n1_ n2_ n3_ n4_ n5_ n6_ n7_; (try clear hb); (try clear hb2); (try clear hk); (try clear hi)))
                    go_ret
                    exact ⟨by first | rfl | (simp [errW_none, errW_some] <;> rfl) | (simp [*, errW_none, errW_some] <;> rfl), by repeat (first | (with_reducible first | exact HB.out | apply Xba | apply Xbn | apply Xbd | refine Xbe ?_ GE101.out | refine Xbe ?_ GE116.out | refine Xbe ?_ GE123.out | refine Xbe ?_ GE131.out) | exact HB.out)⟩
                  · rw [if_neg c94] at H
                    have c94b0 : decide (t145 < 0) = false := decide_eq_false c94
                    clear c94
                    by_cases c102 : t145 = t143
                    · rw [if_pos c102] at H
                      have c102b0 : (t145 == t143) = true := beq_iff_eq.mpr c102
                      have c102b1 : (t145 != t143) = false := bne_eq_false_iff_eq.mpr c102
                      clear c102
                      replace H := Option.bind_eq_some_iff.mp H
                      obtain ⟨⟨t146, t147, t148, t149⟩, A1030, H⟩ := H
                      replace H : ((impl_RemoveMember.f kj61 t146 t147 t148 t149 a1 a2).bind fun bt152 => ((laws_eqSenderGroup.f kj61 bt152.1 bt152.2.1 bt152.2.2.1 bt152.2.2.2.1 t109 t110 t111 t112).bind fun t160 => (if t160 = true then (laws_FnExactRemoveMember.j2 kj61 t143 (bt152.2.2.2.2 != t115) t124 t125 t126 t144) else (laws_FnExactRemoveMember.j2 kj61 t143 true t124 t125 t126 t144)))) = some r := H
                      have A103 := Xam A1030
                      clear A1030
                      replace H := Option.bind_eq_some_iff.mp H
                      obtain ⟨⟨t152, t153, t154, t155, t158⟩, A1040, H⟩ := H
                      replace H : ((laws_eqSenderGroup.f kj61 t152 t153 t154 t155 t109 t110 t111 t112).bind fun t160 => (if t160 = true then (laws_FnExactRemoveMember.j2 kj61 t143 (t158 != t115) t124 t125 t126 t144) else (laws_FnExactRemoveMember.j2 kj61 t143 true t124 t125 t126 t144))) = some r := H
                      have A104 := Xam A1040
                      clear A1040
                      have HC105 := Xam H
                      clear H
                      have hnb106 := NB131_101.out
                      have hnc106 := NB101_131.out
                      have hnb107 := NB131_116.out
                      have hnc107 := NB116_131.out
                      have hnb108 := NB131_123.out
                      have hnc108 := NB123_131.out
                      have hcz109_0 : wc.cell? ⟨gb131, 0, none⟩ = some (.int .i64 t124) := (Xbc BK131.out 0).trans rfl
                      have hcz109_1 : wc.cell? ⟨gb131, 1, none⟩ = some (.int .i64 t125) := (Xbc BK131.out 1).trans rfl
                      have hcz109_2 : wc.cell? ⟨gb131, 2, none⟩ = some (.int .i64 t126) := (Xbc BK131.out 2).trans rfl
                      have hcz109_3 : wc.cell? ⟨gb131, 3, none⟩ = some (.slice Ao38 t127.length co38) := (Xbc BK131.out 3).trans rfl
                      have hfz109_0 := Xbf BK131.out 0
                      have hfz109_1 := Xbf BK131.out 1
                      have hfz109_2 := Xbf BK131.out 2
                      have hfz109_3 := Xbf BK131.out 3
                      go_upto_region 25 with (first | ((with_reducible refine gate_callee (f := 31) rfl ?_); refine goesL_ (some 72) rfl rfl Try.func31 (by kernel_rfl) rfl #[.agg #[.int .i64 t124, .int .i64 t125, .int .i64 t126, .slice Ao38 t127.length co38], .int .i64 1] rfl (by (try simp only [List.map_toArray, List.map_cons, List.map_nil]); first | done | rfl | (simp only [List.length_drop, List.length_take]; rfl)) ?_; (with_reducible refine (laws_markSenderGroup.calls kj61 t124 t125 t126 (fun k_ => some k_ = (.slice Ao38 t127.length co38 : Value).ownBlock) (.slice Ao38 t127.length co38) t127 1 t143 t144 w _ ?side1 ?side2 A92.out).mono ?_); (case side1 => repeat (first | (with_reducible first | exact HB.out | apply Xba | apply Xbn | apply Xbd | refine Xbe ?_ GE101.out | refine Xbe ?_ GE116.out | refine Xbe ?_ GE123.out | refine Xbe ?_ GE131.out) | exact HB.out)); (case side2 => exact Kd.R_tight rfl HO_132003.out); rintro e w110 ⟨rfl, hy0, hb, hkp⟩; refine ⟨_, rfl, ?_⟩; have n0_ := Xam (Kd.R_mono (ok' := fun k_ => some k_ ≠ (.slice Ao31 t141.length co31 : Value).ownBlock ∧ some k_ ≠ (.slice Ao38 t127.length co38 : Value).ownBlock) (Kd.R_keptB (HO_117003.out) hkp (fun k_ hk_ hs_ => (hk_.2) hs_)) (fun k_ hk_ => ⟨hk_.1.1, hk_.1.2⟩)); have n1_ := Xam (Kd.R_mono (ok' := fun k_ => some k_ ≠ (.slice Ao24 t112.length co24 : Value).ownBlock ∧ some k_ ≠ (.slice Ao38 t127.length co38 : Value).ownBlock) (Kd.R_keptB (HO_124003.out) hkp (fun k_ hk_ hs_ => (hk_.2) hs_)) (fun k_ hk_ => ⟨hk_.1.1, hk_.1.2⟩)); have n2_ := Xam (Kd.R_reok rfl hy0 (fun k_ e_ => HO_132003.out.1 k_ e_)); have n3_ := Xam (blk_kept (by (with_reducible repeat (first | refine Xkn ?_ _ | refine Xkd ?_ | refine Xka ?_ _)); exact BK101.out) hkp (fun hs_ => (fun e_ => (Kd.R_ne HO_132003.out BK101.out (by decide)) e_) hs_)); have n4_ := Xam (blk_kept (by (with_reducible repeat (first | refine Xkn ?_ _ | refine Xkd ?_ | refine Xka ?_ _)); exact BK116.out) hkp (fun hs_ => (fun e_ => (Kd.R_ne HO_132003.out BK116.out (by decide)) e_) hs_)); have n5_ := Xam (blk_kept (by (with_reducible repeat (first | refine Xkn ?_ _ | refine Xkd ?_ | refine Xka ?_ _)); exact BK123.out) hkp (fun hs_ => (fun e_ => (Kd.R_ne HO_132003.out BK123.out (by decide)) e_) hs_)); have n6_ := Xam (blk_kept (by (with_reducible repeat (first | refine Xkn ?_ _ | refine Xkd ?_ | refine Xka ?_ _)); exact BK131.out) hkp (fun hs_ => (fun e_ => (Kd.R_ne HO_132003.out BK131.out (by decide)) e_) hs_)); have n7_ := Xam (hb); clear HO_117003; clear HO_124003; clear HO_132003; clear BK101; clear BK116; clear BK123; clear BK131; clear HB; have HO_117003 := n0_; have HO_124003 := n1_; have HO_132003 := n2_; have BK101 := n3_; have BK116 := n4_; have BK123 := n5_; have BK131 := n6_; have HB := n7_; clear n0_ n1_ n2_ n3_ n4_ n5_ n6_ n7_; (try clear hb); (try clear hkp); (try clear hy0); have hcz111_0 : w110.cell? ⟨gb131, 0, none⟩ = some (.int .i64 t124) := (Xbc BK131.out 0).trans rfl; have hcz111_1 : w110.cell? ⟨gb131, 1, none⟩ = some (.int .i64 t125) := (Xbc BK131.out 1).trans rfl; have hcz111_2 : w110.cell? ⟨gb131, 2, none⟩ = some (.int .i64 t126) := (Xbc BK131.out 2).trans rfl; have hcz111_3 : w110.cell? ⟨gb131, 3, none⟩ = some (.slice Ao38 t127.length co38) := (Xbc BK131.out 3).trans rfl; have hfz111_0 := Xbf BK131.out 0; have hfz111_1 := Xbf BK131.out 1; have hfz111_2 := Xbf BK131.out 2; have hfz111_3 := Xbf BK131.out 3) | ((with_reducible refine gate_callee (f := 32) rfl ?_); refine goesL_ (some 75) rfl rfl Try.func32 (by kernel_rfl) rfl #[.agg #[.int .i64 t124, .int .i64 t125, .int .i64 t126, .slice Ao38 t144.length co38], .int .i64 1] rfl (by (try simp only [List.map_toArray, List.map_cons, List.map_nil]); first | done | (rw [show t144.length = t127.length from (Kd.R_reads' HO_132003.out).1.symm] <;> rfl) | rfl | (simp only [List.length_drop, List.length_take]; rfl)) ?_; (with_reducible refine (laws_heldSenderGroup.calls kj61 t124 t125 t126 _ _ t144 1 t145 _ ?side1 ?side2 A93.out).mono ?_); (case side1 => repeat (first | exact (Kd.R_reads' HO_132003.out).2.2 | (with_reducible refine Xca ?_ _) | (with_reducible refine Xcn ?_ _) | (with_reducible refine Xcd ?_))); (case side2 => rw [show t144.length = t127.length from (Kd.R_reads' HO_132003.out).1.symm]; exact (Kd.R_reads' HO_132003.out).2.1); rintro e w112 ⟨rfl, hb⟩; refine ⟨_, rfl, ?_⟩; have n0_ := Xam (Kd.R_below (by (with_reducible repeat (first | apply Xra | apply Xrn | apply Xrd)); exact HO_117003.out) hb); have n1_ := Xam (Kd.R_below (by (with_reducible repeat (first | apply Xra | apply Xrn | apply Xrd)); exact HO_124003.out) hb); have n2_ := Xam (Kd.R_below (by (with_reducible repeat (first | apply Xra | apply Xrn | apply Xrd)); exact HO_132003.out) hb); have n3_ := Xam (Xbb (g := gb101) (o := .cells #[.int .i64 a0_0, .int .i64 a0_1, .int .i64 a0_2, .slice A0_3 l0_3.length c0_3] 45 (0, 0)) (by (with_reducible repeat (first | refine Xkn ?_ _ | refine Xkd ?_ | refine Xka ?_ _)); exact BK101.out) hb); have n4_ := Xam (Xbb (g := gb116) (o := .cells #[.int .i64 t109, .int .i64 t110, .int .i64 t111, .slice Ao24 t112.length co24] 47 (0, 0)) (by (with_reducible repeat (first | refine Xkn ?_ _ | refine Xkd ?_ | refine Xka ?_ _)); exact BK116.out) hb); have n5_ := Xam (Xbb (g := gb123) (o := .cells #[.int .i64 t117, .int .i64 t118, .int .i64 t119, .slice Ao31 t141.length co31] 47 (0, 0)) (by (with_reducible repeat (first | refine Xkn ?_ _ | refine Xkd ?_ | refine Xka ?_ _)); exact BK123.out) hb); have n6_ := Xam (Xbb (g := gb131) (o := .cells #[.int .i64 t124, .int .i64 t125, .int .i64 t126, .slice Ao38 t127.length co38] 47 (0, 0)) (by (with_reducible repeat (first | refine Xkn ?_ _ | refine Xkd ?_ | refine Xka ?_ _)); exact BK131.out) hb); have n7_ := Xam (Xbt (by repeat (first | (with_reducible first | exact HB.out | apply Xba | apply Xbn | apply Xbd | refine Xbe ?_ GE101.out | refine Xbe ?_ GE116.out | refine Xbe ?_ GE123.out | refine Xbe ?_ GE131.out) | exact HB.out)) hb); clear HO_117003; clear HO_124003; clear HO_132003; clear BK101; clear BK116; clear BK123; clear BK131; clear HB; have HO_117003 := n0_; have HO_124003 := n1_; have HO_132003 := n2_; have BK101 := n3_; have BK116 := n4_; have BK123 := n5_; have BK131 := n6_; have HB := n7_; clear n0_ n1_ n2_ n3_ n4_ n5_ n6_ n7_; (try clear hb); (try clear hb2); (try clear hk); (try clear hi); have hnb113 := NB101_116.out; have hnc113 := NB116_101.out; have hnb114 := NB101_123.out; have hnc114 := NB123_101.out; have hcz115_0 : w112.cell? ⟨gb101, 0, none⟩ = some (.int .i64 a0_0) := (Xbc BK101.out 0).trans rfl; have hcz115_1 : w112.cell? ⟨gb101, 1, none⟩ = some (.int .i64 a0_1) := (Xbc BK101.out 1).trans rfl; have hcz115_2 : w112.cell? ⟨gb101, 2, none⟩ = some (.int .i64 a0_2) := (Xbc BK101.out 2).trans rfl; have hcz115_3 : w112.cell? ⟨gb101, 3, none⟩ = some (.slice A0_3 l0_3.length c0_3) := (Xbc BK101.out 3).trans rfl; have hfz115_0 := Xbf BK101.out 0; have hfz115_1 := Xbf BK101.out 1; have hfz115_2 := Xbf BK101.out 2; have hfz115_3 := Xbf BK101.out 3) | ((with_reducible refine gate_callee (f := 28) rfl ?_); refine goesL_ (some 83) rfl rfl Try.func28 (by kernel_rfl) rfl #[.agg #[.int .i64 a0_0, .int .i64 a0_1, .int .i64 a0_2, .slice A0_3 l0_3.length c0_3]] rfl (by (try simp only [List.map_toArray, List.map_cons, List.map_nil]); first | done | rfl | (simp only [List.length_drop, List.length_take]; rfl)) ?_; (with_reducible refine (laws_toSenderGroup.calls kj61 a0_0 a0_1 a0_2 _ _ l0_3 t146 t147 t148 t149 _ ?side1 ?side2 A103.out).mono ?_); (case side1 => repeat (first | exact (Kd.C_below HR0_3.out HB.out) | (with_reducible refine Xca ?_ _) | (with_reducible refine Xcn ?_ _) | (with_reducible refine Xcd ?_))); (case side2 => exact HC0_3.out); rintro e w116 ⟨v150, rfl, ho0, hb⟩; refine ⟨_, rfl, ?_⟩; have n0_ := Xam (Kd.R_elder' (by (with_reducible repeat (first | apply Xra | apply Xrn | apply Xrd)); exact HO_117003.out) (Kd.R_base ho0) hb); have n1_ := Xam (Kd.R_elder' (by (with_reducible repeat (first | apply Xra | apply Xrn | apply Xrd)); exact HO_124003.out) (Kd.R_base ho0) hb); have n2_ := Xam (Kd.R_elder' (by (with_reducible repeat (first | apply Xra | apply Xrn | apply Xrd)); exact HO_132003.out) (Kd.R_base ho0) hb); have n3_ := Xam (Kd.R_lower (Kd.R_new' (Kd.R_new' (Kd.R_new' ho0 (Kd.R_lt (by (with_reducible repeat (first | apply Xra | apply Xrn | apply Xrd)); exact HO_117003.out))) (Kd.R_lt (by (with_reducible repeat (first | apply Xra | apply Xrn | apply Xrd)); exact HO_124003.out))) (Kd.R_lt (by (with_reducible repeat (first | apply Xra | apply Xrn | apply Xrd)); exact HO_132003.out))) (Xbs (by repeat (first | (with_reducible first | exact HB.out | apply Xba | apply Xbn | apply Xbd | refine Xbe ?_ GE101.out | refine Xbe ?_ GE116.out | refine Xbe ?_ GE123.out | refine Xbe ?_ GE131.out) | exact HB.out)))); have n4_ := Xam (Xbb (g := gb101) (o := .cells #[.int .i64 a0_0, .int .i64 a0_1, .int .i64 a0_2, .slice A0_3 l0_3.length c0_3] 45 (0, 0)) (by (with_reducible repeat (first | refine Xkn ?_ _ | refine Xkd ?_ | refine Xka ?_ _)); exact BK101.out) hb); have n5_ := Xam (Xbb (g := gb116) (o := .cells #[.int .i64 t109, .int .i64 t110, .int .i64 t111, .slice Ao24 t112.length co24] 47 (0, 0)) (by (with_reducible repeat (first | refine Xkn ?_ _ | refine Xkd ?_ | refine Xka ?_ _)); exact BK116.out) hb); have n6_ := Xam (Xbb (g := gb123) (o := .cells #[.int .i64 t117, .int .i64 t118, .int .i64 t119, .slice Ao31 t141.length co31] 47 (0, 0)) (by (with_reducible repeat (first | refine Xkn ?_ _ | refine Xkd ?_ | refine Xka ?_ _)); exact BK123.out) hb); have n7_ := Xam (Xbb (g := gb131) (o := .cells #[.int .i64 t124, .int .i64 t125, .int .i64 t126, .slice Ao38 t127.length co38] 47 (0, 0)) (by (with_reducible repeat (first | refine Xkn ?_ _ | refine Xkd ?_ | refine Xka ?_ _)); exact BK131.out) hb); have n8_ := Xam (Xbt (by repeat (first | (with_reducible first | exact HB.out | apply Xba | apply Xbn | apply Xbd | refine Xbe ?_ GE101.out | refine Xbe ?_ GE116.out | refine Xbe ?_ GE123.out | refine Xbe ?_ GE131.out) | exact HB.out)) hb); clear HO_117003; clear HO_124003; clear HO_132003; clear BK101; clear BK116; clear BK123; clear BK131; clear HB; have HO_117003 := n0_; have HO_124003 := n1_; have HO_132003 := n2_; have HO151 := n3_; have BK101 := n4_; have BK116 := n5_; have BK123 := n6_; have BK131 := n7_; have HB := n8_; clear n0_ n1_ n2_ n3_ n4_ n5_ n6_ n7_ n8_; (try clear hb); (try clear hb2); (try clear hk); (try clear hi); (try clear ho0); obtain ⟨Ao117, co117, eo117⟩ := Kd.R_slice HO151.out; subst eo117) | ((with_reducible refine gate_callee (f := 29) rfl ?_); refine goesL_ (some 86) rfl rfl Try.func29 (by kernel_rfl) rfl #[.agg #[.int .i64 t146, .int .i64 t147, .int .i64 t148, .slice Ao117 t149.length co117], .int .i64 a1, .int .i64 a2] rfl (by (try simp only [List.map_toArray, List.map_cons, List.map_nil]); first | done | rfl | (simp only [List.length_drop, List.length_take]; rfl)) ?_; (with_reducible refine (impl_RemoveMember.calls kj61 t146 t147 t148 _ _ t149 a1 a2 t152 t153 t154 t155 t158 _ ?side1 ?side2 A104.out).mono ?_); (case side1 => repeat (first | exact (Kd.R_reads' HO151.out).2.2 | (with_reducible refine Xca ?_ _) | (with_reducible refine Xcn ?_ _) | (with_reducible refine Xcd ?_))); (case side2 => exact (Kd.R_reads' HO151.out).2.1); rintro e w118 ⟨v156, rfl, ho0, hb⟩; refine ⟨_, rfl, ?_⟩; have n0_ := Xam (Kd.R_elder' (by (with_reducible repeat (first | apply Xra | apply Xrn | apply Xrd)); exact HO_117003.out) (Kd.R_base ho0) hb); have n1_ := Xam (Kd.R_elder' (by (with_reducible repeat (first | apply Xra | apply Xrn | apply Xrd)); exact HO_124003.out) (Kd.R_base ho0) hb); have n2_ := Xam (Kd.R_elder' (by (with_reducible repeat (first | apply Xra | apply Xrn | apply Xrd)); exact HO_132003.out) (Kd.R_base ho0) hb); have n3_ := Xam (Kd.R_elder' (by (with_reducible repeat (first | apply Xra | apply Xrn | apply Xrd)); exact HO151.out) (Kd.R_base ho0) hb); have n4_ := Xam (Kd.R_lower (Kd.R_new' (Kd.R_new' (Kd.R_new' (Kd.R_new' ho0 (Kd.R_lt (by (with_reducible repeat (first | apply Xra | apply Xrn | apply Xrd)); exact HO_117003.out))) (Kd.R_lt (by (with_reducible repeat (first | apply Xra | apply Xrn | apply Xrd)); exact HO_124003.out))) (Kd.R_lt (by (with_reducible repeat (first | apply Xra | apply Xrn | apply Xrd)); exact HO_132003.out))) (Kd.R_lt (by (with_reducible repeat (first | apply Xra | apply Xrn | apply Xrd)); exact HO151.out))) (Xbs (by repeat (first | (with_reducible first | exact HB.out | apply Xba | apply Xbn | apply Xbd | refine Xbe ?_ GE101.out | refine Xbe ?_ GE116.out | refine Xbe ?_ GE123.out | refine Xbe ?_ GE131.out) | exact HB.out)))); have n5_ := Xam (Xbb (g := gb101) (o := .cells #[.int .i64 a0_0, .int .i64 a0_1, .int .i64 a0_2, .slice A0_3 l0_3.length c0_3] 45 (0, 0)) (by (with_reducible repeat (first | refine Xkn ?_ _ | refine Xkd ?_ | refine Xka ?_ _)); exact BK101.out) hb); have n6_ := Xam (Xbb (g := gb116) (o := .cells #[.int .i64 t109, .int .i64 t110, .int .i64 t111, .slice Ao24 t112.length co24] 47 (0, 0)) (by (with_reducible repeat (first | refine Xkn ?_ _ | refine Xkd ?_ | refine Xka ?_ _)); exact BK116.out) hb); have n7_ := Xam (Xbb (g := gb123) (o := .cells #[.int .i64 t117, .int .i64 t118, .int .i64 t119, .slice Ao31 t141.length co31] 47 (0, 0)) (by (with_reducible repeat (first | refine Xkn ?_ _ | refine Xkd ?_ | refine Xka ?_ _)); exact BK123.out) hb); have n8_ := Xam (Xbb (g := gb131) (o := .cells #[.int .i64 t124, .int .i64 t125, .int .i64 t126, .slice Ao38 t127.length co38] 47 (0, 0)) (by (with_reducible repeat (first | refine Xkn ?_ _ | refine Xkd ?_ | refine Xka ?_ _)); exact BK131.out) hb); have n9_ := Xam (Xbt (by repeat (first | (with_reducible first | exact HB.out | apply Xba | apply Xbn | apply Xbd | refine Xbe ?_ GE101.out | refine Xbe ?_ GE116.out | refine Xbe ?_ GE123.out | refine Xbe ?_ GE131.out) | exact HB.out)) hb); clear HO_117003; clear HO_124003; clear HO_132003; clear HO151; clear BK101; clear BK116; clear BK123; clear BK131; clear HB; have HO_117003 := n0_; have HO_124003 := n1_; have HO_132003 := n2_; have HO151 := n3_; have HO157 := n4_; have BK101 := n5_; have BK116 := n6_; have BK123 := n7_; have BK131 := n8_; have HB := n9_; clear n0_ n1_ n2_ n3_ n4_ n5_ n6_ n7_ n8_ n9_; (try clear hb); (try clear hb2); (try clear hk); (try clear hi); (try clear ho0)) | ((with_reducible refine gate_dst (N := 16) rfl ?_); refine box_event ?hg (N := 16) ?hd (cs := #[.int .i64 0, .int .i64 0, .int .i64 0, .slice none 0 0]) (t := 47) ?hr ?_; (case hd => rfl); (case hg => rfl); (case hr => first | (go_simp; done) | (go_simp; rfl)); intro gb159 hg w119 hbox hb; have n0_ := Xam (Kd.R_below (by (with_reducible repeat (first | apply Xra | apply Xrn | apply Xrd)); exact HO_117003.out) hb); have n1_ := Xam (Kd.R_below (by (with_reducible repeat (first | apply Xra | apply Xrn | apply Xrd)); exact HO_124003.out) hb); have n2_ := Xam (Kd.R_below (by (with_reducible repeat (first | apply Xra | apply Xrn | apply Xrd)); exact HO_132003.out) hb); have n3_ := Xam (Kd.R_below (by (with_reducible repeat (first | apply Xra | apply Xrn | apply Xrd)); exact HO151.out) hb); have n4_ := Xam (Kd.R_below (by (with_reducible repeat (first | apply Xra | apply Xrn | apply Xrd)); exact HO157.out) hb); have n5_ := Xam (Xbb (g := gb101) (o := .cells #[.int .i64 a0_0, .int .i64 a0_1, .int .i64 a0_2, .slice A0_3 l0_3.length c0_3] 45 (0, 0)) (by (with_reducible repeat (first | refine Xkn ?_ _ | refine Xkd ?_ | refine Xka ?_ _)); exact BK101.out) hb); have n6_ := Xam (Xbb (g := gb116) (o := .cells #[.int .i64 t109, .int .i64 t110, .int .i64 t111, .slice Ao24 t112.length co24] 47 (0, 0)) (by (with_reducible repeat (first | refine Xkn ?_ _ | refine Xkd ?_ | refine Xka ?_ _)); exact BK116.out) hb); have n7_ := Xam (Xbb (g := gb123) (o := .cells #[.int .i64 t117, .int .i64 t118, .int .i64 t119, .slice Ao31 t141.length co31] 47 (0, 0)) (by (with_reducible repeat (first | refine Xkn ?_ _ | refine Xkd ?_ | refine Xka ?_ _)); exact BK123.out) hb); have n8_ := Xam (Xbb (g := gb131) (o := .cells #[.int .i64 t124, .int .i64 t125, .int .i64 t126, .slice Ao38 t127.length co38] 47 (0, 0)) (by (with_reducible repeat (first | refine Xkn ?_ _ | refine Xkd ?_ | refine Xka ?_ _)); exact BK131.out) hb); have n9_ := Xam (Xbt (by repeat (first | (with_reducible first | exact HB.out | apply Xba | apply Xbn | apply Xbd | refine Xbe ?_ GE101.out | refine Xbe ?_ GE116.out | refine Xbe ?_ GE123.out | refine Xbe ?_ GE131.out) | exact HB.out)) hb); have n10_ := Xam (hbox); have n11_ := Xam ((by rw [hg]; exact (Xbs (by repeat (first | (with_reducible first | exact HB.out | apply Xba | apply Xbn | apply Xbd | refine Xbe ?_ GE101.out | refine Xbe ?_ GE116.out | refine Xbe ?_ GE123.out | refine Xbe ?_ GE131.out) | exact HB.out))) : w.heap.size ≤ gb159)); have n12_ := Xam ((by rw [hg]; exact (Xbs (by repeat (first | (with_reducible first | exact HB.out | apply Xba | apply Xbn | apply Xbd | refine Xbe ?_ GE101.out | refine Xbe ?_ GE116.out | refine Xbe ?_ GE123.out | refine Xbe ?_ GE131.out) | exact HB.out))) : w.heap.size ≤ gb159)); have n13_ := Xam ((by rw [hg]; exact Nat.ne_of_lt (Xbl (g := gb101) (o := .cells #[.int .i64 a0_0, .int .i64 a0_1, .int .i64 a0_2, .slice A0_3 l0_3.length c0_3] 45 (0, 0)) (by (with_reducible repeat (first | refine Xkn ?_ _ | refine Xkd ?_ | refine Xka ?_ _)); exact BK101.out)) : gb101 ≠ gb159)); have n14_ := Xam ((by rw [hg]; exact Nat.ne_of_gt (Xbl (g := gb101) (o := .cells #[.int .i64 a0_0, .int .i64 a0_1, .int .i64 a0_2, .slice A0_3 l0_3.length c0_3] 45 (0, 0)) (by (with_reducible repeat (first | refine Xkn ?_ _ | refine Xkd ?_ | refine Xka ?_ _)); exact BK101.out)) : gb159 ≠ gb101)); have n15_ := Xam ((by rw [hg]; exact Nat.ne_of_lt (Xbl (g := gb116) (o := .cells #[.int .i64 t109, .int .i64 t110, .int .i64 t111, .slice Ao24 t112.length co24] 47 (0, 0)) (by (with_reducible repeat (first | refine Xkn ?_ _ | refine Xkd ?_ | refine Xka ?_ _)); exact BK116.out)) : gb116 ≠ gb159)); have n16_ := Xam ((by rw [hg]; exact Nat.ne_of_gt (Xbl (g := gb116) (o := .cells #[.int .i64 t109, .int .i64 t110, .int .i64 t111, .slice Ao24 t112.length co24] 47 (0, 0)) (by (with_reducible repeat (first | refine Xkn ?_ _ | refine Xkd ?_ | refine Xka ?_ _)); exact BK116.out)) : gb159 ≠ gb116)); have n17_ := Xam ((by rw [hg]; exact Nat.ne_of_lt (Xbl (g := gb123) (o := .cells #[.int .i64 t117, .int .i64 t118, .int .i64 t119, .slice Ao31 t141.length co31] 47 (0, 0)) (by (with_reducible repeat (first | refine Xkn ?_ _ | refine Xkd ?_ | refine Xka ?_ _)); exact BK123.out)) : gb123 ≠ gb159)); have n18_ := Xam ((by rw [hg]; exact Nat.ne_of_gt (Xbl (g := gb123) (o := .cells #[.int .i64 t117, .int .i64 t118, .int .i64 t119, .slice Ao31 t141.length co31] 47 (0, 0)) (by (with_reducible repeat (first | refine Xkn ?_ _ | refine Xkd ?_ | refine Xka ?_ _)); exact BK123.out)) : gb159 ≠ gb123)); have n19_ := Xam ((by rw [hg]; exact Nat.ne_of_lt (Xbl (g := gb131) (o := .cells #[.int .i64 t124, .int .i64 t125, .int .i64 t126, .slice Ao38 t127.length co38] 47 (0, 0)) (by (with_reducible repeat (first | refine Xkn ?_ _ | refine Xkd ?_ | refine Xka ?_ _)); exact BK131.out)) : gb131 ≠ gb159)); have n20_ := Xam ((by rw [hg]; exact Nat.ne_of_gt (Xbl (g := gb131) (o := .cells #[.int .i64 t124, .int .i64 t125, .int .i64 t126, .slice Ao38 t127.length co38] 47 (0, 0)) (by (with_reducible repeat (first | refine Xkn ?_ _ | refine Xkd ?_ | refine Xka ?_ _)); exact BK131.out)) : gb159 ≠ gb131)); clear HO_117003; clear HO_124003; clear HO_132003; clear HO151; clear HO157; clear BK101; clear BK116; clear BK123; clear BK131; clear HB; have HO_117003 := n0_; have HO_124003 := n1_; have HO_132003 := n2_; have HO151 := n3_; have HO157 := n4_; have BK101 := n5_; have BK116 := n6_; have BK123 := n7_; have BK131 := n8_; have HB := n9_; have BK159 := n10_; have GW159 := n11_; have GE159 := n12_; have NB101_159 := n13_; have NB159_101 := n14_; have NB116_159 := n15_; have NB159_116 := n16_; have NB123_159 := n17_; have NB159_123 := n18_; have NB131_159 := n19_; have NB159_131 := n20_; clear n0_ n1_ n2_ n3_ n4_ n5_ n6_ n7_ n8_ n9_ n10_ n11_ n12_ n13_ n14_ n15_ n16_ n17_ n18_ n19_ n20_; clear hb hbox hg; have hnb120 := NB159_101.out; have hnc120 := NB101_159.out; have hnb121 := NB159_116.out; have hnc121 := NB116_159.out; have hnb122 := NB159_123.out; have hnc122 := NB123_159.out; have hnb123 := NB159_131.out; have hnc123 := NB131_159.out; have hcz124_0 : w119.cell? ⟨gb159, 0, none⟩ = some (.int .i64 0) := (Xbc BK159.out 0).trans rfl; have hcz124_1 : w119.cell? ⟨gb159, 1, none⟩ = some (.int .i64 0) := (Xbc BK159.out 1).trans rfl; have hcz124_2 : w119.cell? ⟨gb159, 2, none⟩ = some (.int .i64 0) := (Xbc BK159.out 2).trans rfl; have hcz124_3 : w119.cell? ⟨gb159, 3, none⟩ = some (.slice none 0 0) := (Xbc BK159.out 3).trans rfl; have hfz124_0 := Xbf BK159.out 0; have hfz124_1 := Xbf BK159.out 1; have hfz124_2 := Xbf BK159.out 2; have hfz124_3 := Xbf BK159.out 3; obtain ⟨Ao125, co125, eo125⟩ := Kd.R_slice HO157.out; subst eo125))
                      (try simp only [Act.put, List.setIfInBounds_toArray, List.set_cons_zero, List.set_cons_succ])
                      go_cut [97] (fun v97 wc => ∃ (kq : Nat) (x97_104 : Bool), v97 = .bool x97_104 ∧ Aside0 (laws_FnExactRemoveMember.j2 kq t143 x97_104 t124 t125 t126 t144 = some r) ∧ Aside0 (kq ≤ kj61) ∧ Aside0 (Kd.R (Kd.int .i64) 3 wc w.heap.size (fun k_ => some k_ ≠ ((.slice Ao31 t141.length co31) : Value).ownBlock ∧ some k_ ≠ ((.slice Ao38 t127.length co38) : Value).ownBlock ∧ some k_ ≠ ((.slice Ao125 t155.length co125) : Value).ownBlock) (.slice Ao24 t112.length co24) t112) ∧ Aside0 (Kd.R (Kd.int .i64) 3 wc w.heap.size (fun k_ => some k_ ≠ ((.slice Ao24 t112.length co24) : Value).ownBlock ∧ some k_ ≠ ((.slice Ao38 t127.length co38) : Value).ownBlock ∧ some k_ ≠ ((.slice Ao125 t155.length co125) : Value).ownBlock) (.slice Ao31 t141.length co31) t141) ∧ Aside0 (Kd.R (Kd.int .i64) 3 wc w.heap.size (fun k_ => some k_ ≠ ((.slice Ao24 t112.length co24) : Value).ownBlock ∧ some k_ ≠ ((.slice Ao31 t141.length co31) : Value).ownBlock ∧ some k_ ≠ ((.slice Ao125 t155.length co125) : Value).ownBlock) (.slice Ao38 t127.length co38) t144) ∧ Aside0 (Kd.R (Kd.int .i64) 3 wc w.heap.size (fun k_ => some k_ ≠ ((.slice Ao24 t112.length co24) : Value).ownBlock ∧ some k_ ≠ ((.slice Ao31 t141.length co31) : Value).ownBlock ∧ some k_ ≠ ((.slice Ao38 t127.length co38) : Value).ownBlock) (.slice Ao125 t155.length co125) t155) ∧ Aside0 (wc.heap[gb101]? = some (.cells #[.int .i64 a0_0, .int .i64 a0_1, .int .i64 a0_2, (.slice A0_3 l0_3.length c0_3)] 45 (0, 0))) ∧ Aside0 (wc.heap[gb116]? = some (.cells #[.int .i64 t109, .int .i64 t110, .int .i64 t111, (.slice Ao24 t112.length co24)] 47 (0, 0))) ∧ Aside0 (wc.heap[gb123]? = some (.cells #[.int .i64 t117, .int .i64 t118, .int .i64 t119, (.slice Ao31 t141.length co31)] 47 (0, 0))) ∧ Aside0 (wc.heap[gb131]? = some (.cells #[.int .i64 t124, .int .i64 t125, .int .i64 t126, (.slice Ao38 t127.length co38)] 47 (0, 0))) ∧ Aside0 (wc.heap[gb159]? = some (.cells #[.int .i64 t152, .int .i64 t153, .int .i64 t154, (.slice Ao125 t155.length co125)] 47 (0, 0))) ∧ Aside0 (Below w.heap.size w wc))
                      case first =>
                        have H := HC105.out
                        clear HC105
                        replace H := Option.bind_eq_some_iff.mp H
                        obtain ⟨t160, A1260, H⟩ := H
                        replace H : (if t160 = true then (laws_FnExactRemoveMember.j2 kj61 t143 (t158 != t115) t124 t125 t126 t144) else (laws_FnExactRemoveMember.j2 kj61 t143 true t124 t125 t126 t144)) = some r := H
                        have A126 := Xam A1260
                        clear A1260
                        by_cases c127 : t160 = true
                        · subst c127
                          have H1 : (laws_FnExactRemoveMember.j2 kj61 t143 (t158 != t115) t124 t125 t126 t144) = some r := by rw [if_pos rfl] at H; exact H
                          clear H
                          have H := H1
                          clear H1
                          have H' := Xam H
                          clear H
                          have hnb128 := NB159_101.out
                          have hnc128 := NB101_159.out
                          have hnb129 := NB159_116.out
                          have hnc129 := NB116_159.out
                          have hnb130 := NB159_123.out
                          have hnc130 := NB123_159.out
                          have hnb131 := NB159_131.out
                          have hnc131 := NB131_159.out
                          have hcz132_0 : w119.cell? ⟨gb159, 0, none⟩ = some (.int .i64 0) := (Xbc BK159.out 0).trans rfl
                          have hcz132_1 : w119.cell? ⟨gb159, 1, none⟩ = some (.int .i64 0) := (Xbc BK159.out 1).trans rfl
                          have hcz132_2 : w119.cell? ⟨gb159, 2, none⟩ = some (.int .i64 0) := (Xbc BK159.out 2).trans rfl
                          have hcz132_3 : w119.cell? ⟨gb159, 3, none⟩ = some (.slice none 0 0) := (Xbc BK159.out 3).trans rfl
                          have hfz132_0 := Xbf BK159.out 0
                          have hfz132_1 := Xbf BK159.out 1
                          have hfz132_2 := Xbf BK159.out 2
                          have hfz132_3 := Xbf BK159.out 3
                          have hnb133 := NB116_101.out
                          have hnc133 := NB101_116.out
                          have hnb134 := NB116_123.out
                          have hnc134 := NB123_116.out
                          have hnb135 := NB116_131.out
                          have hnc135 := NB131_116.out
                          have hcz136_0 : w119.cell? ⟨gb116, 0, none⟩ = some (.int .i64 t109) := (Xbc BK116.out 0).trans rfl
                          have hcz136_1 : w119.cell? ⟨gb116, 1, none⟩ = some (.int .i64 t110) := (Xbc BK116.out 1).trans rfl
                          have hcz136_2 : w119.cell? ⟨gb116, 2, none⟩ = some (.int .i64 t111) := (Xbc BK116.out 2).trans rfl
                          have hcz136_3 : w119.cell? ⟨gb116, 3, none⟩ = some (.slice Ao24 t112.length co24) := (Xbc BK116.out 3).trans rfl
                          have hfz136_0 := Xbf BK116.out 0
                          have hfz136_1 := Xbf BK116.out 1
                          have hfz136_2 := Xbf BK116.out 2
                          have hfz136_3 := Xbf BK116.out 3
                          go_wp2_with (first | ((with_reducible refine gate_callee (f := 30) rfl ?_); refine goesL_ (some 91) rfl rfl Try.func30 (by kernel_rfl) rfl #[.agg #[.int .i64 t152, .int .i64 t153, .int .i64 t154, .slice Ao125 t155.length co125], .agg #[.int .i64 t109, .int .i64 t110, .int .i64 t111, .slice Ao24 t112.length co24]] rfl (by (try simp only [List.map_toArray, List.map_cons, List.map_nil]); first | done | rfl | (simp only [List.length_drop, List.length_take]; rfl)) ?_; (with_reducible refine (laws_eqSenderGroup.calls kj61 t152 t153 t154 _ _ t155 t109 t110 t111 _ _ t112 true _ ?side1 ?side2 ?side3 ?side4 A126.out).mono ?_); (case side1 => refine (Kd.R_reads' (e := 3) (base := w.heap.size) (ok := fun k_ => ((((True ∧ some k_ ≠ (.slice Ao24 t112.length co24 : Value).ownBlock) ∧ some k_ ≠ (.slice Ao31 t141.length co31 : Value).ownBlock) ∧ some k_ ≠ (.slice Ao38 t127.length co38 : Value).ownBlock) ∧ some k_ ≠ (.slice Ao117 t149.length co117 : Value).ownBlock)) (n := t155.length) (c := co125) ?_).2.2; exact (by (with_reducible repeat (first | apply Xra | apply Xrn | apply Xrd)); exact (Kd.R_mono (Kd.R_far (p := ⟨gb159, 3, none⟩) (Kd.R_far (p := ⟨gb159, 2, none⟩) (Kd.R_far (p := ⟨gb159, 1, none⟩) (Kd.R_far (p := ⟨gb159, 0, none⟩) (Kd.R_types HO157.out BK159.out (by decide)) (fun _ hk => hk.2) (.int .i64 t152)) (fun _ hk => hk.2) (.int .i64 t153)) (fun _ hk => hk.2) (.int .i64 t154)) (fun _ hk => hk.2) (.slice Ao125 t155.length co125)) (fun _ h_ => h_.1)))); (case side2 => exact (Kd.R_reads' HO157.out).2.1); (case side3 => refine (Kd.R_reads' (e := 3) (base := w.heap.size) (ok := fun k_ => (((some k_ ≠ (.slice Ao31 t141.length co31 : Value).ownBlock ∧ some k_ ≠ (.slice Ao38 t127.length co38 : Value).ownBlock) ∧ some k_ ≠ (.slice Ao117 t149.length co117 : Value).ownBlock) ∧ some k_ ≠ (.slice Ao125 t155.length co125 : Value).ownBlock)) (n := t112.length) (c := co24) ?_).2.2; exact (by (with_reducible repeat (first | apply Xra | apply Xrn | apply Xrd)); exact (Kd.R_mono (Kd.R_far (p := ⟨gb159, 3, none⟩) (Kd.R_far (p := ⟨gb159, 2, none⟩) (Kd.R_far (p := ⟨gb159, 1, none⟩) (Kd.R_far (p := ⟨gb159, 0, none⟩) (Kd.R_types HO_117003.out BK159.out (by decide)) (fun _ hk => hk.2) (.int .i64 t152)) (fun _ hk => hk.2) (.int .i64 t153)) (fun _ hk => hk.2) (.int .i64 t154)) (fun _ hk => hk.2) (.slice Ao125 t155.length co125)) (fun _ h_ => h_.1)))); (case side4 => exact (Kd.R_reads' HO_117003.out).2.1); rintro e w137 ⟨rfl, hb⟩; refine ⟨_, rfl, ?_⟩; have n0_ := Xam (Kd.R_below (by (with_reducible repeat (first | apply Xra | apply Xrn | apply Xrd)); exact (Kd.R_mono (Kd.R_far (p := ⟨gb159, 3, none⟩) (Kd.R_far (p := ⟨gb159, 2, none⟩) (Kd.R_far (p := ⟨gb159, 1, none⟩) (Kd.R_far (p := ⟨gb159, 0, none⟩) (Kd.R_types HO_117003.out BK159.out (by decide)) (fun _ hk => hk.2) (.int .i64 t152)) (fun _ hk => hk.2) (.int .i64 t153)) (fun _ hk => hk.2) (.int .i64 t154)) (fun _ hk => hk.2) (.slice Ao125 t155.length co125)) (fun _ h_ => h_.1))) hb); have n1_ := Xam (Kd.R_below (by (with_reducible repeat (first | apply Xra | apply Xrn | apply Xrd)); exact (Kd.R_mono (Kd.R_far (p := ⟨gb159, 3, none⟩) (Kd.R_far (p := ⟨gb159, 2, none⟩) (Kd.R_far (p := ⟨gb159, 1, none⟩) (Kd.R_far (p := ⟨gb159, 0, none⟩) (Kd.R_types HO_124003.out BK159.out (by decide)) (fun _ hk => hk.2) (.int .i64 t152)) (fun _ hk => hk.2) (.int .i64 t153)) (fun _ hk => hk.2) (.int .i64 t154)) (fun _ hk => hk.2) (.slice Ao125 t155.length co125)) (fun _ h_ => h_.1))) hb); have n2_ := Xam (Kd.R_below (by (with_reducible repeat (first | apply Xra | apply Xrn | apply Xrd)); exact (Kd.R_mono (Kd.R_far (p := ⟨gb159, 3, none⟩) (Kd.R_far (p := ⟨gb159, 2, none⟩) (Kd.R_far (p := ⟨gb159, 1, none⟩) (Kd.R_far (p := ⟨gb159, 0, none⟩) (Kd.R_types HO_132003.out BK159.out (by decide)) (fun _ hk => hk.2) (.int .i64 t152)) (fun _ hk => hk.2) (.int .i64 t153)) (fun _ hk => hk.2) (.int .i64 t154)) (fun _ hk => hk.2) (.slice Ao125 t155.length co125)) (fun _ h_ => h_.1))) hb); have n3_ := Xam (Kd.R_below (by (with_reducible repeat (first | apply Xra | apply Xrn | apply Xrd)); exact (Kd.R_mono (Kd.R_far (p := ⟨gb159, 3, none⟩) (Kd.R_far (p := ⟨gb159, 2, none⟩) (Kd.R_far (p := ⟨gb159, 1, none⟩) (Kd.R_far (p := ⟨gb159, 0, none⟩) (Kd.R_types HO151.out BK159.out (by decide)) (fun _ hk => hk.2) (.int .i64 t152)) (fun _ hk => hk.2) (.int .i64 t153)) (fun _ hk => hk.2) (.int .i64 t154)) (fun _ hk => hk.2) (.slice Ao125 t155.length co125)) (fun _ h_ => h_.1))) hb); have n4_ := Xam (Kd.R_below (by (with_reducible repeat (first | apply Xra | apply Xrn | apply Xrd)); exact (Kd.R_mono (Kd.R_far (p := ⟨gb159, 3, none⟩) (Kd.R_far (p := ⟨gb159, 2, none⟩) (Kd.R_far (p := ⟨gb159, 1, none⟩) (Kd.R_far (p := ⟨gb159, 0, none⟩) (Kd.R_types HO157.out BK159.out (by decide)) (fun _ hk => hk.2) (.int .i64 t152)) (fun _ hk => hk.2) (.int .i64 t153)) (fun _ hk => hk.2) (.int .i64 t154)) (fun _ hk => hk.2) (.slice Ao125 t155.length co125)) (fun _ h_ => h_.1))) hb); have n5_ := Xam (Xbb (g := gb101) (o := .cells #[.int .i64 a0_0, .int .i64 a0_1, .int .i64 a0_2, .slice A0_3 l0_3.length c0_3] 45 (0, 0)) (by (with_reducible repeat (first | refine Xkn ?_ _ | refine Xkd ?_ | refine Xka ?_ _)); refine blk_far ?_ NB101_159.out _; (with_reducible repeat (first | refine Xkn ?_ _ | refine Xkd ?_ | refine Xka ?_ _)); refine blk_far ?_ NB101_159.out _; (with_reducible repeat (first | refine Xkn ?_ _ | refine Xkd ?_ | refine Xka ?_ _)); refine blk_far ?_ NB101_159.out _; (with_reducible repeat (first | refine Xkn ?_ _ | refine Xkd ?_ | refine Xka ?_ _)); refine blk_far ?_ NB101_159.out _; (with_reducible repeat (first | refine Xkn ?_ _ | refine Xkd ?_ | refine Xka ?_ _)); exact BK101.out) hb); have n6_ := Xam (Xbb (g := gb116) (o := .cells #[.int .i64 t109, .int .i64 t110, .int .i64 t111, .slice Ao24 t112.length co24] 47 (0, 0)) (by (with_reducible repeat (first | refine Xkn ?_ _ | refine Xkd ?_ | refine Xka ?_ _)); refine blk_far ?_ NB116_159.out _; (with_reducible repeat (first | refine Xkn ?_ _ | refine Xkd ?_ | refine Xka ?_ _)); refine blk_far ?_ NB116_159.out _; (with_reducible repeat (first | refine Xkn ?_ _ | refine Xkd ?_ | refine Xka ?_ _)); refine blk_far ?_ NB116_159.out _; (with_reducible repeat (first | refine Xkn ?_ _ | refine Xkd ?_ | refine Xka ?_ _)); refine blk_far ?_ NB116_159.out _; (with_reducible repeat (first | refine Xkn ?_ _ | refine Xkd ?_ | refine Xka ?_ _)); exact BK116.out) hb); have n7_ := Xam (Xbb (g := gb123) (o := .cells #[.int .i64 t117, .int .i64 t118, .int .i64 t119, .slice Ao31 t141.length co31] 47 (0, 0)) (by (with_reducible repeat (first | refine Xkn ?_ _ | refine Xkd ?_ | refine Xka ?_ _)); refine blk_far ?_ NB123_159.out _; (with_reducible repeat (first | refine Xkn ?_ _ | refine Xkd ?_ | refine Xka ?_ _)); refine blk_far ?_ NB123_159.out _; (with_reducible repeat (first | refine Xkn ?_ _ | refine Xkd ?_ | refine Xka ?_ _)); refine blk_far ?_ NB123_159.out _; (with_reducible repeat (first | refine Xkn ?_ _ | refine Xkd ?_ | refine Xka ?_ _)); refine blk_far ?_ NB123_159.out _; (with_reducible repeat (first | refine Xkn ?_ _ | refine Xkd ?_ | refine Xka ?_ _)); exact BK123.out) hb); have n8_ := Xam (Xbb (g := gb131) (o := .cells #[.int .i64 t124, .int .i64 t125, .int .i64 t126, .slice Ao38 t127.length co38] 47 (0, 0)) (by (with_reducible repeat (first | refine Xkn ?_ _ | refine Xkd ?_ | refine Xka ?_ _)); refine blk_far ?_ NB131_159.out _; (with_reducible repeat (first | refine Xkn ?_ _ | refine Xkd ?_ | refine Xka ?_ _)); refine blk_far ?_ NB131_159.out _; (with_reducible repeat (first | refine Xkn ?_ _ | refine Xkd ?_ | refine Xka ?_ _)); refine blk_far ?_ NB131_159.out _; (with_reducible repeat (first | refine Xkn ?_ _ | refine Xkd ?_ | refine Xka ?_ _)); refine blk_far ?_ NB131_159.out _; (with_reducible repeat (first | refine Xkn ?_ _ | refine Xkd ?_ | refine Xka ?_ _)); exact BK131.out) hb); have n9_ := Xam (Xbb (g := gb159) (o := .cells #[.int .i64 t152, .int .i64 t153, .int .i64 t154, .slice Ao125 t155.length co125] 47 (0, 0)) (by (with_reducible repeat (first | refine Xkn ?_ _ | refine Xkd ?_ | refine Xka ?_ _)); refine blk_put (cs := #[.int .i64 t152, .int .i64 t153, .int .i64 t154, .slice none 0 0]) ?_ 3 _ rfl; (with_reducible repeat (first | refine Xkn ?_ _ | refine Xkd ?_ | refine Xka ?_ _)); refine blk_put (cs := #[.int .i64 t152, .int .i64 t153, .int .i64 0, .slice none 0 0]) ?_ 2 _ rfl; (with_reducible repeat (first | refine Xkn ?_ _ | refine Xkd ?_ | refine Xka ?_ _)); refine blk_put (cs := #[.int .i64 t152, .int .i64 0, .int .i64 0, .slice none 0 0]) ?_ 1 _ rfl; (with_reducible repeat (first | refine Xkn ?_ _ | refine Xkd ?_ | refine Xka ?_ _)); refine blk_put (cs := #[.int .i64 0, .int .i64 0, .int .i64 0, .slice none 0 0]) ?_ 0 _ rfl; (with_reducible repeat (first | refine Xkn ?_ _ | refine Xkd ?_ | refine Xka ?_ _)); exact BK159.out) hb); have n10_ := Xam (Xbt (by repeat (first | (with_reducible first | exact HB.out | apply Xba | apply Xbn | apply Xbd | refine Xbe ?_ GE101.out | refine Xbe ?_ GE116.out | refine Xbe ?_ GE123.out | refine Xbe ?_ GE131.out | refine Xbe ?_ GE159.out) | exact HB.out)) hb); clear HO_117003; clear HO_124003; clear HO_132003; clear HO151; clear HO157; clear BK101; clear BK116; clear BK123; clear BK131; clear BK159; clear HB; have HO_117003 := n0_; have HO_124003 := n1_; have HO_132003 := n2_; have HO151 := n3_; have HO157 := n4_; have BK101 := n5_; have BK116 := n6_; have BK123 := n7_; have BK131 := n8_; have BK159 := n9_; have HB := n10_; clear n0_ n1_ n2_ n3_ n4_ n5_ n6_ n7_ n8_ n9_ n10_; (try clear hb); (try clear hb2); (try clear hk); (try clear hi)))
                          go_meet
                          case rel => exact ⟨_, ((t158 != t115)), (by first | rfl | (simp; done) | (simp [*]; done)), H', ⟨by have := HJ12.out; have := HJ61.out; first | omega | exact Nat.le_refl _⟩, ⟨by (try simp only [hl124003_61]); (with_reducible repeat (first | apply Xra | apply Xrn | apply Xrd)); exact Kd.R_mono HO_117003.out (fun _ hk => ⟨hk.1.1.1, ⟨hk.1.1.2, hk.2⟩⟩)⟩, ⟨by (try simp only [hl124003_61]); (with_reducible repeat (first | apply Xra | apply Xrn | apply Xrd)); exact Kd.R_mono HO_124003.out (fun _ hk => ⟨hk.1.1.1, ⟨hk.1.1.2, hk.2⟩⟩)⟩, ⟨by (try simp only [hl124003_61]); (with_reducible repeat (first | apply Xra | apply Xrn | apply Xrd)); exact Kd.R_mono HO_132003.out (fun _ hk => ⟨hk.1.1.1, ⟨hk.1.1.2, hk.2⟩⟩)⟩, ⟨by (try simp only [hl124003_61]); (with_reducible repeat (first | apply Xra | apply Xrn | apply Xrd)); exact Kd.R_mono HO157.out (fun _ hk => ⟨hk.1.1.1.2, ⟨hk.1.1.2, hk.1.2⟩⟩)⟩, ⟨by (try simp only [hl124003_61]); (with_reducible repeat (first | refine Xkn ?_ _ | refine Xkd ?_ | refine Xka ?_ _)); exact BK101.out⟩, ⟨by (try simp only [hl124003_61]); (with_reducible repeat (first | refine Xkn ?_ _ | refine Xkd ?_ | refine Xka ?_ _)); exact BK116.out⟩, ⟨by (try simp only [hl124003_61]); (with_reducible repeat (first | refine Xkn ?_ _ | refine Xkd ?_ | refine Xka ?_ _)); exact BK123.out⟩, ⟨by (try simp only [hl124003_61]); (with_reducible repeat (first | refine Xkn ?_ _ | refine Xkd ?_ | refine Xka ?_ _)); exact BK131.out⟩, ⟨by (try simp only [hl124003_61]); (with_reducible repeat (first | refine Xkn ?_ _ | refine Xkd ?_ | refine Xka ?_ _)); exact BK159.out⟩, ⟨by repeat (first | (with_reducible first | exact HB.out | apply Xba | apply Xbn | apply Xbd | refine Xbe ?_ GE101.out | refine Xbe ?_ GE116.out | refine Xbe ?_ GE123.out | refine Xbe ?_ GE131.out | refine Xbe ?_ GE159.out) | exact HB.out)⟩⟩
                        · replace c127 := Bool.eq_false_iff.mpr c127
                          subst c127
                          have H1 : (laws_FnExactRemoveMember.j2 kj61 t143 true t124 t125 t126 t144) = some r := by rw [if_neg (show ¬ (false = true) by decide)] at H; exact H
                          clear H
                          have H := H1
                          clear H1
                          have H' := Xam H
                          clear H
                          have hnb138 := NB159_101.out
                          have hnc138 := NB101_159.out
                          have hnb139 := NB159_116.out
                          have hnc139 := NB116_159.out
                          have hnb140 := NB159_123.out
                          have hnc140 := NB123_159.out
                          have hnb141 := NB159_131.out
                          have hnc141 := NB131_159.out
                          have hcz142_0 : w119.cell? ⟨gb159, 0, none⟩ = some (.int .i64 0) := (Xbc BK159.out 0).trans rfl
                          have hcz142_1 : w119.cell? ⟨gb159, 1, none⟩ = some (.int .i64 0) := (Xbc BK159.out 1).trans rfl
                          have hcz142_2 : w119.cell? ⟨gb159, 2, none⟩ = some (.int .i64 0) := (Xbc BK159.out 2).trans rfl
                          have hcz142_3 : w119.cell? ⟨gb159, 3, none⟩ = some (.slice none 0 0) := (Xbc BK159.out 3).trans rfl
                          have hfz142_0 := Xbf BK159.out 0
                          have hfz142_1 := Xbf BK159.out 1
                          have hfz142_2 := Xbf BK159.out 2
                          have hfz142_3 := Xbf BK159.out 3
                          have hnb143 := NB116_101.out
                          have hnc143 := NB101_116.out
                          have hnb144 := NB116_123.out
                          have hnc144 := NB123_116.out
                          have hnb145 := NB116_131.out
                          have hnc145 := NB131_116.out
                          have hcz146_0 : w119.cell? ⟨gb116, 0, none⟩ = some (.int .i64 t109) := (Xbc BK116.out 0).trans rfl
                          have hcz146_1 : w119.cell? ⟨gb116, 1, none⟩ = some (.int .i64 t110) := (Xbc BK116.out 1).trans rfl
                          have hcz146_2 : w119.cell? ⟨gb116, 2, none⟩ = some (.int .i64 t111) := (Xbc BK116.out 2).trans rfl
                          have hcz146_3 : w119.cell? ⟨gb116, 3, none⟩ = some (.slice Ao24 t112.length co24) := (Xbc BK116.out 3).trans rfl
                          have hfz146_0 := Xbf BK116.out 0
                          have hfz146_1 := Xbf BK116.out 1
                          have hfz146_2 := Xbf BK116.out 2
                          have hfz146_3 := Xbf BK116.out 3
                          go_wp2_with (first | ((with_reducible refine gate_callee (f := 30) rfl ?_); refine goesL_ (some 91) rfl rfl Try.func30 (by kernel_rfl) rfl #[.agg #[.int .i64 t152, .int .i64 t153, .int .i64 t154, .slice Ao125 t155.length co125], .agg #[.int .i64 t109, .int .i64 t110, .int .i64 t111, .slice Ao24 t112.length co24]] rfl (by (try simp only [List.map_toArray, List.map_cons, List.map_nil]); first | done | rfl | (simp only [List.length_drop, List.length_take]; rfl)) ?_; (with_reducible refine (laws_eqSenderGroup.calls kj61 t152 t153 t154 _ _ t155 t109 t110 t111 _ _ t112 false _ ?side1 ?side2 ?side3 ?side4 A126.out).mono ?_); (case side1 => refine (Kd.R_reads' (e := 3) (base := w.heap.size) (ok := fun k_ => ((((True ∧ some k_ ≠ (.slice Ao24 t112.length co24 : Value).ownBlock) ∧ some k_ ≠ (.slice Ao31 t141.length co31 : Value).ownBlock) ∧ some k_ ≠ (.slice Ao38 t127.length co38 : Value).ownBlock) ∧ some k_ ≠ (.slice Ao117 t149.length co117 : Value).ownBlock)) (n := t155.length) (c := co125) ?_).2.2; exact (by (with_reducible repeat (first | apply Xra | apply Xrn | apply Xrd)); exact (Kd.R_mono (Kd.R_far (p := ⟨gb159, 3, none⟩) (Kd.R_far (p := ⟨gb159, 2, none⟩) (Kd.R_far (p := ⟨gb159, 1, none⟩) (Kd.R_far (p := ⟨gb159, 0, none⟩) (Kd.R_types HO157.out BK159.out (by decide)) (fun _ hk => hk.2) (.int .i64 t152)) (fun _ hk => hk.2) (.int .i64 t153)) (fun _ hk => hk.2) (.int .i64 t154)) (fun _ hk => hk.2) (.slice Ao125 t155.length co125)) (fun _ h_ => h_.1)))); (case side2 => exact (Kd.R_reads' HO157.out).2.1); (case side3 => refine (Kd.R_reads' (e := 3) (base := w.heap.size) (ok := fun k_ => (((some k_ ≠ (.slice Ao31 t141.length co31 : Value).ownBlock ∧ some k_ ≠ (.slice Ao38 t127.length co38 : Value).ownBlock) ∧ some k_ ≠ (.slice Ao117 t149.length co117 : Value).ownBlock) ∧ some k_ ≠ (.slice Ao125 t155.length co125 : Value).ownBlock)) (n := t112.length) (c := co24) ?_).2.2; exact (by (with_reducible repeat (first | apply Xra | apply Xrn | apply Xrd)); exact (Kd.R_mono (Kd.R_far (p := ⟨gb159, 3, none⟩) (Kd.R_far (p := ⟨gb159, 2, none⟩) (Kd.R_far (p := ⟨gb159, 1, none⟩) (Kd.R_far (p := ⟨gb159, 0, none⟩) (Kd.R_types HO_117003.out BK159.out (by decide)) (fun _ hk => hk.2) (.int .i64 t152)) (fun _ hk => hk.2) (.int .i64 t153)) (fun _ hk => hk.2) (.int .i64 t154)) (fun _ hk => hk.2) (.slice Ao125 t155.length co125)) (fun _ h_ => h_.1)))); (case side4 => exact (Kd.R_reads' HO_117003.out).2.1); rintro e w147 ⟨rfl, hb⟩; refine ⟨_, rfl, ?_⟩; have n0_ := Xam (Kd.R_below (by (with_reducible repeat (first | apply Xra | apply Xrn | apply Xrd)); exact (Kd.R_mono (Kd.R_far (p := ⟨gb159, 3, none⟩) (Kd.R_far (p := ⟨gb159, 2, none⟩) (Kd.R_far (p := ⟨gb159, 1, none⟩) (Kd.R_far (p := ⟨gb159, 0, none⟩) (Kd.R_types HO_117003.out BK159.out (by decide)) (fun _ hk => hk.2) (.int .i64 t152)) (fun _ hk => hk.2) (.int .i64 t153)) (fun _ hk => hk.2) (.int .i64 t154)) (fun _ hk => hk.2) (.slice Ao125 t155.length co125)) (fun _ h_ => h_.1))) hb); have n1_ := Xam (Kd.R_below (by (with_reducible repeat (first | apply Xra | apply Xrn | apply Xrd)); exact (Kd.R_mono (Kd.R_far (p := ⟨gb159, 3, none⟩) (Kd.R_far (p := ⟨gb159, 2, none⟩) (Kd.R_far (p := ⟨gb159, 1, none⟩) (Kd.R_far (p := ⟨gb159, 0, none⟩) (Kd.R_types HO_124003.out BK159.out (by decide)) (fun _ hk => hk.2) (.int .i64 t152)) (fun _ hk => hk.2) (.int .i64 t153)) (fun _ hk => hk.2) (.int .i64 t154)) (fun _ hk => hk.2) (.slice Ao125 t155.length co125)) (fun _ h_ => h_.1))) hb); have n2_ := Xam (Kd.R_below (by (with_reducible repeat (first | apply Xra | apply Xrn | apply Xrd)); exact (Kd.R_mono (Kd.R_far (p := ⟨gb159, 3, none⟩) (Kd.R_far (p := ⟨gb159, 2, none⟩) (Kd.R_far (p := ⟨gb159, 1, none⟩) (Kd.R_far (p := ⟨gb159, 0, none⟩) (Kd.R_types HO_132003.out BK159.out (by decide)) (fun _ hk => hk.2) (.int .i64 t152)) (fun _ hk => hk.2) (.int .i64 t153)) (fun _ hk => hk.2) (.int .i64 t154)) (fun _ hk => hk.2) (.slice Ao125 t155.length co125)) (fun _ h_ => h_.1))) hb); have n3_ := Xam (Kd.R_below (by (with_reducible repeat (first | apply Xra | apply Xrn | apply Xrd)); exact (Kd.R_mono (Kd.R_far (p := ⟨gb159, 3, none⟩) (Kd.R_far (p := ⟨gb159, 2, none⟩) (Kd.R_far (p := ⟨gb159, 1, none⟩) (Kd.R_far (p := ⟨gb159, 0, none⟩) (Kd.R_types HO151.out BK159.out (by decide)) (fun _ hk => hk.2) (.int .i64 t152)) (fun _ hk => hk.2) (.int .i64 t153)) (fun _ hk => hk.2) (.int .i64 t154)) (fun _ hk => hk.2) (.slice Ao125 t155.length co125)) (fun _ h_ => h_.1))) hb); have n4_ := Xam (Kd.R_below (by (with_reducible repeat (first | apply Xra | apply Xrn | apply Xrd)); exact (Kd.R_mono (Kd.R_far (p := ⟨gb159, 3, none⟩) (Kd.R_far (p := ⟨gb159, 2, none⟩) (Kd.R_far (p := ⟨gb159, 1, none⟩) (Kd.R_far (p := ⟨gb159, 0, none⟩) (Kd.R_types HO157.out BK159.out (by decide)) (fun _ hk => hk.2) (.int .i64 t152)) (fun _ hk => hk.2) (.int .i64 t153)) (fun _ hk => hk.2) (.int .i64 t154)) (fun _ hk => hk.2) (.slice Ao125 t155.length co125)) (fun _ h_ => h_.1))) hb); have n5_ := Xam (Xbb (g := gb101) (o := .cells #[.int .i64 a0_0, .int .i64 a0_1, .int .i64 a0_2, .slice A0_3 l0_3.length c0_3] 45 (0, 0)) (by (with_reducible repeat (first | refine Xkn ?_ _ | refine Xkd ?_ | refine Xka ?_ _)); refine blk_far ?_ NB101_159.out _; (with_reducible repeat (first | refine Xkn ?_ _ | refine Xkd ?_ | refine Xka ?_ _)); refine blk_far ?_ NB101_159.out _; (with_reducible repeat (first | refine Xkn ?_ _ | refine Xkd ?_ | refine Xka ?_ _)); refine blk_far ?_ NB101_159.out _; (with_reducible repeat (first | refine Xkn ?_ _ | refine Xkd ?_ | refine Xka ?_ _)); refine blk_far ?_ NB101_159.out _; (with_reducible repeat (first | refine Xkn ?_ _ | refine Xkd ?_ | refine Xka ?_ _)); exact BK101.out) hb); have n6_ := Xam (Xbb (g := gb116) (o := .cells #[.int .i64 t109, .int .i64 t110, .int .i64 t111, .slice Ao24 t112.length co24] 47 (0, 0)) (by (with_reducible repeat (first | refine Xkn ?_ _ | refine Xkd ?_ | refine Xka ?_ _)); refine blk_far ?_ NB116_159.out _; (with_reducible repeat (first | refine Xkn ?_ _ | refine Xkd ?_ | refine Xka ?_ _)); refine blk_far ?_ NB116_159.out _; (with_reducible repeat (first | refine Xkn ?_ _ | refine Xkd ?_ | refine Xka ?_ _)); refine blk_far ?_ NB116_159.out _; (with_reducible repeat (first | refine Xkn ?_ _ | refine Xkd ?_ | refine Xka ?_ _)); refine blk_far ?_ NB116_159.out _; (with_reducible repeat (first | refine Xkn ?_ _ | refine Xkd ?_ | refine Xka ?_ _)); exact BK116.out) hb); have n7_ := Xam (Xbb (g := gb123) (o := .cells #[.int .i64 t117, .int .i64 t118, .int .i64 t119, .slice Ao31 t141.length co31] 47 (0, 0)) (by (with_reducible repeat (first | refine Xkn ?_ _ | refine Xkd ?_ | refine Xka ?_ _)); refine blk_far ?_ NB123_159.out _; (with_reducible repeat (first | refine Xkn ?_ _ | refine Xkd ?_ | refine Xka ?_ _)); refine blk_far ?_ NB123_159.out _; (with_reducible repeat (first | refine Xkn ?_ _ | refine Xkd ?_ | refine Xka ?_ _)); refine blk_far ?_ NB123_159.out _; (with_reducible repeat (first | refine Xkn ?_ _ | refine Xkd ?_ | refine Xka ?_ _)); refine blk_far ?_ NB123_159.out _; (with_reducible repeat (first | refine Xkn ?_ _ | refine Xkd ?_ | refine Xka ?_ _)); exact BK123.out) hb); have n8_ := Xam (Xbb (g := gb131) (o := .cells #[.int .i64 t124, .int .i64 t125, .int .i64 t126, .slice Ao38 t127.length co38] 47 (0, 0)) (by (with_reducible repeat (first | refine Xkn ?_ _ | refine Xkd ?_ | refine Xka ?_ _)); refine blk_far ?_ NB131_159.out _; (with_reducible repeat (first | refine Xkn ?_ _ | refine Xkd ?_ | refine Xka ?_ _)); refine blk_far ?_ NB131_159.out _; (with_reducible repeat (first | refine Xkn ?_ _ | refine Xkd ?_ | refine Xka ?_ _)); refine blk_far ?_ NB131_159.out _; (with_reducible repeat (first | refine Xkn ?_ _ | refine Xkd ?_ | refine Xka ?_ _)); refine blk_far ?_ NB131_159.out _; (with_reducible repeat (first | refine Xkn ?_ _ | refine Xkd ?_ | refine Xka ?_ _)); exact BK131.out) hb); have n9_ := Xam (Xbb (g := gb159) (o := .cells #[.int .i64 t152, .int .i64 t153, .int .i64 t154, .slice Ao125 t155.length co125] 47 (0, 0)) (by (with_reducible repeat (first | refine Xkn ?_ _ | refine Xkd ?_ | refine Xka ?_ _)); refine blk_put (cs := #[.int .i64 t152, .int .i64 t153, .int .i64 t154, .slice none 0 0]) ?_ 3 _ rfl; (with_reducible repeat (first | refine Xkn ?_ _ | refine Xkd ?_ | refine Xka ?_ _)); refine blk_put (cs := #[.int .i64 t152, .int .i64 t153, .int .i64 0, .slice none 0 0]) ?_ 2 _ rfl; (with_reducible repeat (first | refine Xkn ?_ _ | refine Xkd ?_ | refine Xka ?_ _)); refine blk_put (cs := #[.int .i64 t152, .int .i64 0, .int .i64 0, .slice none 0 0]) ?_ 1 _ rfl; (with_reducible repeat (first | refine Xkn ?_ _ | refine Xkd ?_ | refine Xka ?_ _)); refine blk_put (cs := #[.int .i64 0, .int .i64 0, .int .i64 0, .slice none 0 0]) ?_ 0 _ rfl; (with_reducible repeat (first | refine Xkn ?_ _ | refine Xkd ?_ | refine Xka ?_ _)); exact BK159.out) hb); have n10_ := Xam (Xbt (by repeat (first | (with_reducible first | exact HB.out | apply Xba | apply Xbn | apply Xbd | refine Xbe ?_ GE101.out | refine Xbe ?_ GE116.out | refine Xbe ?_ GE123.out | refine Xbe ?_ GE131.out | refine Xbe ?_ GE159.out) | exact HB.out)) hb); clear HO_117003; clear HO_124003; clear HO_132003; clear HO151; clear HO157; clear BK101; clear BK116; clear BK123; clear BK131; clear BK159; clear HB; have HO_117003 := n0_; have HO_124003 := n1_; have HO_132003 := n2_; have HO151 := n3_; have HO157 := n4_; have BK101 := n5_; have BK116 := n6_; have BK123 := n7_; have BK131 := n8_; have BK159 := n9_; have HB := n10_; clear n0_ n1_ n2_ n3_ n4_ n5_ n6_ n7_ n8_ n9_ n10_; (try clear hb); (try clear hb2); (try clear hk); (try clear hi)))
                          go_meet
                          case rel => exact ⟨_, (true), (by first | rfl | (simp; done) | (simp [*]; done)), H', ⟨by have := HJ12.out; have := HJ61.out; first | omega | exact Nat.le_refl _⟩, ⟨by (try simp only [hl124003_61]); (with_reducible repeat (first | apply Xra | apply Xrn | apply Xrd)); exact Kd.R_mono HO_117003.out (fun _ hk => ⟨hk.1.1.1, ⟨hk.1.1.2, hk.2⟩⟩)⟩, ⟨by (try simp only [hl124003_61]); (with_reducible repeat (first | apply Xra | apply Xrn | apply Xrd)); exact Kd.R_mono HO_124003.out (fun _ hk => ⟨hk.1.1.1, ⟨hk.1.1.2, hk.2⟩⟩)⟩, ⟨by (try simp only [hl124003_61]); (with_reducible repeat (first | apply Xra | apply Xrn | apply Xrd)); exact Kd.R_mono HO_132003.out (fun _ hk => ⟨hk.1.1.1, ⟨hk.1.1.2, hk.2⟩⟩)⟩, ⟨by (try simp only [hl124003_61]); (with_reducible repeat (first | apply Xra | apply Xrn | apply Xrd)); exact Kd.R_mono HO157.out (fun _ hk => ⟨hk.1.1.1.2, ⟨hk.1.1.2, hk.1.2⟩⟩)⟩, ⟨by (try simp only [hl124003_61]); (with_reducible repeat (first | refine Xkn ?_ _ | refine Xkd ?_ | refine Xka ?_ _)); exact BK101.out⟩, ⟨by (try simp only [hl124003_61]); (with_reducible repeat (first | refine Xkn ?_ _ | refine Xkd ?_ | refine Xka ?_ _)); exact BK116.out⟩, ⟨by (try simp only [hl124003_61]); (with_reducible repeat (first | refine Xkn ?_ _ | refine Xkd ?_ | refine Xka ?_ _)); exact BK123.out⟩, ⟨by (try simp only [hl124003_61]); (with_reducible repeat (first | refine Xkn ?_ _ | refine Xkd ?_ | refine Xka ?_ _)); exact BK131.out⟩, ⟨by (try simp only [hl124003_61]); (with_reducible repeat (first | refine Xkn ?_ _ | refine Xkd ?_ | refine Xka ?_ _)); exact BK159.out⟩, ⟨by repeat (first | (with_reducible first | exact HB.out | apply Xba | apply Xbn | apply Xbd | refine Xbe ?_ GE101.out | refine Xbe ?_ GE116.out | refine Xbe ?_ GE123.out | refine Xbe ?_ GE131.out | refine Xbe ?_ GE159.out) | exact HB.out)⟩⟩
                      case rest =>
                        clear HC105
                        try clear c1
                        try clear c2
                        try clear p2
                        try clear c3
                        try clear c4
                        try clear c5
                        try clear c5b0
                        try clear c6
                        try clear c7
                        try clear c8
                        try clear c9
                        try clear c10
                        try clear c11
                        try clear c12
                        try clear c13
                        try clear c14
                        try clear c22
                        try clear c26
                        try clear c27
                        try clear c28
                        try clear c29
                        try clear c30
                        try clear c31
                        try clear c32
                        try clear c34
                        try clear c35
                        try clear c36
                        try clear c40
                        try clear c41
                        try clear c42
                        try clear c43
                        try clear c45
                        try clear c46
                        try clear c49
                        try clear c50
                        try clear c51
                        try clear c53
                        try clear c54
                        try clear c57
                        try clear c60
                        try clear c67
                        try clear c68
                        try clear c69
                        try clear c72
                        try clear c72b0
                        try clear c74
                        try clear c75
                        try clear c76
                        try clear c77
                        try clear c79
                        try clear c80
                        try clear c83
                        try clear c84
                        try clear c85
                        try clear c87
                        try clear c88
                        try clear c91
                        try clear c94
                        try clear c94b0
                        try clear c95
                        try clear c96
                        try clear c97
                        try clear c102
                        try clear c102b0
                        try clear c102b1
                        try clear c106
                        try clear c107
                        try clear c108
                        try clear c113
                        try clear c114
                        try clear c120
                        try clear c121
                        try clear c122
                        try clear c123
                        try clear c127
                        try clear c128
                        try clear c129
                        try clear c130
                        try clear c131
                        try clear c133
                        try clear c134
                        try clear c135
                        try clear c138
                        try clear c139
                        try clear c140
                        try clear c141
                        try clear c143
                        try clear c144
                        try clear c145
                        try clear hcz100_0
                        try clear hcz100_1
                        try clear hcz100_2
                        try clear hcz100_3
                        try clear hcz109_0
                        try clear hcz109_1
                        try clear hcz109_2
                        try clear hcz109_3
                        try clear hcz111_0
                        try clear hcz111_1
                        try clear hcz111_2
                        try clear hcz111_3
                        try clear hcz115_0
                        try clear hcz115_1
                        try clear hcz115_2
                        try clear hcz115_3
                        try clear hcz124_0
                        try clear hcz124_1
                        try clear hcz124_2
                        try clear hcz124_3
                        try clear hcz132_0
                        try clear hcz132_1
                        try clear hcz132_2
                        try clear hcz132_3
                        try clear hcz136_0
                        try clear hcz136_1
                        try clear hcz136_2
                        try clear hcz136_3
                        try clear hcz142_0
                        try clear hcz142_1
                        try clear hcz142_2
                        try clear hcz142_3
                        try clear hcz146_0
                        try clear hcz146_1
                        try clear hcz146_2
                        try clear hcz146_3
                        try clear hcz15_0
                        try clear hcz15_1
                        try clear hcz15_2
                        try clear hcz15_3
                        try clear hcz17_0
                        try clear hcz17_1
                        try clear hcz17_2
                        try clear hcz17_3
                        try clear hcz23_0
                        try clear hcz23_1
                        try clear hcz23_2
                        try clear hcz23_3
                        try clear hcz25_0
                        try clear hcz25_1
                        try clear hcz25_2
                        try clear hcz25_3
                        try clear hcz30_0
                        try clear hcz30_1
                        try clear hcz30_2
                        try clear hcz30_3
                        try clear hcz37_0
                        try clear hcz37_1
                        try clear hcz37_2
                        try clear hcz37_3
                        try clear hcz44_0
                        try clear hcz44_1
                        try clear hcz44_2
                        try clear hcz44_3
                        try clear hcz47_0
                        try clear hcz47_1
                        try clear hcz47_2
                        try clear hcz47_3
                        try clear hcz52_0
                        try clear hcz52_1
                        try clear hcz52_2
                        try clear hcz52_3
                        try clear hcz55_0
                        try clear hcz55_1
                        try clear hcz55_2
                        try clear hcz55_3
                        try clear hcz70_0
                        try clear hcz70_1
                        try clear hcz70_2
                        try clear hcz70_3
                        try clear hcz78_0
                        try clear hcz78_1
                        try clear hcz78_2
                        try clear hcz78_3
                        try clear hcz7_0
                        try clear hcz7_1
                        try clear hcz7_2
                        try clear hcz7_3
                        try clear hcz81_0
                        try clear hcz81_1
                        try clear hcz81_2
                        try clear hcz81_3
                        try clear hcz86_0
                        try clear hcz86_1
                        try clear hcz86_2
                        try clear hcz86_3
                        try clear hcz89_0
                        try clear hcz89_1
                        try clear hcz89_2
                        try clear hcz89_3
                        try clear hcz98_0
                        try clear hcz98_1
                        try clear hcz98_2
                        try clear hcz98_3
                        try clear hfz100_0
                        try clear hfz100_1
                        try clear hfz100_2
                        try clear hfz100_3
                        try clear hfz109_0
                        try clear hfz109_1
                        try clear hfz109_2
                        try clear hfz109_3
                        try clear hfz111_0
                        try clear hfz111_1
                        try clear hfz111_2
                        try clear hfz111_3
                        try clear hfz115_0
                        try clear hfz115_1
                        try clear hfz115_2
                        try clear hfz115_3
                        try clear hfz124_0
                        try clear hfz124_1
                        try clear hfz124_2
                        try clear hfz124_3
                        try clear hfz132_0
                        try clear hfz132_1
                        try clear hfz132_2
                        try clear hfz132_3
                        try clear hfz136_0
                        try clear hfz136_1
                        try clear hfz136_2
                        try clear hfz136_3
                        try clear hfz142_0
                        try clear hfz142_1
                        try clear hfz142_2
                        try clear hfz142_3
                        try clear hfz146_0
                        try clear hfz146_1
                        try clear hfz146_2
                        try clear hfz146_3
                        try clear hfz15_0
                        try clear hfz15_1
                        try clear hfz15_2
                        try clear hfz15_3
                        try clear hfz17_0
                        try clear hfz17_1
                        try clear hfz17_2
                        try clear hfz17_3
                        try clear hfz23_0
                        try clear hfz23_1
                        try clear hfz23_2
                        try clear hfz23_3
                        try clear hfz25_0
                        try clear hfz25_1
                        try clear hfz25_2
                        try clear hfz25_3
                        try clear hfz30_0
                        try clear hfz30_1
                        try clear hfz30_2
                        try clear hfz30_3
                        try clear hfz37_0
                        try clear hfz37_1
                        try clear hfz37_2
                        try clear hfz37_3
                        try clear hfz44_0
                        try clear hfz44_1
                        try clear hfz44_2
                        try clear hfz44_3
                        try clear hfz47_0
                        try clear hfz47_1
                        try clear hfz47_2
                        try clear hfz47_3
                        try clear hfz52_0
                        try clear hfz52_1
                        try clear hfz52_2
                        try clear hfz52_3
                        try clear hfz55_0
                        try clear hfz55_1
                        try clear hfz55_2
                        try clear hfz55_3
                        try clear hfz70_0
                        try clear hfz70_1
                        try clear hfz70_2
                        try clear hfz70_3
                        try clear hfz78_0
                        try clear hfz78_1
                        try clear hfz78_2
                        try clear hfz78_3
                        try clear hfz7_0
                        try clear hfz7_1
                        try clear hfz7_2
                        try clear hfz7_3
                        try clear hfz81_0
                        try clear hfz81_1
                        try clear hfz81_2
                        try clear hfz81_3
                        try clear hfz86_0
                        try clear hfz86_1
                        try clear hfz86_2
                        try clear hfz86_3
                        try clear hfz89_0
                        try clear hfz89_1
                        try clear hfz89_2
                        try clear hfz89_3
                        try clear hfz98_0
                        try clear hfz98_1
                        try clear hfz98_2
                        try clear hfz98_3
                        try clear p2
                        obtain ⟨kq, x97_104, rfl, HA, HJ104, HO_117003, HO_124003, HO_132003, HO_160003, BK101, BK116, BK123, BK131, BK159, HB⟩ := hcut
                        have hl132003_104 := (Kd.R_reads' HO_132003.out).1
                        rw [hl132003_104] at HO_132003
                        (try simp only [hl132003_104])
                        (try simp only [hl132003_104] at BK101)
                        (try simp only [hl132003_104] at BK116)
                        (try simp only [hl132003_104] at BK123)
                        (try simp only [hl132003_104] at BK131)
                        (try simp only [hl132003_104] at BK159)
                        (try simp only [hl132003_104] at HO_117003)
                        (try simp only [hl132003_104] at HO_124003)
                        (try simp only [hl132003_104] at HO_160003)
                        cases kq with
                        | zero => exact absurd HA.out (by simp [laws_FnExactRemoveMember.j2])
                        | succ kj104 =>
                          have H := HA.out
                          clear HA
                          simp only [laws_FnExactRemoveMember.j2] at H
                          by_cases c148 : x97_104 = true
                          · subst c148
                            have H1 : (some false) = some r := by rw [if_pos rfl] at H; exact H
                            clear H
                            have H := H1
                            clear H1
                            obtain rfl := Option.some.inj H
                            go_wp2
                            go_ret
                            exact ⟨by first | rfl | (simp [errW_none, errW_some] <;> rfl) | (simp [*, errW_none, errW_some] <;> rfl), by repeat (first | (with_reducible first | exact HB.out | apply Xba | apply Xbn | apply Xbd | refine Xbe ?_ GE101.out | refine Xbe ?_ GE116.out | refine Xbe ?_ GE123.out | refine Xbe ?_ GE131.out | refine Xbe ?_ GE159.out) | exact HB.out)⟩
                          · replace c148 := Bool.eq_false_iff.mpr c148
                            subst c148
                            have H1 : ((laws_heldSenderGroup.f kj104 t124 t125 t126 t144 1).bind fun t161 => (if t161 < 0 then (some false) else (if t161 = t143 then (some true) else (some false)))) = some r := by rw [if_neg (show ¬ (false = true) by decide)] at H; exact H
                            clear H
                            have H := H1
                            clear H1
                            replace H := Option.bind_eq_some_iff.mp H
                            obtain ⟨t161, A1490, H⟩ := H
                            replace H : (if t161 < 0 then (some false) else (if t161 = t143 then (some true) else (some false))) = some r := H
                            have A149 := Xam A1490
                            clear A1490
                            by_cases c150 : t161 < 0
                            · rw [if_pos c150] at H
                              have c150b0 : decide (t161 < 0) = true := decide_eq_true c150
                              clear c150
                              obtain rfl := Option.some.inj H
                              have hnb151 := NB131_101.out
                              have hnc151 := NB101_131.out
                              have hnb152 := NB131_116.out
                              have hnc152 := NB116_131.out
                              have hnb153 := NB131_123.out
                              have hnc153 := NB123_131.out
                              have hnb154 := NB131_159.out
                              have hnc154 := NB159_131.out
                              have hcz155_0 : wc.cell? ⟨gb131, 0, none⟩ = some (.int .i64 t124) := (Xbc BK131.out 0).trans rfl
                              have hcz155_1 : wc.cell? ⟨gb131, 1, none⟩ = some (.int .i64 t125) := (Xbc BK131.out 1).trans rfl
                              have hcz155_2 : wc.cell? ⟨gb131, 2, none⟩ = some (.int .i64 t126) := (Xbc BK131.out 2).trans rfl
                              have hcz155_3 : wc.cell? ⟨gb131, 3, none⟩ = some (.slice Ao38 t144.length co38) := (Xbc BK131.out 3).trans rfl
                              have hfz155_0 := Xbf BK131.out 0
                              have hfz155_1 := Xbf BK131.out 1
                              have hfz155_2 := Xbf BK131.out 2
                              have hfz155_3 := Xbf BK131.out 3
                              go_wp2_with (first | ((with_reducible refine gate_callee (f := 32) rfl ?_); refine goesL_ (some 100) rfl rfl Try.func32 (by kernel_rfl) rfl #[.agg #[.int .i64 t124, .int .i64 t125, .int .i64 t126, .slice Ao38 t144.length co38], .int .i64 1] rfl (by (try simp only [List.map_toArray, List.map_cons, List.map_nil]); first | done | rfl | (simp only [List.length_drop, List.length_take]; rfl)) ?_; (with_reducible refine (laws_heldSenderGroup.calls kj104 t124 t125 t126 _ _ t144 1 t161 _ ?side1 ?side2 A149.out).mono ?_); (case side1 => repeat (first | exact (Kd.R_reads' HO_132003.out).2.2 | (with_reducible refine Xca ?_ _) | (with_reducible refine Xcn ?_ _) | (with_reducible refine Xcd ?_))); (case side2 => exact (Kd.R_reads' HO_132003.out).2.1); rintro e w156 ⟨rfl, hb⟩; refine ⟨_, rfl, ?_⟩; have n0_ := Xam (Kd.R_below (by (with_reducible repeat (first | apply Xra | apply Xrn | apply Xrd)); exact HO_117003.out) hb); have n1_ := Xam (Kd.R_below (by (with_reducible repeat (first | apply Xra | apply Xrn | apply Xrd)); exact HO_124003.out) hb); have n2_ := Xam (Kd.R_below (by (with_reducible repeat (first | apply Xra | apply Xrn | apply Xrd)); exact HO_132003.out) hb); have n3_ := Xam (Kd.R_below (by (with_reducible repeat (first | apply Xra | apply Xrn | apply Xrd)); exact HO_160003.out) hb); have n4_ := Xam (Xbb (g := gb101) (o := .cells #[.int .i64 a0_0, .int .i64 a0_1, .int .i64 a0_2, .slice A0_3 l0_3.length c0_3] 45 (0, 0)) (by (with_reducible repeat (first | refine Xkn ?_ _ | refine Xkd ?_ | refine Xka ?_ _)); exact BK101.out) hb); have n5_ := Xam (Xbb (g := gb116) (o := .cells #[.int .i64 t109, .int .i64 t110, .int .i64 t111, .slice Ao24 t112.length co24] 47 (0, 0)) (by (with_reducible repeat (first | refine Xkn ?_ _ | refine Xkd ?_ | refine Xka ?_ _)); exact BK116.out) hb); have n6_ := Xam (Xbb (g := gb123) (o := .cells #[.int .i64 t117, .int .i64 t118, .int .i64 t119, .slice Ao31 t141.length co31] 47 (0, 0)) (by (with_reducible repeat (first | refine Xkn ?_ _ | refine Xkd ?_ | refine Xka ?_ _)); exact BK123.out) hb); have n7_ := Xam (Xbb (g := gb131) (o := .cells #[.int .i64 t124, .int .i64 t125, .int .i64 t126, .slice Ao38 t144.length co38] 47 (0, 0)) (by (with_reducible repeat (first | refine Xkn ?_ _ | refine Xkd ?_ | refine Xka ?_ _)); exact BK131.out) hb); have n8_ := Xam (Xbb (g := gb159) (o := .cells #[.int .i64 t152, .int .i64 t153, .int .i64 t154, .slice Ao125 t155.length co125] 47 (0, 0)) (by (with_reducible repeat (first | refine Xkn ?_ _ | refine Xkd ?_ | refine Xka ?_ _)); exact BK159.out) hb); have n9_ := Xam (Xbt (by repeat (first | (with_reducible first | exact HB.out | apply Xba | apply Xbn | apply Xbd | refine Xbe ?_ GE101.out | refine Xbe ?_ GE116.out | refine Xbe ?_ GE123.out | refine Xbe ?_ GE131.out | refine Xbe ?_ GE159.out) | exact HB.out)) hb); clear HO_117003; clear HO_124003; clear HO_132003; clear HO_160003; clear BK101; clear BK116; clear BK123; clear BK131; clear BK159; clear HB; have HO_117003 := n0_; have HO_124003 := n1_; have HO_132003 := n2_; have HO_160003 := n3_; have BK101 := n4_; have BK116 := n5_; have BK123 := n6_; have BK131 := n7_; have BK159 := n8_; have HB := n9_; clear n0_ n1_ n2_ n3_ n4_ n5_ n6_ n7_ n8_ n9_; (try clear hb); (try clear hb2); (try clear hk); (try clear hi)))
                              go_ret
                              exact ⟨by first | rfl | (simp [errW_none, errW_some] <;> rfl) | (simp [*, errW_none, errW_some] <;> rfl), by repeat (first | (with_reducible first | exact HB.out | apply Xba | apply Xbn | apply Xbd | refine Xbe ?_ GE101.out | refine Xbe ?_ GE116.out | refine Xbe ?_ GE123.out | refine Xbe ?_ GE131.out | refine Xbe ?_ GE159.out) | exact HB.out)⟩
                            · rw [if_neg c150] at H
                              have c150b0 : decide (t161 < 0) = false := decide_eq_false c150
                              clear c150
                              by_cases c157 : t161 = t143
                              · rw [if_pos c157] at H
                                have c157b0 : (t161 == t143) = true := beq_iff_eq.mpr c157
                                have c157b1 : (t161 != t143) = false := bne_eq_false_iff_eq.mpr c157
                                clear c157
                                obtain rfl := Option.some.inj H
                                have hnb158 := NB131_101.out
                                have hnc158 := NB101_131.out
                                have hnb159 := NB131_116.out
                                have hnc159 := NB116_131.out
                                have hnb160 := NB131_123.out
                                have hnc160 := NB123_131.out
                                have hnb161 := NB131_159.out
                                have hnc161 := NB159_131.out
                                have hcz162_0 : wc.cell? ⟨gb131, 0, none⟩ = some (.int .i64 t124) := (Xbc BK131.out 0).trans rfl
                                have hcz162_1 : wc.cell? ⟨gb131, 1, none⟩ = some (.int .i64 t125) := (Xbc BK131.out 1).trans rfl
                                have hcz162_2 : wc.cell? ⟨gb131, 2, none⟩ = some (.int .i64 t126) := (Xbc BK131.out 2).trans rfl
                                have hcz162_3 : wc.cell? ⟨gb131, 3, none⟩ = some (.slice Ao38 t144.length co38) := (Xbc BK131.out 3).trans rfl
                                have hfz162_0 := Xbf BK131.out 0
                                have hfz162_1 := Xbf BK131.out 1
                                have hfz162_2 := Xbf BK131.out 2
                                have hfz162_3 := Xbf BK131.out 3
                                go_wp2_with (first | ((with_reducible refine gate_callee (f := 32) rfl ?_); refine goesL_ (some 100) rfl rfl Try.func32 (by kernel_rfl) rfl #[.agg #[.int .i64 t124, .int .i64 t125, .int .i64 t126, .slice Ao38 t144.length co38], .int .i64 1] rfl (by (try simp only [List.map_toArray, List.map_cons, List.map_nil]); first | done | rfl | (simp only [List.length_drop, List.length_take]; rfl)) ?_; (with_reducible refine (laws_heldSenderGroup.calls kj104 t124 t125 t126 _ _ t144 1 t161 _ ?side1 ?side2 A149.out).mono ?_); (case side1 => repeat (first | exact (Kd.R_reads' HO_132003.out).2.2 | (with_reducible refine Xca ?_ _) | (with_reducible refine Xcn ?_ _) | (with_reducible refine Xcd ?_))); (case side2 => exact (Kd.R_reads' HO_132003.out).2.1); rintro e w163 ⟨rfl, hb⟩; refine ⟨_, rfl, ?_⟩; have n0_ := Xam (Kd.R_below (by (with_reducible repeat (first | apply Xra | apply Xrn | apply Xrd)); exact HO_117003.out) hb); have n1_ := Xam (Kd.R_below (by (with_reducible repeat (first | apply Xra | apply Xrn | apply Xrd)); exact HO_124003.out) hb); have n2_ := Xam (Kd.R_below (by (with_reducible repeat (first | apply Xra | apply Xrn | apply Xrd)); exact HO_132003.out) hb); have n3_ := Xam (Kd.R_below (by (with_reducible repeat (first | apply Xra | apply Xrn | apply Xrd)); exact HO_160003.out) hb); have n4_ := Xam (Xbb (g := gb101) (o := .cells #[.int .i64 a0_0, .int .i64 a0_1, .int .i64 a0_2, .slice A0_3 l0_3.length c0_3] 45 (0, 0)) (by (with_reducible repeat (first | refine Xkn ?_ _ | refine Xkd ?_ | refine Xka ?_ _)); exact BK101.out) hb); have n5_ := Xam (Xbb (g := gb116) (o := .cells #[.int .i64 t109, .int .i64 t110, .int .i64 t111, .slice Ao24 t112.length co24] 47 (0, 0)) (by (with_reducible repeat (first | refine Xkn ?_ _ | refine Xkd ?_ | refine Xka ?_ _)); exact BK116.out) hb); have n6_ := Xam (Xbb (g := gb123) (o := .cells #[.int .i64 t117, .int .i64 t118, .int .i64 t119, .slice Ao31 t141.length co31] 47 (0, 0)) (by (with_reducible repeat (first | refine Xkn ?_ _ | refine Xkd ?_ | refine Xka ?_ _)); exact BK123.out) hb); have n7_ := Xam (Xbb (g := gb131) (o := .cells #[.int .i64 t124, .int .i64 t125, .int .i64 t126, .slice Ao38 t144.length co38] 47 (0, 0)) (by (with_reducible repeat (first | refine Xkn ?_ _ | refine Xkd ?_ | refine Xka ?_ _)); exact BK131.out) hb); have n8_ := Xam (Xbb (g := gb159) (o := .cells #[.int .i64 t152, .int .i64 t153, .int .i64 t154, .slice Ao125 t155.length co125] 47 (0, 0)) (by (with_reducible repeat (first | refine Xkn ?_ _ | refine Xkd ?_ | refine Xka ?_ _)); exact BK159.out) hb); have n9_ := Xam (Xbt (by repeat (first | (with_reducible first | exact HB.out | apply Xba | apply Xbn | apply Xbd | refine Xbe ?_ GE101.out | refine Xbe ?_ GE116.out | refine Xbe ?_ GE123.out | refine Xbe ?_ GE131.out | refine Xbe ?_ GE159.out) | exact HB.out)) hb); clear HO_117003; clear HO_124003; clear HO_132003; clear HO_160003; clear BK101; clear BK116; clear BK123; clear BK131; clear BK159; clear HB; have HO_117003 := n0_; have HO_124003 := n1_; have HO_132003 := n2_; have HO_160003 := n3_; have BK101 := n4_; have BK116 := n5_; have BK123 := n6_; have BK131 := n7_; have BK159 := n8_; have HB := n9_; clear n0_ n1_ n2_ n3_ n4_ n5_ n6_ n7_ n8_ n9_; (try clear hb); (try clear hb2); (try clear hk); (try clear hi)))
                                go_ret
                                exact ⟨by first | rfl | (simp [errW_none, errW_some] <;> rfl) | (simp [*, errW_none, errW_some] <;> rfl), by repeat (first | (with_reducible first | exact HB.out | apply Xba | apply Xbn | apply Xbd | refine Xbe ?_ GE101.out | refine Xbe ?_ GE116.out | refine Xbe ?_ GE123.out | refine Xbe ?_ GE131.out | refine Xbe ?_ GE159.out) | exact HB.out)⟩
                              · rw [if_neg c157] at H
                                have c157b0 : (t161 == t143) = false := beq_eq_false_iff_ne.mpr c157
                                have c157b1 : (t161 != t143) = true := bne_iff_ne.mpr c157
                                obtain rfl := Option.some.inj H
                                have hnb164 := NB131_101.out
                                have hnc164 := NB101_131.out
                                have hnb165 := NB131_116.out
                                have hnc165 := NB116_131.out
                                have hnb166 := NB131_123.out
                                have hnc166 := NB123_131.out
                                have hnb167 := NB131_159.out
                                have hnc167 := NB159_131.out
                                have hcz168_0 : wc.cell? ⟨gb131, 0, none⟩ = some (.int .i64 t124) := (Xbc BK131.out 0).trans rfl
                                have hcz168_1 : wc.cell? ⟨gb131, 1, none⟩ = some (.int .i64 t125) := (Xbc BK131.out 1).trans rfl
                                have hcz168_2 : wc.cell? ⟨gb131, 2, none⟩ = some (.int .i64 t126) := (Xbc BK131.out 2).trans rfl
                                have hcz168_3 : wc.cell? ⟨gb131, 3, none⟩ = some (.slice Ao38 t144.length co38) := (Xbc BK131.out 3).trans rfl
                                have hfz168_0 := Xbf BK131.out 0
                                have hfz168_1 := Xbf BK131.out 1
                                have hfz168_2 := Xbf BK131.out 2
                                have hfz168_3 := Xbf BK131.out 3
                                go_wp2_with (first | ((with_reducible refine gate_callee (f := 32) rfl ?_); refine goesL_ (some 100) rfl rfl Try.func32 (by kernel_rfl) rfl #[.agg #[.int .i64 t124, .int .i64 t125, .int .i64 t126, .slice Ao38 t144.length co38], .int .i64 1] rfl (by (try simp only [List.map_toArray, List.map_cons, List.map_nil]); first | done | rfl | (simp only [List.length_drop, List.length_take]; rfl)) ?_; (with_reducible refine (laws_heldSenderGroup.calls kj104 t124 t125 t126 _ _ t144 1 t161 _ ?side1 ?side2 A149.out).mono ?_); (case side1 => repeat (first | exact (Kd.R_reads' HO_132003.out).2.2 | (with_reducible refine Xca ?_ _) | (with_reducible refine Xcn ?_ _) | (with_reducible refine Xcd ?_))); (case side2 => exact (Kd.R_reads' HO_132003.out).2.1); rintro e w169 ⟨rfl, hb⟩; refine ⟨_, rfl, ?_⟩; have n0_ := Xam (Kd.R_below (by (with_reducible repeat (first | apply Xra | apply Xrn | apply Xrd)); exact HO_117003.out) hb); have n1_ := Xam (Kd.R_below (by (with_reducible repeat (first | apply Xra | apply Xrn | apply Xrd)); exact HO_124003.out) hb); have n2_ := Xam (Kd.R_below (by (with_reducible repeat (first | apply Xra | apply Xrn | apply Xrd)); exact HO_132003.out) hb); have n3_ := Xam (Kd.R_below (by (with_reducible repeat (first | apply Xra | apply Xrn | apply Xrd)); exact HO_160003.out) hb); have n4_ := Xam (Xbb (g := gb101) (o := .cells #[.int .i64 a0_0, .int .i64 a0_1, .int .i64 a0_2, .slice A0_3 l0_3.length c0_3] 45 (0, 0)) (by (with_reducible repeat (first | refine Xkn ?_ _ | refine Xkd ?_ | refine Xka ?_ _)); exact BK101.out) hb); have n5_ := Xam (Xbb (g := gb116) (o := .cells #[.int .i64 t109, .int .i64 t110, .int .i64 t111, .slice Ao24 t112.length co24] 47 (0, 0)) (by (with_reducible repeat (first | refine Xkn ?_ _ | refine Xkd ?_ | refine Xka ?_ _)); exact BK116.out) hb); have n6_ := Xam (Xbb (g := gb123) (o := .cells #[.int .i64 t117, .int .i64 t118, .int .i64 t119, .slice Ao31 t141.length co31] 47 (0, 0)) (by (with_reducible repeat (first | refine Xkn ?_ _ | refine Xkd ?_ | refine Xka ?_ _)); exact BK123.out) hb); have n7_ := Xam (Xbb (g := gb131) (o := .cells #[.int .i64 t124, .int .i64 t125, .int .i64 t126, .slice Ao38 t144.length co38] 47 (0, 0)) (by (with_reducible repeat (first | refine Xkn ?_ _ | refine Xkd ?_ | refine Xka ?_ _)); exact BK131.out) hb); have n8_ := Xam (Xbb (g := gb159) (o := .cells #[.int .i64 t152, .int .i64 t153, .int .i64 t154, .slice Ao125 t155.length co125] 47 (0, 0)) (by (with_reducible repeat (first | refine Xkn ?_ _ | refine Xkd ?_ | refine Xka ?_ _)); exact BK159.out) hb); have n9_ := Xam (Xbt (by repeat (first | (with_reducible first | exact HB.out | apply Xba | apply Xbn | apply Xbd | refine Xbe ?_ GE101.out | refine Xbe ?_ GE116.out | refine Xbe ?_ GE123.out | refine Xbe ?_ GE131.out | refine Xbe ?_ GE159.out) | exact HB.out)) hb); clear HO_117003; clear HO_124003; clear HO_132003; clear HO_160003; clear BK101; clear BK116; clear BK123; clear BK131; clear BK159; clear HB; have HO_117003 := n0_; have HO_124003 := n1_; have HO_132003 := n2_; have HO_160003 := n3_; have BK101 := n4_; have BK116 := n5_; have BK123 := n6_; have BK131 := n7_; have BK159 := n8_; have HB := n9_; clear n0_ n1_ n2_ n3_ n4_ n5_ n6_ n7_ n8_ n9_; (try clear hb); (try clear hb2); (try clear hk); (try clear hi)))
                                go_ret
                                exact ⟨by first | rfl | (simp [errW_none, errW_some] <;> rfl) | (simp [*, errW_none, errW_some] <;> rfl), by repeat (first | (with_reducible first | exact HB.out | apply Xba | apply Xbn | apply Xbd | refine Xbe ?_ GE101.out | refine Xbe ?_ GE116.out | refine Xbe ?_ GE123.out | refine Xbe ?_ GE131.out | refine Xbe ?_ GE159.out) | exact HB.out)⟩
                    · rw [if_neg c102] at H
                      have c102b0 : (t145 == t143) = false := beq_eq_false_iff_ne.mpr c102
                      have c102b1 : (t145 != t143) = true := bne_iff_ne.mpr c102
                      obtain rfl := Option.some.inj H
                      have hnb170 := NB131_101.out
                      have hnc170 := NB101_131.out
                      have hnb171 := NB131_116.out
                      have hnc171 := NB116_131.out
                      have hnb172 := NB131_123.out
                      have hnc172 := NB123_131.out
                      have hcz173_0 : wc.cell? ⟨gb131, 0, none⟩ = some (.int .i64 t124) := (Xbc BK131.out 0).trans rfl
                      have hcz173_1 : wc.cell? ⟨gb131, 1, none⟩ = some (.int .i64 t125) := (Xbc BK131.out 1).trans rfl
                      have hcz173_2 : wc.cell? ⟨gb131, 2, none⟩ = some (.int .i64 t126) := (Xbc BK131.out 2).trans rfl
                      have hcz173_3 : wc.cell? ⟨gb131, 3, none⟩ = some (.slice Ao38 t127.length co38) := (Xbc BK131.out 3).trans rfl
                      have hfz173_0 := Xbf BK131.out 0
                      have hfz173_1 := Xbf BK131.out 1
                      have hfz173_2 := Xbf BK131.out 2
                      have hfz173_3 := Xbf BK131.out 3
                      go_wp2_with (first | ((with_reducible refine gate_callee (f := 31) rfl ?_); refine goesL_ (some 72) rfl rfl Try.func31 (by kernel_rfl) rfl #[.agg #[.int .i64 t124, .int .i64 t125, .int .i64 t126, .slice Ao38 t127.length co38], .int .i64 1] rfl (by (try simp only [List.map_toArray, List.map_cons, List.map_nil]); first | done | rfl | (simp only [List.length_drop, List.length_take]; rfl)) ?_; (with_reducible refine (laws_markSenderGroup.calls kj61 t124 t125 t126 (fun k_ => some k_ = (.slice Ao38 t127.length co38 : Value).ownBlock) (.slice Ao38 t127.length co38) t127 1 t143 t144 w _ ?side1 ?side2 A92.out).mono ?_); (case side1 => repeat (first | (with_reducible first | exact HB.out | apply Xba | apply Xbn | apply Xbd | refine Xbe ?_ GE101.out | refine Xbe ?_ GE116.out | refine Xbe ?_ GE123.out | refine Xbe ?_ GE131.out) | exact HB.out)); (case side2 => exact Kd.R_tight rfl HO_132003.out); rintro e w174 ⟨rfl, hy0, hb, hkp⟩; refine ⟨_, rfl, ?_⟩; have n0_ := Xam (Kd.R_mono (ok' := fun k_ => some k_ ≠ (.slice Ao31 t141.length co31 : Value).ownBlock ∧ some k_ ≠ (.slice Ao38 t127.length co38 : Value).ownBlock) (Kd.R_keptB (HO_117003.out) hkp (fun k_ hk_ hs_ => (hk_.2) hs_)) (fun k_ hk_ => ⟨hk_.1.1, hk_.1.2⟩)); have n1_ := Xam (Kd.R_mono (ok' := fun k_ => some k_ ≠ (.slice Ao24 t112.length co24 : Value).ownBlock ∧ some k_ ≠ (.slice Ao38 t127.length co38 : Value).ownBlock) (Kd.R_keptB (HO_124003.out) hkp (fun k_ hk_ hs_ => (hk_.2) hs_)) (fun k_ hk_ => ⟨hk_.1.1, hk_.1.2⟩)); have n2_ := Xam (Kd.R_reok rfl hy0 (fun k_ e_ => HO_132003.out.1 k_ e_)); have n3_ := Xam (blk_kept (by (with_reducible repeat (first | refine Xkn ?_ _ | refine Xkd ?_ | refine Xka ?_ _)); exact BK101.out) hkp (fun hs_ => (fun e_ => (Kd.R_ne HO_132003.out BK101.out (by decide)) e_) hs_)); have n4_ := Xam (blk_kept (by (with_reducible repeat (first | refine Xkn ?_ _ | refine Xkd ?_ | refine Xka ?_ _)); exact BK116.out) hkp (fun hs_ => (fun e_ => (Kd.R_ne HO_132003.out BK116.out (by decide)) e_) hs_)); have n5_ := Xam (blk_kept (by (with_reducible repeat (first | refine Xkn ?_ _ | refine Xkd ?_ | refine Xka ?_ _)); exact BK123.out) hkp (fun hs_ => (fun e_ => (Kd.R_ne HO_132003.out BK123.out (by decide)) e_) hs_)); have n6_ := Xam (blk_kept (by (with_reducible repeat (first | refine Xkn ?_ _ | refine Xkd ?_ | refine Xka ?_ _)); exact BK131.out) hkp (fun hs_ => (fun e_ => (Kd.R_ne HO_132003.out BK131.out (by decide)) e_) hs_)); have n7_ := Xam (hb); clear HO_117003; clear HO_124003; clear HO_132003; clear BK101; clear BK116; clear BK123; clear BK131; clear HB; have HO_117003 := n0_; have HO_124003 := n1_; have HO_132003 := n2_; have BK101 := n3_; have BK116 := n4_; have BK123 := n5_; have BK131 := n6_; have HB := n7_; clear n0_ n1_ n2_ n3_ n4_ n5_ n6_ n7_; (try clear hb); (try clear hkp); (try clear hy0); have hcz175_0 : w174.cell? ⟨gb131, 0, none⟩ = some (.int .i64 t124) := (Xbc BK131.out 0).trans rfl; have hcz175_1 : w174.cell? ⟨gb131, 1, none⟩ = some (.int .i64 t125) := (Xbc BK131.out 1).trans rfl; have hcz175_2 : w174.cell? ⟨gb131, 2, none⟩ = some (.int .i64 t126) := (Xbc BK131.out 2).trans rfl; have hcz175_3 : w174.cell? ⟨gb131, 3, none⟩ = some (.slice Ao38 t127.length co38) := (Xbc BK131.out 3).trans rfl; have hfz175_0 := Xbf BK131.out 0; have hfz175_1 := Xbf BK131.out 1; have hfz175_2 := Xbf BK131.out 2; have hfz175_3 := Xbf BK131.out 3) | ((with_reducible refine gate_callee (f := 32) rfl ?_); refine goesL_ (some 75) rfl rfl Try.func32 (by kernel_rfl) rfl #[.agg #[.int .i64 t124, .int .i64 t125, .int .i64 t126, .slice Ao38 t144.length co38], .int .i64 1] rfl (by (try simp only [List.map_toArray, List.map_cons, List.map_nil]); first | done | (rw [show t144.length = t127.length from (Kd.R_reads' HO_132003.out).1.symm] <;> rfl) | rfl | (simp only [List.length_drop, List.length_take]; rfl)) ?_; (with_reducible refine (laws_heldSenderGroup.calls kj61 t124 t125 t126 _ _ t144 1 t145 _ ?side1 ?side2 A93.out).mono ?_); (case side1 => repeat (first | exact (Kd.R_reads' HO_132003.out).2.2 | (with_reducible refine Xca ?_ _) | (with_reducible refine Xcn ?_ _) | (with_reducible refine Xcd ?_))); (case side2 => rw [show t144.length = t127.length from (Kd.R_reads' HO_132003.out).1.symm]; exact (Kd.R_reads' HO_132003.out).2.1); rintro e w176 ⟨rfl, hb⟩; refine ⟨_, rfl, ?_⟩; have n0_ := Xam (Kd.R_below (by (with_reducible repeat (first | apply Xra | apply Xrn | apply Xrd)); exact HO_117003.out) hb); have n1_ := Xam (Kd.R_below (by (with_reducible repeat (first | apply Xra | apply Xrn | apply Xrd)); exact HO_124003.out) hb); have n2_ := Xam (Kd.R_below (by (with_reducible repeat (first | apply Xra | apply Xrn | apply Xrd)); exact HO_132003.out) hb); have n3_ := Xam (Xbb (g := gb101) (o := .cells #[.int .i64 a0_0, .int .i64 a0_1, .int .i64 a0_2, .slice A0_3 l0_3.length c0_3] 45 (0, 0)) (by (with_reducible repeat (first | refine Xkn ?_ _ | refine Xkd ?_ | refine Xka ?_ _)); exact BK101.out) hb); have n4_ := Xam (Xbb (g := gb116) (o := .cells #[.int .i64 t109, .int .i64 t110, .int .i64 t111, .slice Ao24 t112.length co24] 47 (0, 0)) (by (with_reducible repeat (first | refine Xkn ?_ _ | refine Xkd ?_ | refine Xka ?_ _)); exact BK116.out) hb); have n5_ := Xam (Xbb (g := gb123) (o := .cells #[.int .i64 t117, .int .i64 t118, .int .i64 t119, .slice Ao31 t141.length co31] 47 (0, 0)) (by (with_reducible repeat (first | refine Xkn ?_ _ | refine Xkd ?_ | refine Xka ?_ _)); exact BK123.out) hb); have n6_ := Xam (Xbb (g := gb131) (o := .cells #[.int .i64 t124, .int .i64 t125, .int .i64 t126, .slice Ao38 t127.length co38] 47 (0, 0)) (by (with_reducible repeat (first | refine Xkn ?_ _ | refine Xkd ?_ | refine Xka ?_ _)); exact BK131.out) hb); have n7_ := Xam (Xbt (by repeat (first | (with_reducible first | exact HB.out | apply Xba | apply Xbn | apply Xbd | refine Xbe ?_ GE101.out | refine Xbe ?_ GE116.out | refine Xbe ?_ GE123.out | refine Xbe ?_ GE131.out) | exact HB.out)) hb); clear HO_117003; clear HO_124003; clear HO_132003; clear BK101; clear BK116; clear BK123; clear BK131; clear HB; have HO_117003 := n0_; have HO_124003 := n1_; have HO_132003 := n2_; have BK101 := n3_; have BK116 := n4_; have BK123 := n5_; have BK131 := n6_; have HB := n7_; clear n0_ n1_ n2_ n3_ n4_ n5_ n6_ n7_; (try clear hb); (try clear hb2); (try clear hk); (try clear hi)))
                      go_ret
                      exact ⟨by first | rfl | (simp [errW_none, errW_some] <;> rfl) | (simp [*, errW_none, errW_some] <;> rfl), by repeat (first | (with_reducible first | exact HB.out | apply Xba | apply Xbn | apply Xbd | refine Xbe ?_ GE101.out | refine Xbe ?_ GE116.out | refine Xbe ?_ GE123.out | refine Xbe ?_ GE131.out) | exact HB.out)⟩
          · replace c60 := Bool.eq_false_iff.mpr c60
            subst c60
            have H1 : (some false) = some r := by rw [if_neg (show ¬ (false = true) by decide)] at H; exact H
            clear H
            have H := H1
            clear H1
            obtain rfl := Option.some.inj H
            try go_wp2
            have n0_ := Xam (Xrd HO_117003.out)
            have n1_ := Xam (Xrd HO_124003.out)
            have n2_ := Xam (Xrd HO_132003.out)
            have n3_ := Xam (Xkd BK101.out)
            have n4_ := Xam (Xkd BK116.out)
            have n5_ := Xam (Xkd BK123.out)
            have n6_ := Xam (Xkd BK131.out)
            have n7_ := Xam (Xbd HB.out)
            clear HO_117003
            clear HO_124003
            clear HO_132003
            clear BK101
            clear BK116
            clear BK123
            clear BK131
            clear HB
            have HO_117003 := n0_
            have HO_124003 := n1_
            have HO_132003 := n2_
            have BK101 := n3_
            have BK116 := n4_
            have BK123 := n5_
            have BK131 := n6_
            have HB := n7_
            clear n0_ n1_ n2_ n3_ n4_ n5_ n6_ n7_
            refine start_ (n := 5) (S := fun w' => w'.cell? ⟨gb123, 0, none⟩ = some (.int .i64 t117) ∧ w'.cell? ⟨gb123, 1, none⟩ = some (.int .i64 t118) ∧ w'.cell? ⟨gb123, 2, none⟩ = some (.int .i64 t119) ∧ w'.cell? ⟨gb123, 3, none⟩ = some (.slice Ao31 t120.length co31) ∧ w'.cell? ⟨gb101, 0, none⟩ = some (.int .i64 a0_0) ∧ w'.cell? ⟨gb101, 1, none⟩ = some (.int .i64 a0_1) ∧ w'.cell? ⟨gb101, 2, none⟩ = some (.int .i64 a0_2) ∧ w'.cell? ⟨gb101, 3, none⟩ = some (.slice A0_3 l0_3.length c0_3)) (ds := []) #[false, false, false, false, false] (by kernel_rfl) rfl rfl ⟨(Xbc BK123.out 0).trans rfl, (Xbc BK123.out 1).trans rfl, (Xbc BK123.out 2).trans rfl, (Xbc BK123.out 3).trans rfl, (Xbc BK101.out 0).trans rfl, (Xbc BK101.out 1).trans rfl, (Xbc BK101.out 2).trans rfl, (Xbc BK101.out 3).trans rfl⟩ (fun hHeld => ?_)
            generalize wc.drew = w177 at HO_117003 HO_124003 HO_132003 BK101 BK116 BK123 BK131 HB hHeld ⊢
            refine take_ (i := 0) (N := some 49) (v := ?_) (a' := ?_) #[true, false, false, false, false] rfl rfl (by kernel_rfl) (fun _ _ _ h => h) (Or.inl ⟨by rfl, ?_⟩) hHeld ?_ ?_
            rotate_left
            · rintro w' ⟨s0, s1, s2, s3, s4, s5, s6, s7⟩
              go_simp
              with_reducible rfl
            rotate_left
            · simp only [Act.put, List.setIfInBounds_toArray, List.set_cons_zero, List.set_cons_succ, i64_w, i32_w]
              rfl
            refine take_ (i := 1) (N := some 50) (v := ?_) (a' := ?_) #[true, true, false, false, false] rfl rfl (by kernel_rfl) (fun _ _ _ h => h) (Or.inl ⟨by rfl, ?_⟩) hHeld ?_ ?_
            rotate_left
            · rintro w' ⟨s0, s1, s2, s3, s4, s5, s6, s7⟩
              go_simp
              with_reducible rfl
            rotate_left
            · simp only [Act.put, List.setIfInBounds_toArray, List.set_cons_zero, List.set_cons_succ, i64_w, i32_w]
              rfl
            refine one_ (i := 2) (N := some 51) #[true, true, true, false, false] rfl rfl (by kernel_rfl) (by decide) (fun K hK => ?_)
            refine goes_ Try.func28 (by kernel_rfl) rfl #[.agg #[.int .i64 a0_0, .int .i64 a0_1, .int .i64 a0_2, .slice A0_3 l0_3.length c0_3]] (by rfl) rfl rfl (by (try simp only [List.map_toArray, List.map_cons, List.map_nil]); first | done | rfl | (simp only [List.length_drop, List.length_take]; rfl)) ?_
            with_reducible refine (laws_toSenderGroup.calls kj12 a0_0 a0_1 a0_2 _ _ l0_3 t133 t134 t135 t136 _ ?side1 ?side2 A58.out).mono ?_
            (case side1 => repeat (first | exact (Kd.C_below HR0_3.out HB.out) | (with_reducible refine Xca ?_ _) | (with_reducible refine Xcn ?_ _) | (with_reducible refine Xcd ?_)))
            (case side2 => exact HC0_3.out)
            rintro e w178 ⟨v137, rfl, ho0, hb⟩
            refine ⟨_, rfl, ?_⟩
            have n0_ := Xam (Kd.R_elder' (by (with_reducible repeat (first | apply Xra | apply Xrn | apply Xrd)); exact HO_117003.out) (Kd.R_base ho0) hb)
            have n1_ := Xam (Kd.R_elder' (by (with_reducible repeat (first | apply Xra | apply Xrn | apply Xrd)); exact HO_124003.out) (Kd.R_base ho0) hb)
            have n2_ := Xam (Kd.R_elder' (by (with_reducible repeat (first | apply Xra | apply Xrn | apply Xrd)); exact HO_132003.out) (Kd.R_base ho0) hb)
            have n3_ := Xam (Kd.R_lower (Kd.R_new' (Kd.R_new' (Kd.R_new' ho0 (Kd.R_lt (by (with_reducible repeat (first | apply Xra | apply Xrn | apply Xrd)); exact HO_117003.out))) (Kd.R_lt (by (with_reducible repeat (first | apply Xra | apply Xrn | apply Xrd)); exact HO_124003.out))) (Kd.R_lt (by (with_reducible repeat (first | apply Xra | apply Xrn | apply Xrd)); exact HO_132003.out))) (Xbs (by repeat (first | (with_reducible first | exact HB.out | apply Xba | apply Xbn | apply Xbd | refine Xbe ?_ GE101.out | refine Xbe ?_ GE116.out | refine Xbe ?_ GE123.out | refine Xbe ?_ GE131.out) | exact HB.out))))
            have n4_ := Xam (Xbb (g := gb101) (o := .cells #[.int .i64 a0_0, .int .i64 a0_1, .int .i64 a0_2, .slice A0_3 l0_3.length c0_3] 45 (0, 0)) (by (with_reducible repeat (first | refine Xkn ?_ _ | refine Xkd ?_ | refine Xka ?_ _)); exact BK101.out) hb)
            have n5_ := Xam (Xbb (g := gb116) (o := .cells #[.int .i64 t109, .int .i64 t110, .int .i64 t111, .slice Ao24 t112.length co24] 47 (0, 0)) (by (with_reducible repeat (first | refine Xkn ?_ _ | refine Xkd ?_ | refine Xka ?_ _)); exact BK116.out) hb)
            have n6_ := Xam (Xbb (g := gb123) (o := .cells #[.int .i64 t117, .int .i64 t118, .int .i64 t119, .slice Ao31 t120.length co31] 47 (0, 0)) (by (with_reducible repeat (first | refine Xkn ?_ _ | refine Xkd ?_ | refine Xka ?_ _)); exact BK123.out) hb)
            have n7_ := Xam (Xbb (g := gb131) (o := .cells #[.int .i64 t124, .int .i64 t125, .int .i64 t126, .slice Ao38 t127.length co38] 47 (0, 0)) (by (with_reducible repeat (first | refine Xkn ?_ _ | refine Xkd ?_ | refine Xka ?_ _)); exact BK131.out) hb)
            have n8_ := Xam (Xbt (by repeat (first | (with_reducible first | exact HB.out | apply Xba | apply Xbn | apply Xbd | refine Xbe ?_ GE101.out | refine Xbe ?_ GE116.out | refine Xbe ?_ GE123.out | refine Xbe ?_ GE131.out) | exact HB.out)) hb)
            clear HO_117003
            clear HO_124003
            clear HO_132003
            clear BK101
            clear BK116
            clear BK123
            clear BK131
            clear HB
            have HO_117003 := n0_
            have HO_124003 := n1_
            have HO_132003 := n2_
            have HO138 := n3_
            have BK101 := n4_
            have BK116 := n5_
            have BK123 := n6_
            have BK131 := n7_
            have HB := n8_
            clear n0_ n1_ n2_ n3_ n4_ n5_ n6_ n7_ n8_
            (try clear hb)
            (try clear hb2)
            (try clear hk)
            (try clear hi)
            (try clear ho0)
            obtain ⟨Ao179, co179, eo179⟩ := Kd.R_slice HO138.out
            (first | subst eo179 | (injection eo179 with f1_ f2_ f3_; have f4_ := f1_.symm; have f5_ := f3_.symm; clear f1_ f2_ f3_; subst f4_; subst f5_))
            refine hK.out _ _ ⟨(Xbc BK123.out 0).trans rfl, (Xbc BK123.out 1).trans rfl, (Xbc BK123.out 2).trans rfl, (Xbc BK123.out 3).trans rfl, (Xbc BK101.out 0).trans rfl, (Xbc BK101.out 1).trans rfl, (Xbc BK101.out 2).trans rfl, (Xbc BK101.out 3).trans rfl⟩ (fun hHeld => ?_)
            clear hK K
            refine norm_ (a' := ?_) ?_ ?_
            rotate_left
            · show Act.put _ (some 51) _ = _
              simp only [Act.put, List.setIfInBounds_toArray, List.set_cons_zero, List.set_cons_succ, i64_w, i32_w]
              rfl
            refine one_ (i := 3) (N := some 52) #[true, true, true, true, false] rfl rfl (by kernel_rfl) (by decide) (fun K hK => ?_)
            refine goes_ Try.func30 (by kernel_rfl) rfl #[.agg #[.int .i64 t117, .int .i64 t118, .int .i64 t119, .slice Ao31 t120.length co31], .agg #[.int .i64 t133, .int .i64 t134, .int .i64 t135, .slice Ao179 t136.length co179]] (by rfl) rfl rfl (by (try simp only [List.map_toArray, List.map_cons, List.map_nil]); first | done | rfl | (simp only [List.length_drop, List.length_take]; rfl)) ?_
            with_reducible refine (laws_eqSenderGroup.calls kj12 t117 t118 t119 _ _ t120 t133 t134 t135 _ _ t136 false _ ?side1 ?side2 ?side3 ?side4 A59.out).mono ?_
            (case side1 => repeat (first | exact (Kd.R_reads' HO_124003.out).2.2 | (with_reducible refine Xca ?_ _) | (with_reducible refine Xcn ?_ _) | (with_reducible refine Xcd ?_)))
            (case side2 => exact (Kd.R_reads' HO_124003.out).2.1)
            (case side3 => repeat (first | exact (Kd.R_reads' HO138.out).2.2 | (with_reducible refine Xca ?_ _) | (with_reducible refine Xcn ?_ _) | (with_reducible refine Xcd ?_)))
            (case side4 => exact (Kd.R_reads' HO138.out).2.1)
            rintro e w180 ⟨rfl, hb⟩
            refine ⟨_, rfl, ?_⟩
            have n0_ := Xam (Kd.R_below (by (with_reducible repeat (first | apply Xra | apply Xrn | apply Xrd)); exact HO_117003.out) hb)
            have n1_ := Xam (Kd.R_below (by (with_reducible repeat (first | apply Xra | apply Xrn | apply Xrd)); exact HO_124003.out) hb)
            have n2_ := Xam (Kd.R_below (by (with_reducible repeat (first | apply Xra | apply Xrn | apply Xrd)); exact HO_132003.out) hb)
            have n3_ := Xam (Kd.R_below (by (with_reducible repeat (first | apply Xra | apply Xrn | apply Xrd)); exact HO138.out) hb)
            have n4_ := Xam (Xbb (g := gb101) (o := .cells #[.int .i64 a0_0, .int .i64 a0_1, .int .i64 a0_2, .slice A0_3 l0_3.length c0_3] 45 (0, 0)) (by (with_reducible repeat (first | refine Xkn ?_ _ | refine Xkd ?_ | refine Xka ?_ _)); exact BK101.out) hb)
            have n5_ := Xam (Xbb (g := gb116) (o := .cells #[.int .i64 t109, .int .i64 t110, .int .i64 t111, .slice Ao24 t112.length co24] 47 (0, 0)) (by (with_reducible repeat (first | refine Xkn ?_ _ | refine Xkd ?_ | refine Xka ?_ _)); exact BK116.out) hb)
            have n6_ := Xam (Xbb (g := gb123) (o := .cells #[.int .i64 t117, .int .i64 t118, .int .i64 t119, .slice Ao31 t120.length co31] 47 (0, 0)) (by (with_reducible repeat (first | refine Xkn ?_ _ | refine Xkd ?_ | refine Xka ?_ _)); exact BK123.out) hb)
            have n7_ := Xam (Xbb (g := gb131) (o := .cells #[.int .i64 t124, .int .i64 t125, .int .i64 t126, .slice Ao38 t127.length co38] 47 (0, 0)) (by (with_reducible repeat (first | refine Xkn ?_ _ | refine Xkd ?_ | refine Xka ?_ _)); exact BK131.out) hb)
            have n8_ := Xam (Xbt (by repeat (first | (with_reducible first | exact HB.out | apply Xba | apply Xbn | apply Xbd | refine Xbe ?_ GE101.out | refine Xbe ?_ GE116.out | refine Xbe ?_ GE123.out | refine Xbe ?_ GE131.out) | exact HB.out)) hb)
            clear HO_117003
            clear HO_124003
            clear HO_132003
            clear HO138
            clear BK101
            clear BK116
            clear BK123
            clear BK131
            clear HB
            have HO_117003 := n0_
            have HO_124003 := n1_
            have HO_132003 := n2_
            have HO138 := n3_
            have BK101 := n4_
            have BK116 := n5_
            have BK123 := n6_
            have BK131 := n7_
            have HB := n8_
            clear n0_ n1_ n2_ n3_ n4_ n5_ n6_ n7_ n8_
            (try clear hb)
            (try clear hb2)
            (try clear hk)
            (try clear hi)
            refine hK.out _ _ ⟨(Xbc BK123.out 0).trans rfl, (Xbc BK123.out 1).trans rfl, (Xbc BK123.out 2).trans rfl, (Xbc BK123.out 3).trans rfl, (Xbc BK101.out 0).trans rfl, (Xbc BK101.out 1).trans rfl, (Xbc BK101.out 2).trans rfl, (Xbc BK101.out 3).trans rfl⟩ (fun hHeld => ?_)
            clear hK K
            refine norm_ (a' := ?_) ?_ ?_
            rotate_left
            · show Act.put _ (some 52) _ = _
              simp only [Act.put, List.setIfInBounds_toArray, List.set_cons_zero, List.set_cons_succ, i64_w, i32_w]
              rfl
            refine pure_ (i := 4) (N := some 53) (v := ?_) (a' := ?_) #[true, true, true, true, true] rfl rfl (by kernel_rfl) (fun _ _ _ h => h) (Or.inl ⟨by rfl, ?_⟩) ?_ ?_
            rotate_left
            · intro w'
              go_simp
              with_reducible rfl
            rotate_left
            · simp only [Act.put, List.setIfInBounds_toArray, List.set_cons_zero, List.set_cons_succ, i64_w, i32_w]
              rfl
            refine done_ (by kernel_rfl) ?_
            try go_wp2
            go_ret
            exact ⟨by first | rfl | (simp [errW_none, errW_some] <;> rfl) | (simp [*, errW_none, errW_some] <;> rfl), by repeat (first | (with_reducible first | exact HB.out | apply Xba | apply Xbn | apply Xbd | refine Xbe ?_ GE101.out | refine Xbe ?_ GE116.out | refine Xbe ?_ GE123.out | refine Xbe ?_ GE131.out) | exact HB.out)⟩

/-- THE ONE PURE STATEMENT of laws_FnExactRemoveMember. -/
def laws_FnExactRemoveMember.Pure : Prop := ∀ (a0_0 : Int) (a0_1 : Int) (a0_2 : Int) (l0_3 : List Int) (a1 : Int) (a2 : Int), ((Lit.int .i64 a0_0).wf = true) → ((Lit.int .i64 a0_1).wf = true) → ((Lit.int .i64 a0_2).wf = true) → (l0_3.length ≤ maxLen ∧ ∀ z162 ∈ l0_3, (Lit.int .i64 z162).wf = true) → ((Lit.int .i64 a1).wf = true) → ((Lit.int .i64 a2).wf = true) → ∃ k, laws_FnExactRemoveMember.f k a0_0 a0_1 a0_2 l0_3 a1 a2 = some true

end Go.Proofs.Ytgdfnoipcompkaa.Q
