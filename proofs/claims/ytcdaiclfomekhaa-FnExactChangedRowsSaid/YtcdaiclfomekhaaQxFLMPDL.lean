-- written by a program of this session (qprint.py) over the kit's print.py
import Derived.Test.YtcdaiclfomekhaaQx0
import Derived.Test.YtcdaiclfomekhaaQxAENBOF
import Derived.Test.YtcdaiclfomekhaaQxEAPOHK
import Derived.Test.YtcdaiclfomekhaaQxMLKPOH
import Derived.Test.YtcdaiclfomekhaaQxNIFACM
import Derived.Test.YtcdaiclfomekhaaQxOIHIDE
import Derived.Test.YtcdaiclfomekhaaQxPGMGMI
namespace Go.Proofs.Ytcdaiclfomekhaa.Q
open Go.RowKit Go.Proofs.YtcdaiclfomekhaaW.PrintWords Go.Proofs.YtcdaiclfomekhaaW.PrintLast Go.Proofs.YtcdaiclfomekhaaW.PrintMore Go.Proofs.YtcdaiclfomekhaaW.PrintWords Go.Proofs.YtcdaiclfomekhaaW.PrintWords.QPW
attribute [local go_sem] max2_int min2_int max_two min_two max_three min_three max_four min_four   -- for this text's walks alone
set_option linter.unusedVariables false
set_option linter.unusedSimpArgs false

/-! ### laws_FnExactChangedRows: function 14 -/
def laws_FnExactChangedRows.f (k : Nat) (l0_0 : List (List Int)) (l1_0 : List (List Int)) : Option (Bool) := (laws_szDatabase.f k l0_0 1048576).bind fun t6 => (if t6 < 0 then (some true) else ((laws_szDatabase.f k l1_0 t6).bind fun t9 => (if t9 < 0 then (some true) else ((laws_toDatabase.f k l0_0).bind fun t13 => ((laws_toDatabase.f k l1_0).bind fun t17 => ((spec_ChangedRows.f k t13 t17).bind fun t21 => ((laws_toDatabase.f k l0_0).bind fun t25 => ((laws_toDatabase.f k l1_0).bind fun t32 => ((impl_ChangedRows.f k t25 t32).bind fun t39 => ((laws_eqIntS.f k t39 t21).bind fun t43 => (if t43 = true then ((laws_toDatabase.f k l0_0).bind fun t47 => ((laws_eqDatabase.f k t25 t47).bind fun t51 => (if t51 = true then ((laws_toDatabase.f k l1_0).bind fun t55 => ((laws_eqDatabase.f k t32 t55).bind fun t59 => (if t59 = true then ((laws_markDatabase.f k t25 1).bind fun bt62 => ((laws_markDatabase.f k t32 bt62.1).bind fun bt66 => (if bt66.1 < 0 then (none) else ((laws_eqIntS.f k t39 t21).bind fun t70 => (if t70 = true then ((laws_markIntS.f k t39 1).bind fun bt73 => ((laws_heldIntS.f k bt73.2 1).bind fun t77 => (if t77 < 0 then (none) else (if t77 = bt73.1 then ((laws_toDatabase.f k l0_0).bind fun t81 => ((laws_toDatabase.f k l1_0).bind fun t85 => ((impl_ChangedRows.f k t81 t85).bind fun t89 => ((laws_eqIntS.f k t89 t21).bind fun t93 => (if t93 = true then ((laws_heldIntS.f k bt73.2 1).bind fun t96 => (if t96 < 0 then (none) else (if t96 = bt73.1 then (some true) else (none)))) else (none)))))) else (none))))) else (none)))))) else (none)))) else (none)))) else (none))))))))))))
set_option maxHeartbeats 8000000 in
set_option maxRecDepth 100000 in
theorem laws_FnExactChangedRows.calls (k : Nat) (A0_0 : Option Addr) (c0_0 : Nat) (l0_0 : List (List Int)) (A1_0 : Option Addr) (c1_0 : Nat) (l1_0 : List (List Int)) (r : Bool) (w : World) (hr0_0 : Kd.C (Kd.slice 5 (Kd.int .u8)) w A0_0 l0_0.length l0_0) (hc0_0 : l0_0.length ≤ c0_0) (hr1_0 : Kd.C (Kd.slice 5 (Kd.int .u8)) w A1_0 l1_0.length l1_0) (hc1_0 : l1_0.length ≤ c1_0) (h : laws_FnExactChangedRows.f k l0_0 l1_0 = some r) :
    Calls Try.prog 14 #[.agg #[.slice A0_0 l0_0.length c0_0], .agg #[.slice A1_0 l1_0.length c1_0]] w fun e w' => e = .returned (.bool r) ∧ Below w.heap.size w w' := by
  have hu38 := Try.underlying38
  have hu93 := Try.underlying93
  have HR0_0 := Xam hr0_0
  have HR1_0 := Xam hr1_0
  have HC0_0 := Xam hc0_0
  have HC1_0 := Xam hc1_0
  clear hr0_0 hc0_0
  clear hr1_0 hc1_0
  have HB := Xam (Below.refl w.heap.size w)
  have OC := Xam (Nat.le_refl w.heap.size)
  have H := h
  clear h
  unfold laws_FnExactChangedRows.f at H
  replace H := Option.bind_eq_some_iff.mp H
  obtain ⟨t6, E7_, H⟩ := H
  (try dsimp only at H)
  have E7 := Xam E7_
  clear E7_
  by_cases c5_ : t6 < 0
  · rw [if_pos c5_] at H
    have c5_0 : decide (t6 < 0) = true := decide_eq_true c5_
    clear c5_
    obtain rfl := Option.some.inj H
    clear H
    go_enter Try.func14, Try.ntmps14
    go_wp2_with (first | ((with_reducible refine gate_dst (N := 2) rfl ?_); refine box_event ?hg (N := 2) ?hd (cs := #[.slice A0_0 l0_0.length c0_0]) (t := 93) ?hr ?_; (case hd => rfl); (case hg => rfl); (case hr => first | (go_simp; done) | (go_simp; rfl)); intro gb1 hg_ w2 hbox hb; have GB1 := Xam (box_iv hg_ hbox); replace HB := Xam (Xbt HB.out hb); replace OC := Xam (And.intro (Below.size hb) OC.out); have BK1 := Xam hbox; clear hb hbox hg_) | ((with_reducible refine gate_dst (N := 3) rfl ?_); refine box_event ?hg (N := 3) ?hd (cs := #[.slice A1_0 l1_0.length c1_0]) (t := 93) ?hr ?_; (case hd => rfl); (case hg => rfl); (case hr => first | (go_simp; done) | (go_simp; rfl)); intro gb3 hg_ w4 hbox hb; have GB3 := Xam (box_iv hg_ hbox); replace BK1 := Xam (Xbb BK1.out hb); replace HB := Xam (Xbt HB.out hb); replace OC := Xam (And.intro (Below.size hb) OC.out); have BK3 := Xam hbox; clear hb hbox hg_; have hcz1 : w4.cell? ⟨gb1, 0, none⟩ = some (.slice A0_0 l0_0.length c0_0) := (Xbc BK1.out 0).trans rfl) | ((with_reducible refine gate_callee (f := 63) rfl ?_); refine goesL_ (some 16) rfl rfl Try.func63 (by kernel_rfl) rfl #[.agg #[.slice A0_0 l0_0.length c0_0], .int .i64 1048576] rfl (by (try simp only [List.map_toArray, List.map_cons, List.map_nil]); first | done | rfl) ?_; (try clear hcz1); (with_reducible refine (laws_szDatabase.calls k _ _ l0_0 1048576 t6 _ ?side1 ?side2 E7.out).mono ?_); (case side1 => exact (Kd.C_below HR0_0.out HB.out)); (case side2 => exact HC0_0.out); rintro e w5 ⟨rfl, hb⟩; refine ⟨_, rfl, ?_⟩; clear BK1 BK3; replace HB := Xam (Xbt HB.out hb); replace OC := Xam (And.intro (Below.size hb) OC.out); clear hb))
    go_ret
    exact ⟨by first | rfl | (simp; done), HB.out⟩
  rw [if_neg c5_] at H
  have c5_0 : decide (t6 < 0) = false := decide_eq_false c5_
  clear c5_
  replace H := Option.bind_eq_some_iff.mp H
  obtain ⟨t9, E10_, H⟩ := H
  (try dsimp only at H)
  have E10 := Xam E10_
  clear E10_
  by_cases c15_ : t9 < 0
  · rw [if_pos c15_] at H
    have c15_0 : decide (t9 < 0) = true := decide_eq_true c15_
    clear c15_
    obtain rfl := Option.some.inj H
    clear H
    go_enter Try.func14, Try.ntmps14
    go_wp2_with (first | ((with_reducible refine gate_dst (N := 2) rfl ?_); refine box_event ?hg (N := 2) ?hd (cs := #[.slice A0_0 l0_0.length c0_0]) (t := 93) ?hr ?_; (case hd => rfl); (case hg => rfl); (case hr => first | (go_simp; done) | (go_simp; rfl)); intro gb1 hg_ w2 hbox hb; have GB1 := Xam (box_iv hg_ hbox); replace HB := Xam (Xbt HB.out hb); replace OC := Xam (And.intro (Below.size hb) OC.out); have BK1 := Xam hbox; clear hb hbox hg_) | ((with_reducible refine gate_dst (N := 3) rfl ?_); refine box_event ?hg (N := 3) ?hd (cs := #[.slice A1_0 l1_0.length c1_0]) (t := 93) ?hr ?_; (case hd => rfl); (case hg => rfl); (case hr => first | (go_simp; done) | (go_simp; rfl)); intro gb3 hg_ w4 hbox hb; have GB3 := Xam (box_iv hg_ hbox); replace BK1 := Xam (Xbb BK1.out hb); replace HB := Xam (Xbt HB.out hb); replace OC := Xam (And.intro (Below.size hb) OC.out); have BK3 := Xam hbox; clear hb hbox hg_; have hcz1 : w4.cell? ⟨gb1, 0, none⟩ = some (.slice A0_0 l0_0.length c0_0) := (Xbc BK1.out 0).trans rfl) | ((with_reducible refine gate_callee (f := 63) rfl ?_); refine goesL_ (some 16) rfl rfl Try.func63 (by kernel_rfl) rfl #[.agg #[.slice A0_0 l0_0.length c0_0], .int .i64 1048576] rfl (by (try simp only [List.map_toArray, List.map_cons, List.map_nil]); first | done | rfl) ?_; (try clear hcz1); (with_reducible refine (laws_szDatabase.calls k _ _ l0_0 1048576 t6 _ ?side1 ?side2 E7.out).mono ?_); (case side1 => exact (Kd.C_below HR0_0.out HB.out)); (case side2 => exact HC0_0.out); rintro e w5 ⟨rfl, hb⟩; refine ⟨_, rfl, ?_⟩; clear BK1; replace BK3 := Xam (Xbb BK3.out hb); replace HB := Xam (Xbt HB.out hb); replace OC := Xam (And.intro (Below.size hb) OC.out); clear hb; have hcz2 : w5.cell? ⟨gb3, 0, none⟩ = some (.slice A1_0 l1_0.length c1_0) := (Xbc BK3.out 0).trans rfl) | ((with_reducible refine gate_callee (f := 63) rfl ?_); refine goesL_ (some 21) rfl rfl Try.func63 (by kernel_rfl) rfl #[.agg #[.slice A1_0 l1_0.length c1_0], .int .i64 t6] rfl (by (try simp only [List.map_toArray, List.map_cons, List.map_nil]); first | done | rfl) ?_; (try clear hcz2); (with_reducible refine (laws_szDatabase.calls k _ _ l1_0 t6 t9 _ ?side1 ?side2 E10.out).mono ?_); (case side1 => exact (Kd.C_below HR1_0.out HB.out)); (case side2 => exact HC1_0.out); rintro e w8 ⟨rfl, hb⟩; refine ⟨_, rfl, ?_⟩; clear BK3; replace HB := Xam (Xbt HB.out hb); replace OC := Xam (And.intro (Below.size hb) OC.out); clear hb))
    go_ret
    exact ⟨by first | rfl | (simp; done), HB.out⟩
  rw [if_neg c15_] at H
  have c15_0 : decide (t9 < 0) = false := decide_eq_false c15_
  clear c15_
  replace H := Option.bind_eq_some_iff.mp H
  obtain ⟨t13, E15_, H⟩ := H
  (try dsimp only at H)
  have E15 := Xam E15_
  clear E15_
  replace H := Option.bind_eq_some_iff.mp H
  obtain ⟨t17, E19_, H⟩ := H
  (try dsimp only at H)
  have E19 := Xam E19_
  clear E19_
  replace H := Option.bind_eq_some_iff.mp H
  obtain ⟨t21, E23_, H⟩ := H
  (try dsimp only at H)
  have E23 := Xam E23_
  clear E23_
  replace H := Option.bind_eq_some_iff.mp H
  obtain ⟨t25, E27_, H⟩ := H
  (try dsimp only at H)
  have E27 := Xam E27_
  clear E27_
  replace H := Option.bind_eq_some_iff.mp H
  obtain ⟨t32, E34_, H⟩ := H
  (try dsimp only at H)
  have E34 := Xam E34_
  clear E34_
  replace H := Option.bind_eq_some_iff.mp H
  obtain ⟨t39, E41_, H⟩ := H
  (try dsimp only at H)
  have E41 := Xam E41_
  clear E41_
  replace H := Option.bind_eq_some_iff.mp H
  obtain ⟨t43, E44_, H⟩ := H
  (try dsimp only at H)
  have E44 := Xam E44_
  clear E44_
  cases t43 with
  | false => exact absurd H (by simp)
  | true =>
  replace H := (if_pos rfl).symm.trans H
  replace H := Option.bind_eq_some_iff.mp H
  obtain ⟨t47, E49_, H⟩ := H
  (try dsimp only at H)
  have E49 := Xam E49_
  clear E49_
  replace H := Option.bind_eq_some_iff.mp H
  obtain ⟨t51, E52_, H⟩ := H
  (try dsimp only at H)
  have E52 := Xam E52_
  clear E52_
  cases t51 with
  | false => exact absurd H (by simp)
  | true =>
  replace H := (if_pos rfl).symm.trans H
  replace H := Option.bind_eq_some_iff.mp H
  obtain ⟨t55, E57_, H⟩ := H
  (try dsimp only at H)
  have E57 := Xam E57_
  clear E57_
  replace H := Option.bind_eq_some_iff.mp H
  obtain ⟨t59, E60_, H⟩ := H
  (try dsimp only at H)
  have E60 := Xam E60_
  clear E60_
  cases t59 with
  | false => exact absurd H (by simp)
  | true =>
  replace H := (if_pos rfl).symm.trans H
  replace H := Option.bind_eq_some_iff.mp H
  obtain ⟨⟨t62, t63⟩, E64_, H⟩ := H
  (try dsimp only at H)
  have E64 := Xam E64_
  clear E64_
  replace H := Option.bind_eq_some_iff.mp H
  obtain ⟨⟨t66, t67⟩, E68_, H⟩ := H
  (try dsimp only at H)
  have E68 := Xam E68_
  clear E68_
  by_cases c97_ : t66 < 0
  · rw [if_pos c97_] at H
    exact absurd H (by simp)
  rw [if_neg c97_] at H
  have c97_0 : decide (t66 < 0) = false := decide_eq_false c97_
  clear c97_
  replace H := Option.bind_eq_some_iff.mp H
  obtain ⟨t70, E71_, H⟩ := H
  (try dsimp only at H)
  have E71 := Xam E71_
  clear E71_
  cases t70 with
  | false => exact absurd H (by simp)
  | true =>
  replace H := (if_pos rfl).symm.trans H
  replace H := Option.bind_eq_some_iff.mp H
  obtain ⟨⟨t73, t74⟩, E75_, H⟩ := H
  (try dsimp only at H)
  have E75 := Xam E75_
  clear E75_
  replace H := Option.bind_eq_some_iff.mp H
  obtain ⟨t77, E78_, H⟩ := H
  (try dsimp only at H)
  have E78 := Xam E78_
  clear E78_
  by_cases c122_ : t77 < 0
  · rw [if_pos c122_] at H
    exact absurd H (by simp)
  rw [if_neg c122_] at H
  have c122_0 : decide (t77 < 0) = false := decide_eq_false c122_
  clear c122_
  by_cases c128_ : t77 = t73
  rotate_left
  · rw [if_neg c128_] at H
    exact absurd H (by simp)
  rw [if_pos c128_] at H
  have c128_0 : (t77 == t73) = true := beq_iff_eq.mpr c128_
  have c128_1 : (t77 != t73) = false := bne_eq_false_iff_eq.mpr c128_
  clear c128_
  replace H := Option.bind_eq_some_iff.mp H
  obtain ⟨t81, E83_, H⟩ := H
  (try dsimp only at H)
  have E83 := Xam E83_
  clear E83_
  replace H := Option.bind_eq_some_iff.mp H
  obtain ⟨t85, E87_, H⟩ := H
  (try dsimp only at H)
  have E87 := Xam E87_
  clear E87_
  replace H := Option.bind_eq_some_iff.mp H
  obtain ⟨t89, E91_, H⟩ := H
  (try dsimp only at H)
  have E91 := Xam E91_
  clear E91_
  replace H := Option.bind_eq_some_iff.mp H
  obtain ⟨t93, E94_, H⟩ := H
  (try dsimp only at H)
  have E94 := Xam E94_
  clear E94_
  cases t93 with
  | false => exact absurd H (by simp)
  | true =>
  replace H := (if_pos rfl).symm.trans H
  replace H := Option.bind_eq_some_iff.mp H
  obtain ⟨t96, E97_, H⟩ := H
  (try dsimp only at H)
  have E97 := Xam E97_
  clear E97_
  by_cases c165_ : t96 < 0
  · rw [if_pos c165_] at H
    exact absurd H (by simp)
  rw [if_neg c165_] at H
  have c165_0 : decide (t96 < 0) = false := decide_eq_false c165_
  clear c165_
  by_cases c171_ : t96 = t73
  rotate_left
  · rw [if_neg c171_] at H
    exact absurd H (by simp)
  rw [if_pos c171_] at H
  have c171_0 : (t96 == t73) = true := beq_iff_eq.mpr c171_
  have c171_1 : (t96 != t73) = false := bne_eq_false_iff_eq.mpr c171_
  clear c171_
  obtain rfl := Option.some.inj H
  clear H
  go_enter Try.func14, Try.ntmps14
  go_wp2_with (first | ((with_reducible refine gate_dst (N := 2) rfl ?_); refine box_event ?hg (N := 2) ?hd (cs := #[.slice A0_0 l0_0.length c0_0]) (t := 93) ?hr ?_; (case hd => rfl); (case hg => rfl); (case hr => first | (go_simp; done) | (go_simp; rfl)); intro gb1 hg_ w2 hbox hb; have GB1 := Xam (box_iv hg_ hbox); replace HB := Xam (Xbt HB.out hb); replace OC := Xam (And.intro (Below.size hb) OC.out); have BK1 := Xam hbox; clear hb hbox hg_) | ((with_reducible refine gate_dst (N := 3) rfl ?_); refine box_event ?hg (N := 3) ?hd (cs := #[.slice A1_0 l1_0.length c1_0]) (t := 93) ?hr ?_; (case hd => rfl); (case hg => rfl); (case hr => first | (go_simp; done) | (go_simp; rfl)); intro gb3 hg_ w4 hbox hb; have GB3 := Xam (box_iv hg_ hbox); replace BK1 := Xam (Xbb BK1.out hb); replace HB := Xam (Xbt HB.out hb); replace OC := Xam (And.intro (Below.size hb) OC.out); have BK3 := Xam hbox; clear hb hbox hg_; have hcz1 : w4.cell? ⟨gb1, 0, none⟩ = some (.slice A0_0 l0_0.length c0_0) := (Xbc BK1.out 0).trans rfl) | ((with_reducible refine gate_callee (f := 63) rfl ?_); refine goesL_ (some 16) rfl rfl Try.func63 (by kernel_rfl) rfl #[.agg #[.slice A0_0 l0_0.length c0_0], .int .i64 1048576] rfl (by (try simp only [List.map_toArray, List.map_cons, List.map_nil]); first | done | rfl) ?_; (try clear hcz1); (with_reducible refine (laws_szDatabase.calls k _ _ l0_0 1048576 t6 _ ?side1 ?side2 E7.out).mono ?_); (case side1 => exact (Kd.C_below HR0_0.out HB.out)); (case side2 => exact HC0_0.out); rintro e w5 ⟨rfl, hb⟩; refine ⟨_, rfl, ?_⟩; replace BK1 := Xam (Xbb BK1.out hb); replace BK3 := Xam (Xbb BK3.out hb); replace HB := Xam (Xbt HB.out hb); replace OC := Xam (And.intro (Below.size hb) OC.out); clear hb; have hcz2 : w5.cell? ⟨gb3, 0, none⟩ = some (.slice A1_0 l1_0.length c1_0) := (Xbc BK3.out 0).trans rfl) | ((with_reducible refine gate_callee (f := 63) rfl ?_); refine goesL_ (some 21) rfl rfl Try.func63 (by kernel_rfl) rfl #[.agg #[.slice A1_0 l1_0.length c1_0], .int .i64 t6] rfl (by (try simp only [List.map_toArray, List.map_cons, List.map_nil]); first | done | rfl) ?_; (try clear hcz2); (with_reducible refine (laws_szDatabase.calls k _ _ l1_0 t6 t9 _ ?side1 ?side2 E10.out).mono ?_); (case side1 => exact (Kd.C_below HR1_0.out HB.out)); (case side2 => exact HC1_0.out); rintro e w8 ⟨rfl, hb⟩; refine ⟨_, rfl, ?_⟩; replace BK1 := Xam (Xbb BK1.out hb); replace BK3 := Xam (Xbb BK3.out hb); replace HB := Xam (Xbt HB.out hb); replace OC := Xam (And.intro (Below.size hb) OC.out); clear hb))
  replace BK1 := Xam (Xkd BK1.out)
  replace BK3 := Xam (Xkd BK3.out)
  replace HB := Xam (Xbd HB.out)
  replace OC := Xam (And.intro (show w8.heap.size ≤ w8.drew.heap.size from Nat.le_refl _) OC.out)
  refine start_ (n := 6) (S := fun w' => w'.cell? ⟨gb1, 0, none⟩ = some (.slice A0_0 l0_0.length c0_0) ∧ w'.cell? ⟨gb3, 0, none⟩ = some (.slice A1_0 l1_0.length c1_0)) (ds := []) #[false, false, false, false, false, false] (by kernel_rfl) rfl rfl ⟨(Xbc BK1.out 0).trans rfl, (Xbc BK3.out 0).trans rfl⟩ (fun hHeld => ?_)
  generalize w8.drew = w11 at BK1 BK3 HB OC hHeld ⊢
  refine take_ (i := 0) (N := some 24) (v := ?_) (a' := ?_) #[true, false, false, false, false, false] rfl rfl (by kernel_rfl) (fun _ _ _ h => h) (Or.inl ⟨by rfl, ?_⟩) hHeld ?_ ?_
  rotate_left
  · rintro w' ⟨s0_, s1_⟩
    go_simp
    with_reducible rfl
  rotate_left
  · simp only [Act.put, List.setIfInBounds_toArray, List.set_cons_zero, List.set_cons_succ, i64_w, i32_w]
    rfl
  refine take_ (i := 2) (N := some 26) (v := ?_) (a' := ?_) #[true, false, true, false, false, false] rfl rfl (by kernel_rfl) (fun _ _ _ h => h) (Or.inl ⟨by rfl, ?_⟩) hHeld ?_ ?_
  rotate_left
  · rintro w' ⟨s0_, s1_⟩
    go_simp
    with_reducible rfl
  rotate_left
  · simp only [Act.put, List.setIfInBounds_toArray, List.set_cons_zero, List.set_cons_succ, i64_w, i32_w]
    rfl
  refine one_ (i := 1) (N := some 25) #[true, true, true, false, false, false] rfl rfl (by kernel_rfl) (by decide) (fun K hK => ?_)
  refine goes_ Try.func65 (by kernel_rfl) rfl #[.agg #[.slice A0_0 l0_0.length c0_0]] (by rfl) rfl rfl (by (try simp only [List.map_toArray, List.map_cons, List.map_nil]); first | done | rfl) ?_
  with_reducible refine (laws_toDatabase.calls k _ _ l0_0 t13 _ ?side1 ?side2 E15.out).mono ?_
  (case side1 => exact (Kd.C_below HR0_0.out HB.out))
  (case side2 => exact HC0_0.out)
  rintro e w12 ⟨v14, rfl, ho14, hb⟩
  refine ⟨_, rfl, ?_⟩
  have HO14 := Xam (Kd.S_iv ho14 (Xbs HB.out))
  replace BK1 := Xam (Xbb BK1.out hb)
  replace BK3 := Xam (Xbb BK3.out hb)
  replace HB := Xam (Xbt HB.out hb)
  replace OC := Xam (And.intro (Below.size hb) OC.out)
  clear hb ho14
  obtain ⟨Ao14, co14, eo_⟩ := Kd.S_slice HO14.out
  subst eo_
  refine hK.out _ _ ⟨(Xbc BK1.out 0).trans rfl, (Xbc BK3.out 0).trans rfl⟩ (fun hHeld => ?_)
  clear hK K
  refine norm_ (a' := ?_) ?_ ?_
  rotate_left
  · show Act.put _ (some 25) _ = _
    simp only [Act.put, List.setIfInBounds_toArray, List.set_cons_zero, List.set_cons_succ, i64_w, i32_w]
    rfl
  refine one_ (i := 3) (N := some 27) #[true, true, true, true, false, false] rfl rfl (by kernel_rfl) (by decide) (fun K hK => ?_)
  refine goes_ Try.func65 (by kernel_rfl) rfl #[.agg #[.slice A1_0 l1_0.length c1_0]] (by rfl) rfl rfl (by (try simp only [List.map_toArray, List.map_cons, List.map_nil]); first | done | rfl) ?_
  with_reducible refine (laws_toDatabase.calls k _ _ l1_0 t17 _ ?side1 ?side2 E19.out).mono ?_
  (case side1 => exact (Kd.C_below HR1_0.out HB.out))
  (case side2 => exact HC1_0.out)
  rintro e w16 ⟨v18, rfl, ho18, hb⟩
  refine ⟨_, rfl, ?_⟩
  have HO18 := Xam (Kd.S_iv ho18 (Xbs HB.out))
  replace HO14 := Xam (Kd.S_below HO14.out hb)
  replace BK1 := Xam (Xbb BK1.out hb)
  replace BK3 := Xam (Xbb BK3.out hb)
  replace HB := Xam (Xbt HB.out hb)
  replace OC := Xam (And.intro (Below.size hb) OC.out)
  clear hb ho18
  obtain ⟨Ao18, co18, eo_⟩ := Kd.S_slice HO18.out
  subst eo_
  refine hK.out _ _ ⟨(Xbc BK1.out 0).trans rfl, (Xbc BK3.out 0).trans rfl⟩ (fun hHeld => ?_)
  clear hK K
  refine norm_ (a' := ?_) ?_ ?_
  rotate_left
  · show Act.put _ (some 27) _ = _
    simp only [Act.put, List.setIfInBounds_toArray, List.set_cons_zero, List.set_cons_succ, i64_w, i32_w]
    rfl
  refine one_ (i := 4) (N := some 28) #[true, true, true, true, true, false] rfl rfl (by kernel_rfl) (by decide) (fun K hK => ?_)
  refine goes_ Try.func82 (by kernel_rfl) rfl #[.agg #[.slice Ao14 t13.length co14], .agg #[.slice Ao18 t17.length co18]] (by rfl) rfl rfl (by (try simp only [List.map_toArray, List.map_cons, List.map_nil]); first | done | rfl) ?_
  with_reducible refine (spec_ChangedRows.calls k _ _ t13 _ _ t17 t21 _ ?side1 ?side2 ?side3 ?side4 E23.out).mono ?_
  (case side1 => exact (Kd.S_reads' HO14.out).2.2)
  (case side2 => exact (Kd.S_reads' HO14.out).2.1)
  (case side3 => exact (Kd.S_reads' HO18.out).2.2)
  (case side4 => exact (Kd.S_reads' HO18.out).2.1)
  rintro e w20 ⟨v22, rfl, ho22, hb⟩
  refine ⟨_, rfl, ?_⟩
  have HO22 := Xam (Kd.R_iv ho22 (Xbs HB.out))
  clear HO14 HO18
  replace BK1 := Xam (Xbb BK1.out hb)
  replace BK3 := Xam (Xbb BK3.out hb)
  replace HB := Xam (Xbt HB.out hb)
  replace OC := Xam (And.intro (Below.size hb) OC.out)
  clear hb ho22
  obtain ⟨Ao22, co22, eo_⟩ := Kd.R_slice HO22.out
  subst eo_
  refine hK.out _ _ ⟨(Xbc BK1.out 0).trans rfl, (Xbc BK3.out 0).trans rfl⟩ (fun hHeld => ?_)
  clear hK K
  refine norm_ (a' := ?_) ?_ ?_
  rotate_left
  · show Act.put _ (some 28) _ = _
    simp only [Act.put, List.setIfInBounds_toArray, List.set_cons_zero, List.set_cons_succ, i64_w, i32_w]
    rfl
  refine pure_ (i := 5) (N := some 6) (v := ?_) (a' := ?_) #[true, true, true, true, true, true] rfl rfl (by kernel_rfl) (fun _ _ _ h => h) (Or.inl ⟨by rfl, ?_⟩) ?_ ?_
  rotate_left
  · intro w'
    go_simp
    with_reducible rfl
  rotate_left
  · simp only [Act.put, List.setIfInBounds_toArray, List.set_cons_zero, List.set_cons_succ, i64_w, i32_w]
    rfl
  refine done_ (by kernel_rfl) ?_
  have hcz3 : w20.cell? ⟨gb1, 0, none⟩ = some (.slice A0_0 l0_0.length c0_0) := (Xbc BK1.out 0).trans rfl
  go_wp2_with (first | ((with_reducible refine gate_callee (f := 65) rfl ?_); refine goesL_ (some 30) rfl rfl Try.func65 (by kernel_rfl) rfl #[.agg #[.slice A0_0 l0_0.length c0_0]] rfl (by (try simp only [List.map_toArray, List.map_cons, List.map_nil]); first | done | rfl) ?_; (try clear hcz3); (with_reducible refine (laws_toDatabase.calls k _ _ l0_0 t25 _ ?side1 ?side2 E27.out).mono ?_); (case side1 => exact (Kd.C_below HR0_0.out HB.out)); (case side2 => exact HC0_0.out); rintro e w24 ⟨v26, rfl, ho26, hb⟩; refine ⟨_, rfl, ?_⟩; have HO26 := Xam (Kd.S_iv ho26 (Xbs HB.out)); replace HO22 := Xam (Kd.R_below HO22.out hb); replace BK1 := Xam (Xbb BK1.out hb); replace BK3 := Xam (Xbb BK3.out hb); replace HB := Xam (Xbt HB.out hb); replace OC := Xam (And.intro (Below.size hb) OC.out); clear hb ho26; obtain ⟨Ao26, co26, eo_⟩ := Kd.S_slice HO26.out; subst eo_) | ((with_reducible refine gate_dst (N := 7) rfl ?_); refine box_event ?hg (N := 7) ?hd (cs := #[.slice none 0 0]) (t := 38) ?hr ?_; (case hd => rfl); (case hg => rfl); (case hr => first | (go_simp; done) | (go_simp; rfl)); intro gb28 hg_ w29 hbox hb; have GB28 := Xam (box_iv hg_ hbox); replace HO22 := Xam (Kd.R_below HO22.out hb); replace HO26 := Xam (Kd.S_below HO26.out hb); replace BK1 := Xam (Xbb BK1.out hb); replace BK3 := Xam (Xbb BK3.out hb); replace HB := Xam (Xbt HB.out hb); replace OC := Xam (And.intro (Below.size hb) OC.out); have BK28 := Xam hbox; clear hb hbox hg_) | ((with_reducible refine gate_store (t := 38) (p := 7) rfl ?_); refine st_event (base := w.heap.size) (w0 := w) (u := .agg #[.slice Ao26 t25.length co26]) rfl rfl (t := 38) (p := 7) rfl [.slice Ao26 t25.length co26] rfl rfl rfl (by kernel_rfl) (by simp [Value.oneCell']) BK28.out rfl HB.out (by have h4_ := OC.out; have h5_ := GB28.out; have h6_ := Xbs HB.out; omega) ?_; intro w30 hbox hb hkp; replace HO22 := Xam (Kd.R_kv HO22.out hkp (fun k_ h1_ h2_ h3_ => by have h4_ := OC.out; have h5_ := GB28.out; omega)); replace HO26 := Xam (Kd.S_kv HO26.out hkp (fun k_ h1_ h2_ h3_ => by have h4_ := OC.out; have h5_ := GB28.out; omega)); replace BK1 := Xam (blk_kept BK1.out hkp (fun h3_ => by have h4_ := OC.out; have h6_ := GB1.out; have h5_ := GB28.out; omega)); replace BK3 := Xam (blk_kept BK3.out hkp (fun h3_ => by have h4_ := OC.out; have h6_ := GB3.out; have h5_ := GB28.out; omega)); replace HB := Xam hb; replace OC := Xam (And.intro hkp.1 OC.out); replace BK28 := Xam hbox; clear hbox hb hkp; have hcz4 : w30.cell? ⟨gb3, 0, none⟩ = some (.slice A1_0 l1_0.length c1_0) := (Xbc BK3.out 0).trans rfl) | ((with_reducible refine gate_callee (f := 65) rfl ?_); refine goesL_ (some 32) rfl rfl Try.func65 (by kernel_rfl) rfl #[.agg #[.slice A1_0 l1_0.length c1_0]] rfl (by (try simp only [List.map_toArray, List.map_cons, List.map_nil]); first | done | rfl) ?_; (try clear hcz4); (with_reducible refine (laws_toDatabase.calls k _ _ l1_0 t32 _ ?side1 ?side2 E34.out).mono ?_); (case side1 => exact (Kd.C_below HR1_0.out HB.out)); (case side2 => exact HC1_0.out); rintro e w31 ⟨v33, rfl, ho33, hb⟩; refine ⟨_, rfl, ?_⟩; have HO33 := Xam (Kd.S_iv ho33 (Xbs HB.out)); replace HO22 := Xam (Kd.R_below HO22.out hb); replace HO26 := Xam (Kd.S_below HO26.out hb); replace BK1 := Xam (Xbb BK1.out hb); replace BK3 := Xam (Xbb BK3.out hb); replace BK28 := Xam (Xbb BK28.out hb); replace HB := Xam (Xbt HB.out hb); replace OC := Xam (And.intro (Below.size hb) OC.out); clear hb ho33; obtain ⟨Ao33, co33, eo_⟩ := Kd.S_slice HO33.out; subst eo_) | ((with_reducible refine gate_dst (N := 8) rfl ?_); refine box_event ?hg (N := 8) ?hd (cs := #[.slice none 0 0]) (t := 38) ?hr ?_; (case hd => rfl); (case hg => rfl); (case hr => first | (go_simp; done) | (go_simp; rfl)); intro gb35 hg_ w36 hbox hb; have GB35 := Xam (box_iv hg_ hbox); replace HO22 := Xam (Kd.R_below HO22.out hb); replace HO26 := Xam (Kd.S_below HO26.out hb); replace HO33 := Xam (Kd.S_below HO33.out hb); replace BK1 := Xam (Xbb BK1.out hb); replace BK3 := Xam (Xbb BK3.out hb); replace BK28 := Xam (Xbb BK28.out hb); replace HB := Xam (Xbt HB.out hb); replace OC := Xam (And.intro (Below.size hb) OC.out); have BK35 := Xam hbox; clear hb hbox hg_) | ((with_reducible refine gate_store (t := 38) (p := 8) rfl ?_); refine st_event (base := w.heap.size) (w0 := w) (u := .agg #[.slice Ao33 t32.length co33]) rfl rfl (t := 38) (p := 8) rfl [.slice Ao33 t32.length co33] rfl rfl rfl (by kernel_rfl) (by simp [Value.oneCell']) BK35.out rfl HB.out (by have h4_ := OC.out; have h5_ := GB35.out; have h6_ := Xbs HB.out; omega) ?_; intro w37 hbox hb hkp; replace HO22 := Xam (Kd.R_kv HO22.out hkp (fun k_ h1_ h2_ h3_ => by have h4_ := OC.out; have h5_ := GB35.out; omega)); replace HO26 := Xam (Kd.S_kv HO26.out hkp (fun k_ h1_ h2_ h3_ => by have h4_ := OC.out; have h5_ := GB35.out; omega)); replace HO33 := Xam (Kd.S_kv HO33.out hkp (fun k_ h1_ h2_ h3_ => by have h4_ := OC.out; have h5_ := GB35.out; omega)); replace BK1 := Xam (blk_kept BK1.out hkp (fun h3_ => by have h4_ := OC.out; have h6_ := GB1.out; have h5_ := GB35.out; omega)); replace BK3 := Xam (blk_kept BK3.out hkp (fun h3_ => by have h4_ := OC.out; have h6_ := GB3.out; have h5_ := GB35.out; omega)); replace BK28 := Xam (blk_kept BK28.out hkp (fun h3_ => by have h4_ := OC.out; have h6_ := GB28.out; have h5_ := GB35.out; omega)); replace HB := Xam hb; replace OC := Xam (And.intro hkp.1 OC.out); replace BK35 := Xam hbox; clear hbox hb hkp; have hcz5 : w37.cell? ⟨gb28, 0, none⟩ = some (.slice Ao26 t25.length co26) := (Xbc BK28.out 0).trans rfl; have hcz6 : w37.cell? ⟨gb35, 0, none⟩ = some (.slice Ao33 t32.length co33) := (Xbc BK35.out 0).trans rfl) | ((with_reducible refine gate_callee (f := 83) rfl ?_); refine goesL_ (some 35) rfl rfl Try.func83 (by kernel_rfl) rfl #[.agg #[.slice Ao26 t25.length co26], .agg #[.slice Ao33 t32.length co33]] rfl (by (try simp only [List.map_toArray, List.map_cons, List.map_nil]); first | done | rfl) ?_; (try clear hcz5 hcz6); (with_reducible refine (impl_ChangedRows.calls k _ _ t25 _ _ t32 t39 _ ?side1 ?side2 ?side3 ?side4 E41.out).mono ?_); (case side1 => exact (Kd.S_reads' HO26.out).2.2); (case side2 => exact (Kd.S_reads' HO26.out).2.1); (case side3 => exact (Kd.S_reads' HO33.out).2.2); (case side4 => exact (Kd.S_reads' HO33.out).2.1); rintro e w38 ⟨v40, rfl, ho40, hb⟩; refine ⟨_, rfl, ?_⟩; have HO40 := Xam (Kd.R_iv ho40 (Xbs HB.out)); replace HO22 := Xam (Kd.R_below HO22.out hb); replace HO26 := Xam (Kd.S_below HO26.out hb); replace HO33 := Xam (Kd.S_below HO33.out hb); replace BK1 := Xam (Xbb BK1.out hb); replace BK3 := Xam (Xbb BK3.out hb); replace BK28 := Xam (Xbb BK28.out hb); replace BK35 := Xam (Xbb BK35.out hb); replace HB := Xam (Xbt HB.out hb); replace OC := Xam (And.intro (Below.size hb) OC.out); clear hb ho40; obtain ⟨Ao40, co40, eo_⟩ := Kd.R_slice HO40.out; subst eo_) | ((with_reducible refine gate_callee (f := 51) rfl ?_); refine goesL_ (some 38) rfl rfl Try.func51 (by kernel_rfl) rfl #[.slice Ao40 t39.length co40, .slice Ao22 t21.length co22] rfl (by (try simp only [List.map_toArray, List.map_cons, List.map_nil]); first | done | rfl) ?_; (with_reducible refine (laws_eqIntS.calls k _ _ t39 _ _ t21 true _ ?side1 ?side2 ?side3 ?side4 E44.out).mono ?_); (case side1 => exact (Kd.R_reads' HO40.out).2.2); (case side2 => exact (Kd.R_reads' HO40.out).2.1); (case side3 => exact (Kd.R_reads' HO22.out).2.2); (case side4 => exact (Kd.R_reads' HO22.out).2.1); rintro e w42 ⟨rfl, hd_⟩; have hb := drawn_below hd_; clear hd_; refine ⟨_, rfl, ?_⟩; replace HO22 := Xam (Kd.R_below HO22.out hb); replace HO26 := Xam (Kd.S_below HO26.out hb); replace HO33 := Xam (Kd.S_below HO33.out hb); replace HO40 := Xam (Kd.R_below HO40.out hb); replace BK1 := Xam (Xbb BK1.out hb); replace BK3 := Xam (Xbb BK3.out hb); replace BK28 := Xam (Xbb BK28.out hb); replace BK35 := Xam (Xbb BK35.out hb); replace HB := Xam (Xbt HB.out hb); replace OC := Xam (And.intro (Below.size hb) OC.out); clear hb))
  replace HO22 := Xam (Kd.R_drew HO22.out)
  replace HO26 := Xam (Kd.S_drew HO26.out)
  replace HO33 := Xam (Kd.S_drew HO33.out)
  replace HO40 := Xam (Kd.R_drew HO40.out)
  replace BK1 := Xam (Xkd BK1.out)
  replace BK3 := Xam (Xkd BK3.out)
  replace BK28 := Xam (Xkd BK28.out)
  replace BK35 := Xam (Xkd BK35.out)
  replace HB := Xam (Xbd HB.out)
  replace OC := Xam (And.intro (show w42.heap.size ≤ w42.drew.heap.size from Nat.le_refl _) OC.out)
  refine start_ (n := 5) (S := fun w' => w'.cell? ⟨gb28, 0, none⟩ = some (.slice Ao26 t25.length co26) ∧ w'.cell? ⟨gb1, 0, none⟩ = some (.slice A0_0 l0_0.length c0_0)) (ds := []) #[false, false, false, false, false] (by kernel_rfl) rfl rfl ⟨(Xbc BK28.out 0).trans rfl, (Xbc BK1.out 0).trans rfl⟩ (fun hHeld => ?_)
  generalize w42.drew = w45 at HO22 HO26 HO33 HO40 BK1 BK3 BK28 BK35 HB OC hHeld ⊢
  refine take_ (i := 0) (N := some 40) (v := ?_) (a' := ?_) #[true, false, false, false, false] rfl rfl (by kernel_rfl) (fun _ _ _ h => h) (Or.inl ⟨by rfl, ?_⟩) hHeld ?_ ?_
  rotate_left
  · rintro w' ⟨s0_, s1_⟩
    go_simp
    with_reducible rfl
  rotate_left
  · simp only [Act.put, List.setIfInBounds_toArray, List.set_cons_zero, List.set_cons_succ, i64_w, i32_w]
    rfl
  refine take_ (i := 1) (N := some 41) (v := ?_) (a' := ?_) #[true, true, false, false, false] rfl rfl (by kernel_rfl) (fun _ _ _ h => h) (Or.inl ⟨by rfl, ?_⟩) hHeld ?_ ?_
  rotate_left
  · rintro w' ⟨s0_, s1_⟩
    go_simp
    with_reducible rfl
  rotate_left
  · simp only [Act.put, List.setIfInBounds_toArray, List.set_cons_zero, List.set_cons_succ, i64_w, i32_w]
    rfl
  refine one_ (i := 2) (N := some 42) #[true, true, true, false, false] rfl rfl (by kernel_rfl) (by decide) (fun K hK => ?_)
  refine goes_ Try.func65 (by kernel_rfl) rfl #[.agg #[.slice A0_0 l0_0.length c0_0]] (by rfl) rfl rfl (by (try simp only [List.map_toArray, List.map_cons, List.map_nil]); first | done | rfl) ?_
  with_reducible refine (laws_toDatabase.calls k _ _ l0_0 t47 _ ?side1 ?side2 E49.out).mono ?_
  (case side1 => exact (Kd.C_below HR0_0.out HB.out))
  (case side2 => exact HC0_0.out)
  rintro e w46 ⟨v48, rfl, ho48, hb⟩
  refine ⟨_, rfl, ?_⟩
  have HO48 := Xam (Kd.S_iv ho48 (Xbs HB.out))
  replace HO22 := Xam (Kd.R_below HO22.out hb)
  replace HO26 := Xam (Kd.S_below HO26.out hb)
  replace HO33 := Xam (Kd.S_below HO33.out hb)
  replace HO40 := Xam (Kd.R_below HO40.out hb)
  replace BK1 := Xam (Xbb BK1.out hb)
  replace BK3 := Xam (Xbb BK3.out hb)
  replace BK28 := Xam (Xbb BK28.out hb)
  replace BK35 := Xam (Xbb BK35.out hb)
  replace HB := Xam (Xbt HB.out hb)
  replace OC := Xam (And.intro (Below.size hb) OC.out)
  clear hb ho48
  obtain ⟨Ao48, co48, eo_⟩ := Kd.S_slice HO48.out
  subst eo_
  refine hK.out _ _ ⟨(Xbc BK28.out 0).trans rfl, (Xbc BK1.out 0).trans rfl⟩ (fun hHeld => ?_)
  clear hK K
  refine norm_ (a' := ?_) ?_ ?_
  rotate_left
  · show Act.put _ (some 42) _ = _
    simp only [Act.put, List.setIfInBounds_toArray, List.set_cons_zero, List.set_cons_succ, i64_w, i32_w]
    rfl
  refine one_ (i := 3) (N := some 43) #[true, true, true, true, false] rfl rfl (by kernel_rfl) (by decide) (fun K hK => ?_)
  refine goes_ Try.func67 (by kernel_rfl) rfl #[.agg #[.slice Ao26 t25.length co26], .agg #[.slice Ao48 t47.length co48]] (by rfl) rfl rfl (by (try simp only [List.map_toArray, List.map_cons, List.map_nil]); first | done | rfl) ?_
  with_reducible refine (laws_eqDatabase.calls k _ _ t25 _ _ t47 true _ ?side1 ?side2 ?side3 ?side4 E52.out).mono ?_
  (case side1 => exact (Kd.S_reads' HO26.out).2.2)
  (case side2 => exact (Kd.S_reads' HO26.out).2.1)
  (case side3 => exact (Kd.S_reads' HO48.out).2.2)
  (case side4 => exact (Kd.S_reads' HO48.out).2.1)
  rintro e w50 ⟨rfl, hb⟩
  refine ⟨_, rfl, ?_⟩
  clear HO48
  replace HO22 := Xam (Kd.R_below HO22.out hb)
  replace HO26 := Xam (Kd.S_below HO26.out hb)
  replace HO33 := Xam (Kd.S_below HO33.out hb)
  replace HO40 := Xam (Kd.R_below HO40.out hb)
  replace BK1 := Xam (Xbb BK1.out hb)
  replace BK3 := Xam (Xbb BK3.out hb)
  replace BK28 := Xam (Xbb BK28.out hb)
  replace BK35 := Xam (Xbb BK35.out hb)
  replace HB := Xam (Xbt HB.out hb)
  replace OC := Xam (And.intro (Below.size hb) OC.out)
  clear hb
  refine hK.out _ _ ⟨(Xbc BK28.out 0).trans rfl, (Xbc BK1.out 0).trans rfl⟩ (fun hHeld => ?_)
  clear hK K
  refine norm_ (a' := ?_) ?_ ?_
  rotate_left
  · show Act.put _ (some 43) _ = _
    simp only [Act.put, List.setIfInBounds_toArray, List.set_cons_zero, List.set_cons_succ, i64_w, i32_w]
    rfl
  refine pure_ (i := 4) (N := some 44) (v := ?_) (a' := ?_) #[true, true, true, true, true] rfl rfl (by kernel_rfl) (fun _ _ _ h => h) (Or.inl ⟨by rfl, ?_⟩) ?_ ?_
  rotate_left
  · intro w'
    go_simp
    with_reducible rfl
  rotate_left
  · simp only [Act.put, List.setIfInBounds_toArray, List.set_cons_zero, List.set_cons_succ, i64_w, i32_w]
    rfl
  refine done_ (by kernel_rfl) ?_
  try go_wp2
  replace HO22 := Xam (Kd.R_drew HO22.out)
  replace HO26 := Xam (Kd.S_drew HO26.out)
  replace HO33 := Xam (Kd.S_drew HO33.out)
  replace HO40 := Xam (Kd.R_drew HO40.out)
  replace BK1 := Xam (Xkd BK1.out)
  replace BK3 := Xam (Xkd BK3.out)
  replace BK28 := Xam (Xkd BK28.out)
  replace BK35 := Xam (Xkd BK35.out)
  replace HB := Xam (Xbd HB.out)
  replace OC := Xam (And.intro (show w50.heap.size ≤ w50.drew.heap.size from Nat.le_refl _) OC.out)
  refine start_ (n := 5) (S := fun w' => w'.cell? ⟨gb35, 0, none⟩ = some (.slice Ao33 t32.length co33) ∧ w'.cell? ⟨gb3, 0, none⟩ = some (.slice A1_0 l1_0.length c1_0)) (ds := []) #[false, false, false, false, false] (by kernel_rfl) rfl rfl ⟨(Xbc BK35.out 0).trans rfl, (Xbc BK3.out 0).trans rfl⟩ (fun hHeld => ?_)
  generalize w50.drew = w53 at HO22 HO26 HO33 HO40 BK1 BK3 BK28 BK35 HB OC hHeld ⊢
  refine take_ (i := 0) (N := some 45) (v := ?_) (a' := ?_) #[true, false, false, false, false] rfl rfl (by kernel_rfl) (fun _ _ _ h => h) (Or.inl ⟨by rfl, ?_⟩) hHeld ?_ ?_
  rotate_left
  · rintro w' ⟨s0_, s1_⟩
    go_simp
    with_reducible rfl
  rotate_left
  · simp only [Act.put, List.setIfInBounds_toArray, List.set_cons_zero, List.set_cons_succ, i64_w, i32_w]
    rfl
  refine take_ (i := 1) (N := some 46) (v := ?_) (a' := ?_) #[true, true, false, false, false] rfl rfl (by kernel_rfl) (fun _ _ _ h => h) (Or.inl ⟨by rfl, ?_⟩) hHeld ?_ ?_
  rotate_left
  · rintro w' ⟨s0_, s1_⟩
    go_simp
    with_reducible rfl
  rotate_left
  · simp only [Act.put, List.setIfInBounds_toArray, List.set_cons_zero, List.set_cons_succ, i64_w, i32_w]
    rfl
  refine one_ (i := 2) (N := some 47) #[true, true, true, false, false] rfl rfl (by kernel_rfl) (by decide) (fun K hK => ?_)
  refine goes_ Try.func65 (by kernel_rfl) rfl #[.agg #[.slice A1_0 l1_0.length c1_0]] (by rfl) rfl rfl (by (try simp only [List.map_toArray, List.map_cons, List.map_nil]); first | done | rfl) ?_
  with_reducible refine (laws_toDatabase.calls k _ _ l1_0 t55 _ ?side1 ?side2 E57.out).mono ?_
  (case side1 => exact (Kd.C_below HR1_0.out HB.out))
  (case side2 => exact HC1_0.out)
  rintro e w54 ⟨v56, rfl, ho56, hb⟩
  refine ⟨_, rfl, ?_⟩
  have HO56 := Xam (Kd.S_iv ho56 (Xbs HB.out))
  replace HO22 := Xam (Kd.R_below HO22.out hb)
  replace HO26 := Xam (Kd.S_below HO26.out hb)
  replace HO33 := Xam (Kd.S_below HO33.out hb)
  replace HO40 := Xam (Kd.R_below HO40.out hb)
  replace BK1 := Xam (Xbb BK1.out hb)
  replace BK3 := Xam (Xbb BK3.out hb)
  replace BK28 := Xam (Xbb BK28.out hb)
  replace BK35 := Xam (Xbb BK35.out hb)
  replace HB := Xam (Xbt HB.out hb)
  replace OC := Xam (And.intro (Below.size hb) OC.out)
  clear hb ho56
  obtain ⟨Ao56, co56, eo_⟩ := Kd.S_slice HO56.out
  subst eo_
  refine hK.out _ _ ⟨(Xbc BK35.out 0).trans rfl, (Xbc BK3.out 0).trans rfl⟩ (fun hHeld => ?_)
  clear hK K
  refine norm_ (a' := ?_) ?_ ?_
  rotate_left
  · show Act.put _ (some 47) _ = _
    simp only [Act.put, List.setIfInBounds_toArray, List.set_cons_zero, List.set_cons_succ, i64_w, i32_w]
    rfl
  refine one_ (i := 3) (N := some 48) #[true, true, true, true, false] rfl rfl (by kernel_rfl) (by decide) (fun K hK => ?_)
  refine goes_ Try.func67 (by kernel_rfl) rfl #[.agg #[.slice Ao33 t32.length co33], .agg #[.slice Ao56 t55.length co56]] (by rfl) rfl rfl (by (try simp only [List.map_toArray, List.map_cons, List.map_nil]); first | done | rfl) ?_
  with_reducible refine (laws_eqDatabase.calls k _ _ t32 _ _ t55 true _ ?side1 ?side2 ?side3 ?side4 E60.out).mono ?_
  (case side1 => exact (Kd.S_reads' HO33.out).2.2)
  (case side2 => exact (Kd.S_reads' HO33.out).2.1)
  (case side3 => exact (Kd.S_reads' HO56.out).2.2)
  (case side4 => exact (Kd.S_reads' HO56.out).2.1)
  rintro e w58 ⟨rfl, hb⟩
  refine ⟨_, rfl, ?_⟩
  clear HO56
  replace HO22 := Xam (Kd.R_below HO22.out hb)
  replace HO26 := Xam (Kd.S_below HO26.out hb)
  replace HO33 := Xam (Kd.S_below HO33.out hb)
  replace HO40 := Xam (Kd.R_below HO40.out hb)
  replace BK1 := Xam (Xbb BK1.out hb)
  replace BK3 := Xam (Xbb BK3.out hb)
  replace BK28 := Xam (Xbb BK28.out hb)
  replace BK35 := Xam (Xbb BK35.out hb)
  replace HB := Xam (Xbt HB.out hb)
  replace OC := Xam (And.intro (Below.size hb) OC.out)
  clear hb
  refine hK.out _ _ ⟨(Xbc BK35.out 0).trans rfl, (Xbc BK3.out 0).trans rfl⟩ (fun hHeld => ?_)
  clear hK K
  refine norm_ (a' := ?_) ?_ ?_
  rotate_left
  · show Act.put _ (some 48) _ = _
    simp only [Act.put, List.setIfInBounds_toArray, List.set_cons_zero, List.set_cons_succ, i64_w, i32_w]
    rfl
  refine pure_ (i := 4) (N := some 49) (v := ?_) (a' := ?_) #[true, true, true, true, true] rfl rfl (by kernel_rfl) (fun _ _ _ h => h) (Or.inl ⟨by rfl, ?_⟩) ?_ ?_
  rotate_left
  · intro w'
    go_simp
    with_reducible rfl
  rotate_left
  · simp only [Act.put, List.setIfInBounds_toArray, List.set_cons_zero, List.set_cons_succ, i64_w, i32_w]
    rfl
  refine done_ (by kernel_rfl) ?_
  have hcz7 : w58.cell? ⟨gb28, 0, none⟩ = some (.slice Ao26 t25.length co26) := (Xbc BK28.out 0).trans rfl
  go_wp2_with (first | ((with_reducible refine gate_callee (f := 74) rfl ?_); refine goesL_ (some 52) rfl rfl Try.func74 (by kernel_rfl) rfl #[.agg #[.slice Ao26 t25.length co26], .int .i64 1] rfl (by (try simp only [List.map_toArray, List.map_cons, List.map_nil]); first | done | rfl) ?_; (try clear hcz7); (with_reducible refine (laws_markDatabase.calls k (iv w20.heap.size w24.heap.size) (.slice Ao26 t25.length co26) t25 1 t62 t63 w _ ?side2 ?side1 E64.out).mono ?_); (case side1 => exact HO26.out); (case side2 => exact HB.out); rintro e w61 ⟨rfl, hy, hb, hkp⟩; refine ⟨_, rfl, ?_⟩; replace HO26 := Xam hy; replace HO22 := Xam (Kd.R_kv HO22.out hkp (fun k_ h1_ h2_ h3_ => by have h4_ := OC.out; have h5_ : (_ : Nat) ≤ k_ ∧ k_ < _ := h3_; omega)); replace HO33 := Xam (Kd.S_kv HO33.out hkp (fun k_ h1_ h2_ h3_ => by have h4_ := OC.out; have h5_ : (_ : Nat) ≤ k_ ∧ k_ < _ := h3_; omega)); replace HO40 := Xam (Kd.R_kv HO40.out hkp (fun k_ h1_ h2_ h3_ => by have h4_ := OC.out; have h5_ : (_ : Nat) ≤ k_ ∧ k_ < _ := h3_; omega)); replace BK1 := Xam (blk_kept BK1.out hkp (fun h3_ => by have h4_ := OC.out; have h6_ := GB1.out; have h5_ : (_ : Nat) ≤ gb1 ∧ gb1 < _ := h3_; omega)); replace BK3 := Xam (blk_kept BK3.out hkp (fun h3_ => by have h4_ := OC.out; have h6_ := GB3.out; have h5_ : (_ : Nat) ≤ gb3 ∧ gb3 < _ := h3_; omega)); replace BK28 := Xam (blk_kept BK28.out hkp (fun h3_ => by have h4_ := OC.out; have h6_ := GB28.out; have h5_ : (_ : Nat) ≤ gb28 ∧ gb28 < _ := h3_; omega)); replace BK35 := Xam (blk_kept BK35.out hkp (fun h3_ => by have h4_ := OC.out; have h6_ := GB35.out; have h5_ : (_ : Nat) ≤ gb35 ∧ gb35 < _ := h3_; omega)); replace HB := Xam hb; replace OC := Xam (And.intro hkp.1 OC.out); clear hy hb hkp; clear HO26 BK28; have hcz8 : w61.cell? ⟨gb35, 0, none⟩ = some (.slice Ao33 t32.length co33) := (Xbc BK35.out 0).trans rfl) | ((with_reducible refine gate_callee (f := 74) rfl ?_); refine goesL_ (some 55) rfl rfl Try.func74 (by kernel_rfl) rfl #[.agg #[.slice Ao33 t32.length co33], .int .i64 t62] rfl (by (try simp only [List.map_toArray, List.map_cons, List.map_nil]); first | done | rfl) ?_; (try clear hcz8); (with_reducible refine (laws_markDatabase.calls k (iv w30.heap.size w31.heap.size) (.slice Ao33 t32.length co33) t32 t62 t66 t67 w _ ?side2 ?side1 E68.out).mono ?_); (case side1 => exact HO33.out); (case side2 => exact HB.out); rintro e w65 ⟨rfl, hy, hb, hkp⟩; refine ⟨_, rfl, ?_⟩; replace HO33 := Xam hy; replace HO22 := Xam (Kd.R_kv HO22.out hkp (fun k_ h1_ h2_ h3_ => by have h4_ := OC.out; have h5_ : (_ : Nat) ≤ k_ ∧ k_ < _ := h3_; omega)); replace HO40 := Xam (Kd.R_kv HO40.out hkp (fun k_ h1_ h2_ h3_ => by have h4_ := OC.out; have h5_ : (_ : Nat) ≤ k_ ∧ k_ < _ := h3_; omega)); replace BK1 := Xam (blk_kept BK1.out hkp (fun h3_ => by have h4_ := OC.out; have h6_ := GB1.out; have h5_ : (_ : Nat) ≤ gb1 ∧ gb1 < _ := h3_; omega)); replace BK3 := Xam (blk_kept BK3.out hkp (fun h3_ => by have h4_ := OC.out; have h6_ := GB3.out; have h5_ : (_ : Nat) ≤ gb3 ∧ gb3 < _ := h3_; omega)); replace BK35 := Xam (blk_kept BK35.out hkp (fun h3_ => by have h4_ := OC.out; have h6_ := GB35.out; have h5_ : (_ : Nat) ≤ gb35 ∧ gb35 < _ := h3_; omega)); replace HB := Xam hb; replace OC := Xam (And.intro hkp.1 OC.out); clear hy hb hkp; clear HO33) | ((go_at_call 51); (with_reducible refine (laws_eqIntS.calls k _ _ t39 _ _ t21 true _ ?side1 ?side2 ?side3 ?side4 E71.out).mono ?_); (case side1 => exact (Kd.R_reads' HO40.out).2.2); (case side2 => exact (Kd.R_reads' HO40.out).2.1); (case side3 => exact (Kd.R_reads' HO22.out).2.2); (case side4 => exact (Kd.R_reads' HO22.out).2.1); rintro e w69 ⟨rfl, hd_⟩; have hb := drawn_below hd_; clear hd_; clear BK35; replace HO22 := Xam (Kd.R_below HO22.out hb); replace HO40 := Xam (Kd.R_below HO40.out hb); replace BK1 := Xam (Xbb BK1.out hb); replace BK3 := Xam (Xbb BK3.out hb); replace HB := Xam (Xbt HB.out hb); replace OC := Xam (And.intro (Below.size hb) OC.out); clear hb) | ((with_reducible refine gate_callee (f := 54) rfl ?_); refine goesL_ (some 66) rfl rfl Try.func54 (by kernel_rfl) rfl #[.slice Ao40 t39.length co40, .int .i64 1] rfl (by (try simp only [List.map_toArray, List.map_cons, List.map_nil]); first | done | rfl) ?_; (with_reducible refine (laws_markIntS.calls k (iv w37.heap.size w38.heap.size) (.slice Ao40 t39.length co40) t39 1 t73 t74 w _ ?side2 ?side1 E75.out).mono ?_); (case side1 => exact HO40.out); (case side2 => exact HB.out); rintro e w72 ⟨rfl, hy, hb, hkp⟩; refine ⟨_, rfl, ?_⟩; replace HO40 := Xam (Kd.R_reok rfl hy (fun k_ e_ => HO40.out.1 k_ e_)); replace HO22 := Xam (Kd.R_kv HO22.out hkp (fun k_ h1_ h2_ h3_ => by have h4_ := OC.out; have h5_ : (_ : Nat) ≤ k_ ∧ k_ < _ := h3_; omega)); replace BK1 := Xam (blk_kept BK1.out hkp (fun h3_ => by have h4_ := OC.out; have h6_ := GB1.out; have h5_ : (_ : Nat) ≤ gb1 ∧ gb1 < _ := h3_; omega)); replace BK3 := Xam (blk_kept BK3.out hkp (fun h3_ => by have h4_ := OC.out; have h6_ := GB3.out; have h5_ : (_ : Nat) ≤ gb3 ∧ gb3 < _ := h3_; omega)); replace HB := Xam hb; replace OC := Xam (And.intro hkp.1 OC.out); clear hy hb hkp) | ((with_reducible refine gate_callee (f := 55) rfl ?_); refine goesL_ (some 69) rfl rfl Try.func55 (by kernel_rfl) rfl #[.slice Ao40 t74.length co40, .int .i64 1] rfl (by (try simp only [List.map_toArray, List.map_cons, List.map_nil]); first | done | rfl | (rw [show t74.length = t39.length from (Kd.R_reads' HO40.out).1.symm] <;> rfl)) ?_; (with_reducible refine (laws_heldIntS.calls k _ _ t74 1 t77 _ ?side1 ?side2 E78.out).mono ?_); (case side1 => exact (Kd.R_reads' HO40.out).2.2); (case side2 => exact Nat.le_trans (Nat.le_of_eq (Kd.R_reads' HO40.out).1.symm) (Kd.R_reads' HO40.out).2.1); rintro e w76 ⟨rfl, hd_⟩; have hb := drawn_below hd_; clear hd_; refine ⟨_, rfl, ?_⟩; replace HO22 := Xam (Kd.R_below HO22.out hb); replace HO40 := Xam (Kd.R_below HO40.out hb); replace BK1 := Xam (Xbb BK1.out hb); replace BK3 := Xam (Xbb BK3.out hb); replace HB := Xam (Xbt HB.out hb); replace OC := Xam (And.intro (Below.size hb) OC.out); clear hb))
  replace HO22 := Xam (Kd.R_drew HO22.out)
  replace HO40 := Xam (Kd.R_drew HO40.out)
  replace BK1 := Xam (Xkd BK1.out)
  replace BK3 := Xam (Xkd BK3.out)
  replace HB := Xam (Xbd HB.out)
  replace OC := Xam (And.intro (show w76.heap.size ≤ w76.drew.heap.size from Nat.le_refl _) OC.out)
  refine start_ (n := 6) (S := fun w' => w'.cell? ⟨gb1, 0, none⟩ = some (.slice A0_0 l0_0.length c0_0) ∧ w'.cell? ⟨gb3, 0, none⟩ = some (.slice A1_0 l1_0.length c1_0)) (ds := []) #[false, false, false, false, false, false] (by kernel_rfl) rfl rfl ⟨(Xbc BK1.out 0).trans rfl, (Xbc BK3.out 0).trans rfl⟩ (fun hHeld => ?_)
  generalize w76.drew = w79 at HO22 HO40 BK1 BK3 HB OC hHeld ⊢
  refine take_ (i := 0) (N := some 75) (v := ?_) (a' := ?_) #[true, false, false, false, false, false] rfl rfl (by kernel_rfl) (fun _ _ _ h => h) (Or.inl ⟨by rfl, ?_⟩) hHeld ?_ ?_
  rotate_left
  · rintro w' ⟨s0_, s1_⟩
    go_simp
    with_reducible rfl
  rotate_left
  · simp only [Act.put, List.setIfInBounds_toArray, List.set_cons_zero, List.set_cons_succ, i64_w, i32_w]
    rfl
  refine take_ (i := 2) (N := some 77) (v := ?_) (a' := ?_) #[true, false, true, false, false, false] rfl rfl (by kernel_rfl) (fun _ _ _ h => h) (Or.inl ⟨by rfl, ?_⟩) hHeld ?_ ?_
  rotate_left
  · rintro w' ⟨s0_, s1_⟩
    go_simp
    with_reducible rfl
  rotate_left
  · simp only [Act.put, List.setIfInBounds_toArray, List.set_cons_zero, List.set_cons_succ, i64_w, i32_w]
    rfl
  refine one_ (i := 1) (N := some 76) #[true, true, true, false, false, false] rfl rfl (by kernel_rfl) (by decide) (fun K hK => ?_)
  refine goes_ Try.func65 (by kernel_rfl) rfl #[.agg #[.slice A0_0 l0_0.length c0_0]] (by rfl) rfl rfl (by (try simp only [List.map_toArray, List.map_cons, List.map_nil]); first | done | rfl) ?_
  with_reducible refine (laws_toDatabase.calls k _ _ l0_0 t81 _ ?side1 ?side2 E83.out).mono ?_
  (case side1 => exact (Kd.C_below HR0_0.out HB.out))
  (case side2 => exact HC0_0.out)
  rintro e w80 ⟨v82, rfl, ho82, hb⟩
  refine ⟨_, rfl, ?_⟩
  have HO82 := Xam (Kd.S_iv ho82 (Xbs HB.out))
  replace HO22 := Xam (Kd.R_below HO22.out hb)
  replace HO40 := Xam (Kd.R_below HO40.out hb)
  replace BK1 := Xam (Xbb BK1.out hb)
  replace BK3 := Xam (Xbb BK3.out hb)
  replace HB := Xam (Xbt HB.out hb)
  replace OC := Xam (And.intro (Below.size hb) OC.out)
  clear hb ho82
  obtain ⟨Ao82, co82, eo_⟩ := Kd.S_slice HO82.out
  subst eo_
  refine hK.out _ _ ⟨(Xbc BK1.out 0).trans rfl, (Xbc BK3.out 0).trans rfl⟩ (fun hHeld => ?_)
  clear hK K
  refine norm_ (a' := ?_) ?_ ?_
  rotate_left
  · show Act.put _ (some 76) _ = _
    simp only [Act.put, List.setIfInBounds_toArray, List.set_cons_zero, List.set_cons_succ, i64_w, i32_w]
    rfl
  refine one_ (i := 3) (N := some 78) #[true, true, true, true, false, false] rfl rfl (by kernel_rfl) (by decide) (fun K hK => ?_)
  refine goes_ Try.func65 (by kernel_rfl) rfl #[.agg #[.slice A1_0 l1_0.length c1_0]] (by rfl) rfl rfl (by (try simp only [List.map_toArray, List.map_cons, List.map_nil]); first | done | rfl) ?_
  with_reducible refine (laws_toDatabase.calls k _ _ l1_0 t85 _ ?side1 ?side2 E87.out).mono ?_
  (case side1 => exact (Kd.C_below HR1_0.out HB.out))
  (case side2 => exact HC1_0.out)
  rintro e w84 ⟨v86, rfl, ho86, hb⟩
  refine ⟨_, rfl, ?_⟩
  have HO86 := Xam (Kd.S_iv ho86 (Xbs HB.out))
  replace HO22 := Xam (Kd.R_below HO22.out hb)
  replace HO40 := Xam (Kd.R_below HO40.out hb)
  replace HO82 := Xam (Kd.S_below HO82.out hb)
  replace BK1 := Xam (Xbb BK1.out hb)
  replace BK3 := Xam (Xbb BK3.out hb)
  replace HB := Xam (Xbt HB.out hb)
  replace OC := Xam (And.intro (Below.size hb) OC.out)
  clear hb ho86
  obtain ⟨Ao86, co86, eo_⟩ := Kd.S_slice HO86.out
  subst eo_
  refine hK.out _ _ ⟨(Xbc BK1.out 0).trans rfl, (Xbc BK3.out 0).trans rfl⟩ (fun hHeld => ?_)
  clear hK K
  refine norm_ (a' := ?_) ?_ ?_
  rotate_left
  · show Act.put _ (some 78) _ = _
    simp only [Act.put, List.setIfInBounds_toArray, List.set_cons_zero, List.set_cons_succ, i64_w, i32_w]
    rfl
  refine one_ (i := 4) (N := some 79) #[true, true, true, true, true, false] rfl rfl (by kernel_rfl) (by decide) (fun K hK => ?_)
  refine goes_ Try.func83 (by kernel_rfl) rfl #[.agg #[.slice Ao82 t81.length co82], .agg #[.slice Ao86 t85.length co86]] (by rfl) rfl rfl (by (try simp only [List.map_toArray, List.map_cons, List.map_nil]); first | done | rfl) ?_
  with_reducible refine (impl_ChangedRows.calls k _ _ t81 _ _ t85 t89 _ ?side1 ?side2 ?side3 ?side4 E91.out).mono ?_
  (case side1 => exact (Kd.S_reads' HO82.out).2.2)
  (case side2 => exact (Kd.S_reads' HO82.out).2.1)
  (case side3 => exact (Kd.S_reads' HO86.out).2.2)
  (case side4 => exact (Kd.S_reads' HO86.out).2.1)
  rintro e w88 ⟨v90, rfl, ho90, hb⟩
  refine ⟨_, rfl, ?_⟩
  have HO90 := Xam (Kd.R_iv ho90 (Xbs HB.out))
  clear HO82 HO86
  replace HO22 := Xam (Kd.R_below HO22.out hb)
  replace HO40 := Xam (Kd.R_below HO40.out hb)
  replace BK1 := Xam (Xbb BK1.out hb)
  replace BK3 := Xam (Xbb BK3.out hb)
  replace HB := Xam (Xbt HB.out hb)
  replace OC := Xam (And.intro (Below.size hb) OC.out)
  clear hb ho90
  obtain ⟨Ao90, co90, eo_⟩ := Kd.R_slice HO90.out
  subst eo_
  refine hK.out _ _ ⟨(Xbc BK1.out 0).trans rfl, (Xbc BK3.out 0).trans rfl⟩ (fun hHeld => ?_)
  clear hK K
  refine norm_ (a' := ?_) ?_ ?_
  rotate_left
  · show Act.put _ (some 79) _ = _
    simp only [Act.put, List.setIfInBounds_toArray, List.set_cons_zero, List.set_cons_succ, i64_w, i32_w]
    rfl
  refine pure_ (i := 5) (N := some 13) (v := ?_) (a' := ?_) #[true, true, true, true, true, true] rfl rfl (by kernel_rfl) (fun _ _ _ h => h) (Or.inl ⟨by rfl, ?_⟩) ?_ ?_
  rotate_left
  · intro w'
    go_simp
    with_reducible rfl
  rotate_left
  · simp only [Act.put, List.setIfInBounds_toArray, List.set_cons_zero, List.set_cons_succ, i64_w, i32_w]
    rfl
  refine done_ (by kernel_rfl) ?_
  go_wp2_with (first | ((with_reducible refine gate_callee (f := 51) rfl ?_); refine goesL_ (some 82) rfl rfl Try.func51 (by kernel_rfl) rfl #[.slice Ao90 t89.length co90, .slice Ao22 t21.length co22] rfl (by (try simp only [List.map_toArray, List.map_cons, List.map_nil]); first | done | rfl) ?_; (with_reducible refine (laws_eqIntS.calls k _ _ t89 _ _ t21 true _ ?side1 ?side2 ?side3 ?side4 E94.out).mono ?_); (case side1 => exact (Kd.R_reads' HO90.out).2.2); (case side2 => exact (Kd.R_reads' HO90.out).2.1); (case side3 => exact (Kd.R_reads' HO22.out).2.2); (case side4 => exact (Kd.R_reads' HO22.out).2.1); rintro e w92 ⟨rfl, hd_⟩; have hb := drawn_below hd_; clear hd_; refine ⟨_, rfl, ?_⟩; clear HO22 HO90; replace HO40 := Xam (Kd.R_below HO40.out hb); replace BK1 := Xam (Xbb BK1.out hb); replace BK3 := Xam (Xbb BK3.out hb); replace HB := Xam (Xbt HB.out hb); replace OC := Xam (And.intro (Below.size hb) OC.out); clear hb) | ((with_reducible refine gate_callee (f := 55) rfl ?_); refine goesL_ (some 86) rfl rfl Try.func55 (by kernel_rfl) rfl #[.slice Ao40 t74.length co40, .int .i64 1] rfl (by (try simp only [List.map_toArray, List.map_cons, List.map_nil]); first | done | rfl | (rw [show t74.length = t39.length from (Kd.R_reads' HO40.out).1.symm] <;> rfl)) ?_; (with_reducible refine (laws_heldIntS.calls k _ _ t74 1 t96 _ ?side1 ?side2 E97.out).mono ?_); (case side1 => exact (Kd.R_reads' HO40.out).2.2); (case side2 => exact Nat.le_trans (Nat.le_of_eq (Kd.R_reads' HO40.out).1.symm) (Kd.R_reads' HO40.out).2.1); rintro e w95 ⟨rfl, hd_⟩; have hb := drawn_below hd_; clear hd_; refine ⟨_, rfl, ?_⟩; clear HO40; replace BK1 := Xam (Xbb BK1.out hb); replace BK3 := Xam (Xbb BK3.out hb); replace HB := Xam (Xbt HB.out hb); replace OC := Xam (And.intro (Below.size hb) OC.out); clear hb))
  go_ret
  exact ⟨by first | rfl | (simp; done), HB.out⟩
/-- THE ONE PURE STATEMENT of laws_FnExactChangedRows. -/
def laws_FnExactChangedRows.Pure : Prop := ∀ (l0_0 : List (List Int)) (l1_0 : List (List Int)), (l0_0.length ≤ maxLen ∧ ∀ z101 ∈ l0_0, z101.length ≤ maxLen ∧ ∀ z102 ∈ z101, (Lit.int .u8 z102).wf = true) → (l1_0.length ≤ maxLen ∧ ∀ z103 ∈ l1_0, z103.length ≤ maxLen ∧ ∀ z104 ∈ z103, (Lit.int .u8 z104).wf = true) → ∃ k, laws_FnExactChangedRows.f k l0_0 l1_0 = some true


end Go.Proofs.Ytcdaiclfomekhaa.Q
