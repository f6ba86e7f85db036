-- written by a program of this session (qprint.py) over the kit's print.py
import Derived.Test.YtcjgeekeohbnmaaQx0
import Derived.Test.YtcjgeekeohbnmaaQxBBDNCB
import Derived.Test.YtcjgeekeohbnmaaQxBCBODJ
import Derived.Test.YtcjgeekeohbnmaaQxFBHFKM
import Derived.Test.YtcjgeekeohbnmaaQxJDAJIF
namespace Go.Proofs.Ytcjgeekeohbnmaa.Q
open Go.RowKit Go.Proofs.YtcjgeekeohbnmaaW.PrintWords Go.Proofs.YtcjgeekeohbnmaaW.PrintLast Go.Proofs.YtcjgeekeohbnmaaW.PrintMore Go.Proofs.YtcjgeekeohbnmaaW.PrintWords Go.Proofs.YtcjgeekeohbnmaaW.PrintWords.QPW
attribute [local go_sem] max2_int min2_int max_two min_two max_three min_three max_four min_four   -- for this text's walks alone
set_option linter.unusedVariables false
set_option linter.unusedSimpArgs false

/-! ### impl_AnswerMAC: function 147 -/
def impl_AnswerMAC.f (k : Nat) (a0 : Int) (a1_0 : Int) (a1_1 : Int) (l1_2 : List Int) (l1_3 : List Int) (a1_4 : Int) : Option (Int) := (impl_BytesToInts.f k l1_3).bind fun t105 => ((slices_Concat_int.f k (([(([191, a1_0, a1_1, (l1_2.length : Int)] : List Int)), l1_2, t105] : List (List Int)))).bind fun t111 => ((impl_KeyedHash.f k a0 t111).bind fun t114 => (some t114)))
theorem impl_AnswerMAC.mono : ∀ a0 a1 a2 a3 a4 a5 k, LeO (impl_AnswerMAC.f k a0 a1 a2 a3 a4 a5) (impl_AnswerMAC.f (k + 1) a0 a1 a2 a3 a4 a5) := by
  intro a0 a1 a2 a3 a4 a5 k
  unfold impl_AnswerMAC.f
  repeat' first
      | (with_reducible exact impl_BytesToInts.mono _ _)
      | (with_reducible exact impl_KeyedHash.mono _ _ _)
      | (with_reducible exact slices_Concat_int.mono _ _)
      | (with_reducible exact LeO.refl _)
      | (with_reducible exact LeO.none _)
      | (with_reducible refine LeO.ite ?_ ?_)
      | (with_reducible refine LeO.bind ?_ (fun _ => ?_))
      | exact impl_BytesToInts.mono _ _
      | exact impl_KeyedHash.mono _ _ _
      | exact slices_Concat_int.mono _ _
      | exact LeO.none _
      | refine LeO.ite ?_ ?_
      | refine LeO.bind ?_ (fun _ => ?_)
def impl_AnswerMAC.T1 : Bool × List (List Nat × List Nat) := (true, [([], []), ([], []), ([1], [1]), ([], []), ([3], [3]), ([], []), ([5], [5]), ([6], [6]), ([2, 4, 7], [2, 4, 7]), ([], []), ([9], [9]), ([], []), ([11], [11]), ([12], [12]), ([8, 10, 13], [8, 10, 13]), ([14, 13], [14]), ([0, 15, 15], [0, 15]), ([16, 16, 0, 1, 2, 3, 4, 5, 6, 7, 8, 9, 10, 11, 12, 13, 14, 15, 16], [16])])
def impl_AnswerMAC.B1 : List Nat := [0, 0, 2, 0, 8, 0, 32, 96, 254, 0, 512, 0, 2048, 6144, 16382, 32766, 65535, 131071]
theorem impl_AnswerMAC.tab1 : rtab .any (opsOf Try.f147 1) = impl_AnswerMAC.T1 := by kernel_rfl
theorem impl_AnswerMAC.bits1 : waitsOk impl_AnswerMAC.T1.2 impl_AnswerMAC.B1 = true := by kernel_rfl
set_option maxHeartbeats 8000000 in
set_option maxRecDepth 100000 in
theorem impl_AnswerMAC.calls (k : Nat) (a0 : Int) (a1_0 : Int) (a1_1 : Int) (P1_2_ : Nat → Prop) (A1_2 : Option Addr) (c1_2 : Nat) (l1_2 : List Int) (A1_3 : Option Addr) (c1_3 : Nat) (l1_3 : List Int) (a1_4 : Int) (r : Int) (w : World) (hs1_2 : Kd.V (Kd.int .i64) 3 w w.heap.size (fun k_ => P1_2_ k_) (.slice A1_2 l1_2.length c1_2) l1_2) (hr1_3 : Kd.C (Kd.int .u8) w A1_3 l1_3.length l1_3) (hc1_3 : l1_3.length ≤ c1_3) (h : impl_AnswerMAC.f k a0 a1_0 a1_1 l1_2 l1_3 a1_4 = some r) :
    Calls Try.prog 147 #[.int .i64 a0, .agg #[.int .i64 a1_0, .int .i64 a1_1, .slice A1_2 l1_2.length c1_2, .slice A1_3 l1_3.length c1_3, .int .i64 a1_4]] w fun e w' => e = .returned (.int .i64 r) ∧ Below w.heap.size w w' := by
  have hu34 := Try.underlying34
  have HO1_2 := Xam (show Kd.V (Kd.int .i64) 3 w w.heap.size (fun k_ => (P1_2_ k_ ∨ w.heap.size ≤ k_)) (.slice A1_2 l1_2.length c1_2) l1_2 from Kd.V_mono hs1_2 (fun k_ hk => by first | exact .inl hk | grind))
  have HR1_3 := Xam hr1_3
  have HC1_3 := Xam hc1_3
  clear hr1_3 hc1_3
  have HB := Xam (Below.refl w.heap.size w)
  have H : ((impl_BytesToInts.f k l1_3).bind fun t105 => ((slices_Concat_int.f k (([(([191, a1_0, a1_1, (l1_2.length : Int)] : List Int)), l1_2, t105] : List (List Int)))).bind fun t111 => ((impl_KeyedHash.f k a0 t111).bind fun t114 => (some t114)))) = some r := h
  clear h
  obtain ⟨y102, hy102⟩ : ∃ y_ : List Int, y_ = (([191, a1_0, a1_1, (l1_2.length : Int)] : List Int)) := ⟨_, rfl⟩
  replace H : ((impl_BytesToInts.f k l1_3).bind fun t105 => ((slices_Concat_int.f k (([y102, l1_2, t105] : List (List Int)))).bind fun t111 => ((impl_KeyedHash.f k a0 t111).bind fun t114 => (some t114)))) = some r := by first | (rw [hy102]; with_reducible exact H) | (have H2_ := (Option.bind_some _ _).symm.trans H; rw [hy102]; with_reducible exact H2_) | (have H2_ := (Option.bind_some _ _).symm.trans H; with_reducible exact H2_) | with_reducible exact H | (rw [hy102]; exact H) | exact H
  have Ny102 := Xam hy102
  clear hy102
  replace H := Option.bind_eq_some_iff.mp H
  obtain ⟨t105, A30, H⟩ := H
  replace H : ((slices_Concat_int.f k (([y102, l1_2, t105] : List (List Int)))).bind fun t111 => ((impl_KeyedHash.f k a0 t111).bind fun t114 => (some t114))) = some r := H
  have A3 := Xam A30
  clear A30
  obtain ⟨y108, hy108⟩ : ∃ y_ : List (List Int), y_ = (([y102, l1_2, t105] : List (List Int))) := ⟨_, rfl⟩
  replace H : ((slices_Concat_int.f k y108).bind fun t111 => ((impl_KeyedHash.f k a0 t111).bind fun t114 => (some t114))) = some r := by first | (rw [hy108]; with_reducible exact H) | (have H2_ := (Option.bind_some _ _).symm.trans H; rw [hy108]; with_reducible exact H2_) | (have H2_ := (Option.bind_some _ _).symm.trans H; with_reducible exact H2_) | with_reducible exact H | (rw [hy108]; exact H) | exact H
  have Ny108 := Xam hy108
  clear hy108
  replace H := Option.bind_eq_some_iff.mp H
  obtain ⟨t111, A40, H⟩ := H
  replace H : ((impl_KeyedHash.f k a0 t111).bind fun t114 => (some t114)) = some r := H
  have A4 := Xam A40
  clear A40
  replace H := Option.bind_eq_some_iff.mp H
  obtain ⟨t114, A50, H⟩ := H
  replace H : (some t114) = some r := H
  have A5 := Xam A50
  clear A50
  obtain rfl := Option.some.inj H
  go_enter Try.func147, Try.ntmps147
  try go_wp2_with (first | ((with_reducible refine gate_dst (N := 3) rfl ?_); refine box_event ?hg (N := 3) ?hd (cs := #[.int .i64 a1_0, .int .i64 a1_1, .slice A1_2 l1_2.length c1_2, .slice A1_3 l1_3.length c1_3, .int .i64 a1_4]) (t := 34) ?hr ?_; (case hd => rfl); (case hg => rfl); (case hr => first | (go_simp; done) | (go_simp; rfl)); intro gb101 hg w6 hbox hb; have n0_ := Xam (Kd.V_below (Kd.V_elderB (by (with_reducible repeat (first | apply Kd.V_alloc | apply Kd.V_drewN | apply Kd.V_drew)); exact HO1_2.out) gb101 (Nat.le_of_eq hg.symm)) hb); have n1_ := Xam (Xbt (by repeat (first | (with_reducible first | exact HB.out | apply Xba | apply Xbn | apply Xbd) | exact HB.out)) hb); have n2_ := Xam (hbox); have n3_ := Xam ((by rw [hg]; exact (Xbs (by repeat (first | (with_reducible first | exact HB.out | apply Xba | apply Xbn | apply Xbd) | exact HB.out))) : w.heap.size ≤ gb101)); have n4_ := Xam ((by rw [hg]; exact (Xbs (by repeat (first | (with_reducible first | exact HB.out | apply Xba | apply Xbn | apply Xbd) | exact HB.out))) : w.heap.size ≤ gb101)); clear HO1_2; clear HB; have HO1_2 := n0_; have HB := n1_; have BK101 := n2_; have GW101 := n3_; have GE101 := n4_; clear n0_ n1_ n2_ n3_ n4_; clear hb hbox hg))
  have n0_ := Xam (Kd.V_drew HO1_2.out)
  have n1_ := Xam (Xkd BK101.out)
  have n2_ := Xam (Xbd HB.out)
  clear HO1_2
  clear BK101
  clear HB
  have HO1_2 := n0_
  have BK101 := n1_
  have HB := n2_
  clear n0_ n1_ n2_
  refine start_ (n := 18) (S := fun w' => True) (ds := []) #[false, false, false, false, false, false, false, false, false, false, false, false, false, false, false, false, false, false] (by kernel_rfl) rfl rfl trivial (fun hHeld => ?_); refine with_tabW impl_AnswerMAC.tab1 impl_AnswerMAC.bits1 (fun HT_ HW_ => ?_)
  generalize w6.drew = w7 at HO1_2 BK101 HB hHeld ⊢
  refine pure_ (i := 0) (N := some 5) (v := ?_) (a' := ?_) #[true, false, false, false, false, false, false, false, false, false, false, false, false, false, false, false, false, false] rfl rfl (any_of HT_.out (by kernel_rfl)) (fun _ _ _ h => h) (Or.inl ⟨by rfl, ?_⟩) ?_ ?_
  rotate_left
  · intro w'
    go_simp
    with_reducible rfl
  rotate_left
  · simp only [Act.put, List.setIfInBounds_toArray, List.set_cons_zero, List.set_cons_succ, i64_w, i32_w]
    rfl
  refine pure_ (i := 1) (N := some 6) (v := ?_) (a' := ?_) #[true, true, false, false, false, false, false, false, false, false, false, false, false, false, false, false, false, false] rfl rfl (any_of HT_.out (by kernel_rfl)) (fun _ _ _ h => h) (Or.inl ⟨by rfl, ?_⟩) ?_ ?_
  rotate_left
  · intro w'
    go_simp
    with_reducible rfl
  rotate_left
  · simp only [Act.put, List.setIfInBounds_toArray, List.set_cons_zero, List.set_cons_succ, i64_w, i32_w]
    rfl
  refine pure_ (i := 3) (N := some 8) (v := ?_) (a' := ?_) #[true, true, false, true, false, false, false, false, false, false, false, false, false, false, false, false, false, false] rfl rfl (any_of HT_.out (by kernel_rfl)) (fun _ _ _ h => h) (Or.inl ⟨by rfl, ?_⟩) ?_ ?_
  rotate_left
  · intro w'
    go_simp
    with_reducible rfl
  rotate_left
  · simp only [Act.put, List.setIfInBounds_toArray, List.set_cons_zero, List.set_cons_succ, i64_w, i32_w]
    rfl
  refine pure_ (i := 5) (N := some 10) (v := ?_) (a' := ?_) #[true, true, false, true, false, true, false, false, false, false, false, false, false, false, false, false, false, false] rfl rfl (any_of HT_.out (by kernel_rfl)) (fun _ _ _ h => h) (Or.inl ⟨by rfl, ?_⟩) ?_ ?_
  rotate_left
  · intro w'
    go_simp
    with_reducible rfl
  rotate_left
  · simp only [Act.put, List.setIfInBounds_toArray, List.set_cons_zero, List.set_cons_succ, i64_w, i32_w]
    rfl
  refine pure_ (i := 9) (N := some 14) (v := ?_) (a' := ?_) #[true, true, false, true, false, true, false, false, false, true, false, false, false, false, false, false, false, false] rfl rfl (any_of HT_.out (by kernel_rfl)) (fun _ _ _ h => h) (Or.inl ⟨by rfl, ?_⟩) ?_ ?_
  rotate_left
  · intro w'
    go_simp
    with_reducible rfl
  rotate_left
  · simp only [Act.put, List.setIfInBounds_toArray, List.set_cons_zero, List.set_cons_succ, i64_w, i32_w]
    rfl
  refine pure_ (i := 11) (N := some 16) (v := ?_) (a' := ?_) #[true, true, false, true, false, true, false, false, false, true, false, true, false, false, false, false, false, false] rfl rfl (any_of HT_.out (by kernel_rfl)) (fun _ _ _ h => h) (Or.inl ⟨by rfl, ?_⟩) ?_ ?_
  rotate_left
  · intro w'
    go_simp
    with_reducible rfl
  rotate_left
  · simp only [Act.put, List.setIfInBounds_toArray, List.set_cons_zero, List.set_cons_succ, i64_w, i32_w]
    rfl
  refine inv_at [2, 4, 6, 7, 8, 10, 12, 13, 14, 15, 16, 17] (fun a0_ b a w' => ∃ (v103 : Value) (v106 : Value) (v109 : Value) (v112 : Value), a = putSel a0_ b [(2, 7, .int .i64 a1_0), (4, 9, .int .i64 a1_1), (6, 11, .slice A1_2 l1_2.length c1_2), (7, 12, .int .i64 (l1_2.length : Int)), (8, 13, v103), (10, 15, .slice A1_2 l1_2.length c1_2), (12, 17, .slice A1_3 l1_3.length c1_3), (13, 18, v106), (14, 19, v109), (15, 20, v112), (16, 21, .int .i64 t114), (17, 4, .int .i64 t114)] ∧ (Kd.V (Kd.int .i64) 3 w' w.heap.size (fun k_ => (P1_2_ k_ ∨ w.heap.size ≤ k_) ∧ k_ ≠ gb101) (.slice A1_2 l1_2.length c1_2) l1_2) ∧ (w'.heap[gb101]? = some (.cells #[.int .i64 a1_0, .int .i64 a1_1, .slice A1_2 l1_2.length c1_2, .slice A1_3 l1_3.length c1_3, .int .i64 a1_4] 34 (0, 0))) ∧ (Below w.heap.size w w') ∧ (b 8 = true → b 14 = false → Kd.R (Kd.int .i64) 3 w' w.heap.size (fun k_ => (w.heap.size ≤ k_)) v103 y102) ∧ (b 13 = true → b 14 = false → Kd.R (Kd.int .i64) 3 w' w.heap.size (fun k_ => (w.heap.size ≤ k_)) v106 t105) ∧ (b 14 = true → Kd.N (Kd.slice 3 (Kd.int .i64)) 25 w' w.heap.size (fun k_ => (P1_2_ k_ ∨ w.heap.size ≤ k_) ∧ k_ ≠ gb101) v109 y108) ∧ (b 15 = true → Kd.R (Kd.int .i64) 3 w' w.heap.size (fun k_ => (w.heap.size ≤ k_)) v112 t111)) HT_.out HW_.out (by kernel_rfl) (by kernel_rfl) ?_ ?_ ?_
  · exact ⟨.bool false, .bool false, .bool false, .bool false, by simp only [putSel, Bool.false_eq_true, if_false], HO1_2.out, BK101.out, HB.out, fun h_ => absurd h_ (by decide), fun h_ => absurd h_ (by decide), fun h_ => absurd h_ (by decide), fun h_ => absurd h_ (by decide)⟩
  · skip
    clear BK101 HB HO1_2
    refine steps_cons ?_ ?_
    · rintro b a w' ⟨v103, v106, v109, v112, ha, Q_HO1_2, Q_BK101, Q_HB, Q_HO104, Q_HO107, Q_HO110, Q_HO113⟩ hb_ hon hoff
      refine ⟨_, rfl, fun K hK => ?_⟩
      have e6 : a.tmps[6]? = some (.pointer (some ⟨gb101, 0, none⟩)) := by rw [ha]; exact (putSel_off rfl).trans rfl
      replace ha := Xam ha
      have HO1_2 := Xam Q_HO1_2
      have BK101 := Xam Q_BK101
      have HB := Xam Q_HB
      have hc0_ : w'.cell? ⟨gb101, 0, none⟩ = some (.int .i64 a1_0) := (Xbc BK101.out 0).trans rfl
      have hc1_ : w'.cell? ⟨gb101, 1, none⟩ = some (.int .i64 a1_1) := (Xbc BK101.out 1).trans rfl
      have hc2_ : w'.cell? ⟨gb101, 2, none⟩ = some (.slice A1_2 l1_2.length c1_2) := (Xbc BK101.out 2).trans rfl
      have hc3_ : w'.cell? ⟨gb101, 3, none⟩ = some (.slice A1_3 l1_3.length c1_3) := (Xbc BK101.out 3).trans rfl
      have hc4_ : w'.cell? ⟨gb101, 4, none⟩ = some (.int .i64 a1_4) := (Xbc BK101.out 4).trans rfl
      refine value_ (w1 := w') (v := .int .i64 a1_0) (by rfl) rfl ?_ ?_
      · go_simp
        (try simp only [i64_w])
        try rfl
      refine hK.out _ _ ⟨v103, v106, v109, v112, (by rw [ha.out]; exact putSel_upk 0 hb_ rfl rfl rfl), Q_HO1_2, Q_BK101, Q_HB, fun h0_ _ => absurd ((hoff 8 (by kernel_rfl)).symm.trans h0_) (by decide), Q_HO107, fun h0_ => absurd ((hoff 14 (by kernel_rfl)).symm.trans h0_) (by decide), fun h0_ => absurd ((hoff 15 (by kernel_rfl)).symm.trans h0_) (by decide)⟩
    refine steps_cons ?_ ?_
    · rintro b a w' ⟨v103, v106, v109, v112, ha, Q_HO1_2, Q_BK101, Q_HB, Q_HO104, Q_HO107, Q_HO110, Q_HO113⟩ hb_ hon hoff
      refine ⟨_, rfl, fun K hK => ?_⟩
      have e8 : a.tmps[8]? = some (.pointer (some ⟨gb101, 1, none⟩)) := by rw [ha]; exact (putSel_off rfl).trans rfl
      replace ha := Xam ha
      have HO1_2 := Xam Q_HO1_2
      have BK101 := Xam Q_BK101
      have HB := Xam Q_HB
      have hc0_ : w'.cell? ⟨gb101, 0, none⟩ = some (.int .i64 a1_0) := (Xbc BK101.out 0).trans rfl
      have hc1_ : w'.cell? ⟨gb101, 1, none⟩ = some (.int .i64 a1_1) := (Xbc BK101.out 1).trans rfl
      have hc2_ : w'.cell? ⟨gb101, 2, none⟩ = some (.slice A1_2 l1_2.length c1_2) := (Xbc BK101.out 2).trans rfl
      have hc3_ : w'.cell? ⟨gb101, 3, none⟩ = some (.slice A1_3 l1_3.length c1_3) := (Xbc BK101.out 3).trans rfl
      have hc4_ : w'.cell? ⟨gb101, 4, none⟩ = some (.int .i64 a1_4) := (Xbc BK101.out 4).trans rfl
      refine value_ (w1 := w') (v := .int .i64 a1_1) (by rfl) rfl ?_ ?_
      · go_simp
        (try simp only [i64_w])
        try rfl
      refine hK.out _ _ ⟨v103, v106, v109, v112, (by rw [ha.out]; exact putSel_upk 1 hb_ rfl rfl rfl), Q_HO1_2, Q_BK101, Q_HB, fun h0_ _ => absurd ((hoff 8 (by kernel_rfl)).symm.trans h0_) (by decide), Q_HO107, fun h0_ => absurd ((hoff 14 (by kernel_rfl)).symm.trans h0_) (by decide), fun h0_ => absurd ((hoff 15 (by kernel_rfl)).symm.trans h0_) (by decide)⟩
    refine steps_cons ?_ ?_
    · rintro b a w' ⟨v103, v106, v109, v112, ha, Q_HO1_2, Q_BK101, Q_HB, Q_HO104, Q_HO107, Q_HO110, Q_HO113⟩ hb_ hon hoff
      refine ⟨_, rfl, fun K hK => ?_⟩
      have e10 : a.tmps[10]? = some (.pointer (some ⟨gb101, 2, none⟩)) := by rw [ha]; exact (putSel_off rfl).trans rfl
      replace ha := Xam ha
      have HO1_2 := Xam Q_HO1_2
      have BK101 := Xam Q_BK101
      have HB := Xam Q_HB
      have hc0_ : w'.cell? ⟨gb101, 0, none⟩ = some (.int .i64 a1_0) := (Xbc BK101.out 0).trans rfl
      have hc1_ : w'.cell? ⟨gb101, 1, none⟩ = some (.int .i64 a1_1) := (Xbc BK101.out 1).trans rfl
      have hc2_ : w'.cell? ⟨gb101, 2, none⟩ = some (.slice A1_2 l1_2.length c1_2) := (Xbc BK101.out 2).trans rfl
      have hc3_ : w'.cell? ⟨gb101, 3, none⟩ = some (.slice A1_3 l1_3.length c1_3) := (Xbc BK101.out 3).trans rfl
      have hc4_ : w'.cell? ⟨gb101, 4, none⟩ = some (.int .i64 a1_4) := (Xbc BK101.out 4).trans rfl
      refine value_ (w1 := w') (v := .slice A1_2 l1_2.length c1_2) (by rfl) rfl ?_ ?_
      · go_simp
        (try simp only [i64_w])
        try rfl
      refine hK.out _ _ ⟨v103, v106, v109, v112, (by rw [ha.out]; exact putSel_upk 2 hb_ rfl rfl rfl), Q_HO1_2, Q_BK101, Q_HB, fun h0_ _ => absurd ((hoff 8 (by kernel_rfl)).symm.trans h0_) (by decide), Q_HO107, fun h0_ => absurd ((hoff 14 (by kernel_rfl)).symm.trans h0_) (by decide), fun h0_ => absurd ((hoff 15 (by kernel_rfl)).symm.trans h0_) (by decide)⟩
    refine steps_cons ?_ ?_
    · rintro b a w' ⟨v103, v106, v109, v112, ha, Q_HO1_2, Q_BK101, Q_HB, Q_HO104, Q_HO107, Q_HO110, Q_HO113⟩ hb_ hon hoff
      refine ⟨_, rfl, fun K hK => ?_⟩
      have e11 : a.tmps[11]? = some (.slice A1_2 l1_2.length c1_2) := by rw [ha]; exact putSel_on (e := (6, 11, .slice A1_2 l1_2.length c1_2)) 2 rfl rfl (hon 6 (by kernel_rfl)) rfl
      replace ha := Xam ha
      have HO1_2 := Xam Q_HO1_2
      have BK101 := Xam Q_BK101
      have HB := Xam Q_HB
      refine value_ (w1 := w') (v := .int .i64 (l1_2.length : Int)) (by rfl) rfl ?_ ?_
      · go_simp
        (try simp only [i64_w])
        try rfl
      refine hK.out _ _ ⟨v103, v106, v109, v112, (by rw [ha.out]; exact putSel_upk 3 hb_ rfl rfl rfl), Q_HO1_2, Q_BK101, Q_HB, fun h0_ _ => absurd ((hoff 8 (by kernel_rfl)).symm.trans h0_) (by decide), Q_HO107, fun h0_ => absurd ((hoff 14 (by kernel_rfl)).symm.trans h0_) (by decide), fun h0_ => absurd ((hoff 15 (by kernel_rfl)).symm.trans h0_) (by decide)⟩
    refine steps_cons ?_ ?_
    · rintro b a w' ⟨v103, v106, v109, v112, ha, Q_HO1_2, Q_BK101, Q_HB, Q_HO104, Q_HO107, Q_HO110, Q_HO113⟩ hb_ hon hoff
      refine ⟨_, rfl, fun K hK => ?_⟩
      have e7 : a.tmps[7]? = some (.int .i64 a1_0) := by rw [ha]; exact putSel_on (e := (2, 7, .int .i64 a1_0)) 0 rfl rfl (hon 2 (by kernel_rfl)) rfl
      have e9 : a.tmps[9]? = some (.int .i64 a1_1) := by rw [ha]; exact putSel_on (e := (4, 9, .int .i64 a1_1)) 1 rfl rfl (hon 4 (by kernel_rfl)) rfl
      have e12 : a.tmps[12]? = some (.int .i64 (l1_2.length : Int)) := by rw [ha]; exact putSel_on (e := (7, 12, .int .i64 (l1_2.length : Int))) 3 rfl rfl (hon 7 (by kernel_rfl)) rfl
      replace ha := Xam ha
      have HO1_2 := Xam Q_HO1_2
      have BK101 := Xam Q_BK101
      have HB := Xam Q_HB
      refine Kd.R_lit_step (Kd.int .i64) _ 3 ?hg (N := 13) ?hd (xs := ([191, a1_0, a1_1, (l1_2.length : Int)] : List Int)) (inner := [.int .i64 191, .int .i64 a1_0, .int .i64 a1_1, .int .i64 (l1_2.length : Int)]) (ok := fun _ => True) (okp := fun _ => True) ?hr ?hp (fun _ hk => by first | exact hk | grind) trivial (Below.refl _ _) (Nat.le_refl _) (by simp) ?_; (case hd => rfl); (case hg => rfl); (case hr => first | (go_simp; done) | (go_simp; rfl)); (case hp => exact (Reps.one (show Kd.M (Kd.int .i64) _ _ _ 191 [.int .i64 191] from rfl) (Reps.one (show Kd.M (Kd.int .i64) _ _ _ a1_0 [.int .i64 a1_0] from rfl) (Reps.one (show Kd.M (Kd.int .i64) _ _ _ a1_1 [.int .i64 a1_1] from rfl) (Reps.one (show Kd.M (Kd.int .i64) _ _ _ (l1_2.length : Int) [.int .i64 (l1_2.length : Int)] from rfl) (Reps.none _ _))))))
      intro v103 w8 ho9 hb hg_ hnew_
      clear hg_ hnew_
      (first | rw [← Ny102.out] at ho9 | (simp only [Int.reduceToNat] at ho9; rw [← Ny102.out] at ho9))
      have n0_ := Xam (Kd.V_elder' (by (with_reducible repeat (first | apply Kd.V_alloc | apply Kd.V_drewN | apply Kd.V_drew)); exact HO1_2.out) (Kd.R_base ho9) hb)
      have n1_ := Xam (Kd.R_lower (Kd.R_newM (M := fun k_ => (w.heap.size ≤ k_)) ho9 (Xbs (by repeat (first | (with_reducible first | exact HB.out | apply Xba | apply Xbn | apply Xbd | refine Xbe ?_ GE101.out) | exact HB.out))) (fun k_ h_ => h_)) (Xbs (by repeat (first | (with_reducible first | exact HB.out | apply Xba | apply Xbn | apply Xbd | refine Xbe ?_ GE101.out) | exact HB.out))))
      have n2_ := Xam (Xbb (g := gb101) (o := .cells #[.int .i64 a1_0, .int .i64 a1_1, .slice A1_2 l1_2.length c1_2, .slice A1_3 l1_3.length c1_3, .int .i64 a1_4] 34 (0, 0)) (by (with_reducible repeat (first | refine Xkn ?_ _ | refine Xkd ?_ | refine Xka ?_ _)); exact BK101.out) hb)
      have n3_ := Xam (Xbt (by repeat (first | (with_reducible first | exact HB.out | apply Xba | apply Xbn | apply Xbd | refine Xbe ?_ GE101.out) | exact HB.out)) hb)
      have z_HO107 := fun (h0_ : b 13 = true) (h1_ : b 14 = false) => (show Kd.R (Kd.int .i64) 3 w8 w.heap.size (fun k_ => (w.heap.size ≤ k_)) v106 t105 from by first | exact (Kd.R_elder' (by (with_reducible repeat (first | apply Xra | apply Xrn | apply Xrd)); exact (Q_HO107 h0_ h1_)) (Kd.R_base ho9) hb) | exact Kd.R_mono (Kd.R_elder' (by (with_reducible repeat (first | apply Xra | apply Xrn | apply Xrd)); exact (Q_HO107 h0_ h1_)) (Kd.R_base ho9) hb) (fun _ h_ => by first | trivial | exact h_ | exact h_.1))
      clear HO1_2
      clear BK101
      clear HB
      have HO1_2 := n0_
      have HO104 := n1_
      have BK101 := n2_
      have HB := n3_
      clear n0_ n1_ n2_ n3_
      clear hb ho9
      refine hK.out _ _ ⟨v103, v106, v109, v112, (by rw [ha.out]; exact putSel_upk 4 hb_ rfl rfl rfl), (by (with_reducible repeat (first | apply Kd.V_alloc | apply Kd.V_drewN | apply Kd.V_drew)); exact Kd.V_mono HO1_2.out (fun _ hk => by first | exact ⟨hk.1.1, ⟨hk.2, hk.1.2⟩⟩ | grind)), (by (with_reducible repeat (first | refine Xkn ?_ _ | refine Xkd ?_ | refine Xka ?_ _)); exact BK101.out), (by repeat (first | (with_reducible first | exact HB.out | apply Xba | apply Xbn | apply Xbd | refine Xbe ?_ GE101.out) | exact HB.out)), fun _ _ => (by (with_reducible repeat (first | apply Xra | apply Xrn | apply Xrd)); exact Kd.R_mono HO104.out (fun _ hk => by first | exact hk.1 | grind)), z_HO107, fun h0_ => absurd ((hoff 14 (by kernel_rfl)).symm.trans h0_) (by decide), fun h0_ => absurd ((hoff 15 (by kernel_rfl)).symm.trans h0_) (by decide)⟩
    refine steps_cons ?_ ?_
    · rintro b a w' ⟨v103, v106, v109, v112, ha, Q_HO1_2, Q_BK101, Q_HB, Q_HO104, Q_HO107, Q_HO110, Q_HO113⟩ hb_ hon hoff
      refine ⟨_, rfl, fun K hK => ?_⟩
      have e14 : a.tmps[14]? = some (.pointer (some ⟨gb101, 2, none⟩)) := by rw [ha]; exact (putSel_off rfl).trans rfl
      replace ha := Xam ha
      have HO1_2 := Xam Q_HO1_2
      have BK101 := Xam Q_BK101
      have HB := Xam Q_HB
      have hc0_ : w'.cell? ⟨gb101, 0, none⟩ = some (.int .i64 a1_0) := (Xbc BK101.out 0).trans rfl
      have hc1_ : w'.cell? ⟨gb101, 1, none⟩ = some (.int .i64 a1_1) := (Xbc BK101.out 1).trans rfl
      have hc2_ : w'.cell? ⟨gb101, 2, none⟩ = some (.slice A1_2 l1_2.length c1_2) := (Xbc BK101.out 2).trans rfl
      have hc3_ : w'.cell? ⟨gb101, 3, none⟩ = some (.slice A1_3 l1_3.length c1_3) := (Xbc BK101.out 3).trans rfl
      have hc4_ : w'.cell? ⟨gb101, 4, none⟩ = some (.int .i64 a1_4) := (Xbc BK101.out 4).trans rfl
      refine value_ (w1 := w') (v := .slice A1_2 l1_2.length c1_2) (by rfl) rfl ?_ ?_
      · go_simp
        (try simp only [i64_w])
        try rfl
      refine hK.out _ _ ⟨v103, v106, v109, v112, (by rw [ha.out]; exact putSel_upk 5 hb_ rfl rfl rfl), Q_HO1_2, Q_BK101, Q_HB, Q_HO104, Q_HO107, fun h0_ => absurd ((hoff 14 (by kernel_rfl)).symm.trans h0_) (by decide), fun h0_ => absurd ((hoff 15 (by kernel_rfl)).symm.trans h0_) (by decide)⟩
    refine steps_cons ?_ ?_
    · rintro b a w' ⟨v103, v106, v109, v112, ha, Q_HO1_2, Q_BK101, Q_HB, Q_HO104, Q_HO107, Q_HO110, Q_HO113⟩ hb_ hon hoff
      refine ⟨_, rfl, fun K hK => ?_⟩
      have e16 : a.tmps[16]? = some (.pointer (some ⟨gb101, 3, none⟩)) := by rw [ha]; exact (putSel_off rfl).trans rfl
      replace ha := Xam ha
      have HO1_2 := Xam Q_HO1_2
      have BK101 := Xam Q_BK101
      have HB := Xam Q_HB
      have hc0_ : w'.cell? ⟨gb101, 0, none⟩ = some (.int .i64 a1_0) := (Xbc BK101.out 0).trans rfl
      have hc1_ : w'.cell? ⟨gb101, 1, none⟩ = some (.int .i64 a1_1) := (Xbc BK101.out 1).trans rfl
      have hc2_ : w'.cell? ⟨gb101, 2, none⟩ = some (.slice A1_2 l1_2.length c1_2) := (Xbc BK101.out 2).trans rfl
      have hc3_ : w'.cell? ⟨gb101, 3, none⟩ = some (.slice A1_3 l1_3.length c1_3) := (Xbc BK101.out 3).trans rfl
      have hc4_ : w'.cell? ⟨gb101, 4, none⟩ = some (.int .i64 a1_4) := (Xbc BK101.out 4).trans rfl
      refine value_ (w1 := w') (v := .slice A1_3 l1_3.length c1_3) (by rfl) rfl ?_ ?_
      · go_simp
        (try simp only [i64_w])
        try rfl
      refine hK.out _ _ ⟨v103, v106, v109, v112, (by rw [ha.out]; exact putSel_upk 6 hb_ rfl rfl rfl), Q_HO1_2, Q_BK101, Q_HB, Q_HO104, fun h0_ _ => absurd ((hoff 13 (by kernel_rfl)).symm.trans h0_) (by decide), fun h0_ => absurd ((hoff 14 (by kernel_rfl)).symm.trans h0_) (by decide), fun h0_ => absurd ((hoff 15 (by kernel_rfl)).symm.trans h0_) (by decide)⟩
    refine steps_cons ?_ ?_
    · rintro b a w' ⟨v103, v106, v109, v112, ha, Q_HO1_2, Q_BK101, Q_HB, Q_HO104, Q_HO107, Q_HO110, Q_HO113⟩ hb_ hon hoff
      refine ⟨_, rfl, fun K hK => ?_⟩
      have e17 : a.tmps[17]? = some (.slice A1_3 l1_3.length c1_3) := by rw [ha]; exact putSel_on (e := (12, 17, .slice A1_3 l1_3.length c1_3)) 6 rfl rfl (hon 12 (by kernel_rfl)) rfl
      replace ha := Xam ha
      have HO1_2 := Xam Q_HO1_2
      have BK101 := Xam Q_BK101
      have HB := Xam Q_HB
      refine goes_ Try.func199 (by kernel_rfl) rfl #[.slice A1_3 l1_3.length c1_3] (by rfl) rfl rfl (by first | (simp only [List.map_toArray, List.map_cons, List.map_nil, Act.eval, Array.getD_eq_getD_getElem?, Option.getD_some, e17]; done) | (simp only [List.map_toArray, List.map_cons, List.map_nil, Act.eval, Array.getD_eq_getD_getElem?, Option.getD_some, e17]; rfl)) ?_
      with_reducible refine (impl_BytesToInts.calls k _ _ l1_3 t105 _ ?side1 ?side2 A3.out).mono ?_
      (case side1 => repeat (first | exact (Kd.C_below HR1_3.out HB.out) | (with_reducible refine Xca ?_ _) | (with_reducible refine Xcn ?_ _) | (with_reducible refine Xcd ?_)))
      (case side2 => exact HC1_3.out)
      rintro e w8 ⟨v106, rfl, ho0, hb⟩
      refine ⟨_, rfl, ?_⟩
      have n0_ := Xam (Kd.V_elder' (by (with_reducible repeat (first | apply Kd.V_alloc | apply Kd.V_drewN | apply Kd.V_drew)); exact HO1_2.out) (Kd.R_base ho0) hb)
      have n1_ := Xam (Kd.R_lower (Kd.R_newM (M := fun k_ => (w.heap.size ≤ k_)) ho0 (Xbs (by repeat (first | (with_reducible first | exact HB.out | apply Xba | apply Xbn | apply Xbd | refine Xbe ?_ GE101.out) | exact HB.out))) (fun k_ h_ => h_)) (Xbs (by repeat (first | (with_reducible first | exact HB.out | apply Xba | apply Xbn | apply Xbd | refine Xbe ?_ GE101.out) | exact HB.out))))
      have n2_ := Xam (Xbb (g := gb101) (o := .cells #[.int .i64 a1_0, .int .i64 a1_1, .slice A1_2 l1_2.length c1_2, .slice A1_3 l1_3.length c1_3, .int .i64 a1_4] 34 (0, 0)) (by (with_reducible repeat (first | refine Xkn ?_ _ | refine Xkd ?_ | refine Xka ?_ _)); exact BK101.out) hb)
      have n3_ := Xam (Xbt (by repeat (first | (with_reducible first | exact HB.out | apply Xba | apply Xbn | apply Xbd | refine Xbe ?_ GE101.out) | exact HB.out)) hb)
      have z_HO104 := fun (h0_ : b 8 = true) (h1_ : b 14 = false) => (show Kd.R (Kd.int .i64) 3 w8 w.heap.size (fun k_ => (w.heap.size ≤ k_)) v103 y102 from by first | exact (Kd.R_elder' (by (with_reducible repeat (first | apply Xra | apply Xrn | apply Xrd)); exact (Q_HO104 h0_ h1_)) (Kd.R_base ho0) hb) | exact Kd.R_mono (Kd.R_elder' (by (with_reducible repeat (first | apply Xra | apply Xrn | apply Xrd)); exact (Q_HO104 h0_ h1_)) (Kd.R_base ho0) hb) (fun _ h_ => by first | trivial | exact h_ | exact h_.1))
      clear HO1_2
      clear BK101
      clear HB
      have HO1_2 := n0_
      have HO107 := n1_
      have BK101 := n2_
      have HB := n3_
      clear n0_ n1_ n2_ n3_
      (try clear hb)
      (try clear hb2)
      (try clear hk)
      (try clear hi)
      (try clear ho0)
      refine hK.out _ _ ⟨v103, v106, v109, v112, (by rw [ha.out]; exact putSel_upk 7 hb_ rfl rfl rfl), (by (with_reducible repeat (first | apply Kd.V_alloc | apply Kd.V_drewN | apply Kd.V_drew)); exact Kd.V_mono HO1_2.out (fun _ hk => by first | exact ⟨hk.1.1, ⟨hk.2, hk.1.2⟩⟩ | grind)), (by (with_reducible repeat (first | refine Xkn ?_ _ | refine Xkd ?_ | refine Xka ?_ _)); exact BK101.out), (by repeat (first | (with_reducible first | exact HB.out | apply Xba | apply Xbn | apply Xbd | refine Xbe ?_ GE101.out) | exact HB.out)), z_HO104, fun _ _ => (by (with_reducible repeat (first | apply Xra | apply Xrn | apply Xrd)); exact Kd.R_mono HO107.out (fun _ hk => by first | exact hk.1 | grind)), fun h0_ => absurd ((hoff 14 (by kernel_rfl)).symm.trans h0_) (by decide), fun h0_ => absurd ((hoff 15 (by kernel_rfl)).symm.trans h0_) (by decide)⟩
    refine steps_cons ?_ ?_
    · rintro b a w' ⟨v103, v106, v109, v112, ha, Q_HO1_2, Q_BK101, Q_HB, Q_HO104, Q_HO107, Q_HO110, Q_HO113⟩ hb_ hon hoff
      refine ⟨_, rfl, fun K hK => ?_⟩
      have e13 : a.tmps[13]? = some (v103) := by rw [ha]; exact putSel_on (e := (8, 13, v103)) 4 rfl rfl (hon 8 (by kernel_rfl)) rfl
      have e15 : a.tmps[15]? = some (.slice A1_2 l1_2.length c1_2) := by rw [ha]; exact putSel_on (e := (10, 15, .slice A1_2 l1_2.length c1_2)) 5 rfl rfl (hon 10 (by kernel_rfl)) rfl
      have e18 : a.tmps[18]? = some (v106) := by rw [ha]; exact putSel_on (e := (13, 18, v106)) 7 rfl rfl (hon 13 (by kernel_rfl)) rfl
      replace ha := Xam ha
      have HO1_2 := Xam Q_HO1_2
      have BK101 := Xam Q_BK101
      have HB := Xam Q_HB
      have HO104 := Xam (Q_HO104 (hon 8 (by kernel_rfl)) hb_)
      have HO107 := Xam (Q_HO107 (hon 13 (by kernel_rfl)) hb_)
      obtain ⟨Ao12, co12, eo12⟩ := Kd.R_slice HO104.out
      (first | subst eo12 | (injection eo12 with f1_ f2_ f3_; have f4_ := f1_.symm; have f5_ := f3_.symm; clear f1_ f2_ f3_; subst f4_; subst f5_))
      obtain ⟨Ao13, co13, eo13⟩ := Kd.R_slice HO107.out
      (first | subst eo13 | (injection eo13 with f1_ f2_ f3_; have f4_ := f1_.symm; have f5_ := f3_.symm; clear f1_ f2_ f3_; subst f4_; subst f5_))
      refine Kd.N_lit_step (Kd.slice 3 (Kd.int .i64)) _ 25 ?hg (N' := 19) ?hd (xs := ([y102, l1_2, t105] : List (List Int))) (inner := [.slice Ao12 y102.length co12, .slice A1_2 l1_2.length c1_2, .slice Ao13 t105.length co13]) (ok := (fun k_ => (P1_2_ k_ ∨ w.heap.size ≤ k_) ∧ k_ ≠ gb101)) (okp := (fun k_ => (P1_2_ k_ ∨ w.heap.size ≤ k_) ∧ k_ ≠ gb101)) ?hr ?hp (fun _ hk => by first | exact hk | grind) ((show ∀ k_, w'.heap.size ≤ k_ → (fun k_ => (P1_2_ k_ ∨ w.heap.size ≤ k_) ∧ k_ ≠ gb101) k_ from fun k_ hk => ⟨(.inr (Nat.le_trans (Xbs (by repeat (first | (with_reducible first | exact HB.out | apply Xba | apply Xbn | apply Xbd | refine Xbe ?_ GE101.out) | exact HB.out))) hk)), Kd.freshB (g := gb101) (o := .cells #[.int .i64 a1_0, .int .i64 a1_1, .slice A1_2 l1_2.length c1_2, .slice A1_3 l1_3.length c1_3, .int .i64 a1_4] 34 (0, 0)) (by (with_reducible repeat (first | refine Xkn ?_ _ | refine Xkd ?_ | refine Xka ?_ _)); exact BK101.out) k_ hk⟩) _ (Nat.le_refl _)) (Below.refl _ _) (Nat.le_refl _) (by simp) ?_; (case hd => rfl); (case hg => rfl); (case hr => first | (go_simp; done) | (go_simp; rfl)); (case hp => exact (Reps.one (show Kd.FK (Kd.slice 3 (Kd.int .i64)) _ _ y102 [.slice Ao12 y102.length co12] from (Kd.FK_slice_mk (Kd.R_reads' (Kd.R_mono (ok' := (fun k_ => (P1_2_ k_ ∨ w.heap.size ≤ k_) ∧ k_ ≠ gb101)) (Kd.R_types (HO104.out) BK101.out (by decide)) (fun k_ hk => by first | exact ⟨(.inr (hk.1.1)), hk.2⟩ | grind))).2.1 (Kd.R_F (Kd.R_mono (ok' := (fun k_ => (P1_2_ k_ ∨ w.heap.size ≤ k_) ∧ k_ ≠ gb101)) (Kd.R_types (HO104.out) BK101.out (by decide)) (fun k_ hk => by first | exact ⟨(.inr (hk.1.1)), hk.2⟩ | grind))))) (Reps.one (show Kd.FK (Kd.slice 3 (Kd.int .i64)) _ _ l1_2 [.slice A1_2 l1_2.length c1_2] from (Kd.FK_slice_mk (Kd.V_reads' (Kd.V_mono (ok' := (fun k_ => (P1_2_ k_ ∨ w.heap.size ≤ k_) ∧ k_ ≠ gb101)) (HO1_2.out) (fun k_ hk => by first | exact ⟨hk.1, hk.2.2.2⟩ | grind))).2.1 (Kd.V_F (Kd.V_mono (ok' := (fun k_ => (P1_2_ k_ ∨ w.heap.size ≤ k_) ∧ k_ ≠ gb101)) (HO1_2.out) (fun k_ hk => by first | exact ⟨hk.1, hk.2.2.2⟩ | grind))))) (Reps.one (show Kd.FK (Kd.slice 3 (Kd.int .i64)) _ _ t105 [.slice Ao13 t105.length co13] from (Kd.FK_slice_mk (Kd.R_reads' (Kd.R_mono (ok' := (fun k_ => (P1_2_ k_ ∨ w.heap.size ≤ k_) ∧ k_ ≠ gb101)) (Kd.R_types (HO107.out) BK101.out (by decide)) (fun k_ hk => by first | exact ⟨(.inr (hk.1.1)), hk.2⟩ | grind))).2.1 (Kd.R_F (Kd.R_mono (ok' := (fun k_ => (P1_2_ k_ ∨ w.heap.size ≤ k_) ∧ k_ ≠ gb101)) (Kd.R_types (HO107.out) BK101.out (by decide)) (fun k_ hk => by first | exact ⟨(.inr (hk.1.1)), hk.2⟩ | grind))))) (Reps.none _ _)))))
      intro v109 w14 ho15 hb hg_ hnew_
      clear hg_ hnew_
      (first | rw [← Ny108.out] at ho15 | (simp only [Int.reduceToNat] at ho15; rw [← Ny108.out] at ho15))
      have n0_ := Xam (Kd.V_elder' (by (with_reducible repeat (first | apply Kd.V_alloc | apply Kd.V_drewN | apply Kd.V_drew)); exact HO1_2.out) (Kd.N_base ho15) hb)
      have n1_ := Xam (Kd.N_lower ho15 (Xbs (by repeat (first | (with_reducible first | exact HB.out | apply Xba | apply Xbn | apply Xbd | refine Xbe ?_ GE101.out) | exact HB.out))))
      have n2_ := Xam (Xbb (g := gb101) (o := .cells #[.int .i64 a1_0, .int .i64 a1_1, .slice A1_2 l1_2.length c1_2, .slice A1_3 l1_3.length c1_3, .int .i64 a1_4] 34 (0, 0)) (by (with_reducible repeat (first | refine Xkn ?_ _ | refine Xkd ?_ | refine Xka ?_ _)); exact BK101.out) hb)
      have n3_ := Xam (Xbt (by repeat (first | (with_reducible first | exact HB.out | apply Xba | apply Xbn | apply Xbd | refine Xbe ?_ GE101.out) | exact HB.out)) hb)
      clear HO1_2
      clear BK101
      clear HB
      clear HO104
      clear HO107
      have HO1_2 := n0_
      have HO110 := n1_
      have BK101 := n2_
      have HB := n3_
      clear n0_ n1_ n2_ n3_
      clear hb ho15
      refine hK.out _ _ ⟨.slice Ao12 y102.length co12, .slice Ao13 t105.length co13, v109, v112, (by rw [ha.out]; exact putSel_upk 8 hb_ rfl rfl rfl), (by (with_reducible repeat (first | apply Kd.V_alloc | apply Kd.V_drewN | apply Kd.V_drew)); exact Kd.V_mono HO1_2.out (fun _ hk => by first | exact ⟨hk.1.1, ⟨hk.2, hk.1.2.2.2⟩⟩ | grind)), (by (with_reducible repeat (first | refine Xkn ?_ _ | refine Xkd ?_ | refine Xka ?_ _)); exact BK101.out), (by repeat (first | (with_reducible first | exact HB.out | apply Xba | apply Xbn | apply Xbd | refine Xbe ?_ GE101.out) | exact HB.out)), fun _ h1_ => absurd ((up_self b 14).symm.trans h1_) (by decide), fun _ h1_ => absurd ((up_self b 14).symm.trans h1_) (by decide), fun _ => (by (with_reducible repeat (first | apply Kd.N_alloc | apply Kd.N_drewN | apply Kd.N_drew)); exact HO110.out), fun h0_ => absurd ((hoff 15 (by kernel_rfl)).symm.trans h0_) (by decide)⟩
    refine steps_cons ?_ ?_
    · rintro b a w' ⟨v103, v106, v109, v112, ha, Q_HO1_2, Q_BK101, Q_HB, Q_HO104, Q_HO107, Q_HO110, Q_HO113⟩ hb_ hon hoff
      refine ⟨_, rfl, fun K hK => ?_⟩
      have e19 : a.tmps[19]? = some (v109) := by rw [ha]; exact putSel_on (e := (14, 19, v109)) 8 rfl rfl (hon 14 (by kernel_rfl)) rfl
      replace ha := Xam ha
      have HO1_2 := Xam Q_HO1_2
      have BK101 := Xam Q_BK101
      have HB := Xam Q_HB
      have HO110 := Xam (Q_HO110 (hon 14 (by kernel_rfl)))
      obtain ⟨Ao16, co16, eo16⟩ := Kd.N_slice HO110.out
      (first | subst eo16 | (injection eo16 with f1_ f2_ f3_; have f4_ := f1_.symm; have f5_ := f3_.symm; clear f1_ f2_ f3_; subst f4_; subst f5_))
      refine goes_ Try.func192 (by kernel_rfl) rfl #[.slice Ao16 y108.length co16] (by rfl) rfl rfl (by first | (simp only [List.map_toArray, List.map_cons, List.map_nil, Act.eval, Array.getD_eq_getD_getElem?, Option.getD_some, e19]; done) | (simp only [List.map_toArray, List.map_cons, List.map_nil, Act.eval, Array.getD_eq_getD_getElem?, Option.getD_some, e19]; rfl)) ?_
      with_reducible refine (slices_Concat_int.calls k _ _ y108 t111 _ ?side1 ?side2 A4.out).mono ?_
      (case side1 => repeat (first | exact (Kd.N_reads' HO110.out).2.2 | (with_reducible refine Xca ?_ _) | (with_reducible refine Xcn ?_ _) | (with_reducible refine Xcd ?_)))
      (case side2 => exact (Kd.N_reads' HO110.out).2.1)
      rintro e w17 ⟨v112, rfl, ho0, hb⟩
      refine ⟨_, rfl, ?_⟩
      have n0_ := Xam (Kd.V_elder' (by (with_reducible repeat (first | apply Kd.V_alloc | apply Kd.V_drewN | apply Kd.V_drew)); exact HO1_2.out) (Kd.R_base ho0) hb)
      have n1_ := Xam (Kd.N_elder' (by (with_reducible repeat (first | apply Kd.N_alloc | apply Kd.N_drewN | apply Kd.N_drew)); exact HO110.out) (Kd.R_base ho0) hb)
      have n2_ := Xam (Kd.R_lower (Kd.R_newM (M := fun k_ => (w.heap.size ≤ k_)) ho0 (Xbs (by repeat (first | (with_reducible first | exact HB.out | apply Xba | apply Xbn | apply Xbd | refine Xbe ?_ GE101.out) | exact HB.out))) (fun k_ h_ => h_)) (Xbs (by repeat (first | (with_reducible first | exact HB.out | apply Xba | apply Xbn | apply Xbd | refine Xbe ?_ GE101.out) | exact HB.out))))
      have n3_ := Xam (Xbb (g := gb101) (o := .cells #[.int .i64 a1_0, .int .i64 a1_1, .slice A1_2 l1_2.length c1_2, .slice A1_3 l1_3.length c1_3, .int .i64 a1_4] 34 (0, 0)) (by (with_reducible repeat (first | refine Xkn ?_ _ | refine Xkd ?_ | refine Xka ?_ _)); exact BK101.out) hb)
      have n4_ := Xam (Xbt (by repeat (first | (with_reducible first | exact HB.out | apply Xba | apply Xbn | apply Xbd | refine Xbe ?_ GE101.out) | exact HB.out)) hb)
      clear HO1_2
      clear HO110
      clear BK101
      clear HB
      have HO1_2 := n0_
      have HO110 := n1_
      have HO113 := n2_
      have BK101 := n3_
      have HB := n4_
      clear n0_ n1_ n2_ n3_ n4_
      (try clear hb)
      (try clear hb2)
      (try clear hk)
      (try clear hi)
      (try clear ho0)
      refine hK.out _ _ ⟨v103, v106, .slice Ao16 y108.length co16, v112, (by rw [ha.out]; exact putSel_upk 9 hb_ rfl rfl rfl), (by (with_reducible repeat (first | apply Kd.V_alloc | apply Kd.V_drewN | apply Kd.V_drew)); exact Kd.V_mono HO1_2.out (fun _ hk => by first | exact ⟨hk.1.1, ⟨hk.1.2.1, ⟨hk.2, hk.1.2.2⟩⟩⟩ | grind)), (by (with_reducible repeat (first | refine Xkn ?_ _ | refine Xkd ?_ | refine Xka ?_ _)); exact BK101.out), (by repeat (first | (with_reducible first | exact HB.out | apply Xba | apply Xbn | apply Xbd | refine Xbe ?_ GE101.out) | exact HB.out)), fun _ h1_ => absurd ((hon 14 (by kernel_rfl)).symm.trans h1_) (by decide), fun _ h1_ => absurd ((hon 14 (by kernel_rfl)).symm.trans h1_) (by decide), fun _ => (by (with_reducible repeat (first | apply Kd.N_alloc | apply Kd.N_drewN | apply Kd.N_drew)); exact Kd.N_mono HO110.out (fun _ hk => by first | exact ⟨hk.1.1, ⟨hk.2, hk.1.2⟩⟩ | grind)), fun _ => (by (with_reducible repeat (first | apply Xra | apply Xrn | apply Xrd)); exact Kd.R_mono HO113.out (fun _ hk => by first | exact hk.1 | grind))⟩
    refine steps_cons ?_ ?_
    · rintro b a w' ⟨v103, v106, v109, v112, ha, Q_HO1_2, Q_BK101, Q_HB, Q_HO104, Q_HO107, Q_HO110, Q_HO113⟩ hb_ hon hoff
      refine ⟨_, rfl, fun K hK => ?_⟩
      have e5 : a.tmps[5]? = some (.int .i64 a0) := by rw [ha]; exact (putSel_off rfl).trans rfl
      have e20 : a.tmps[20]? = some (v112) := by rw [ha]; exact putSel_on (e := (15, 20, v112)) 9 rfl rfl (hon 15 (by kernel_rfl)) rfl
      replace ha := Xam ha
      have HO1_2 := Xam Q_HO1_2
      have BK101 := Xam Q_BK101
      have HB := Xam Q_HB
      have HO110 := Xam (Q_HO110 (hon 14 (by kernel_rfl)))
      have HO113 := Xam (Q_HO113 (hon 15 (by kernel_rfl)))
      obtain ⟨Ao18, co18, eo18⟩ := Kd.R_slice HO113.out
      (first | subst eo18 | (injection eo18 with f1_ f2_ f3_; have f4_ := f1_.symm; have f5_ := f3_.symm; clear f1_ f2_ f3_; subst f4_; subst f5_))
      refine goes_ Try.func131 (by kernel_rfl) rfl #[.int .i64 a0, .slice Ao18 t111.length co18] (by rfl) rfl rfl (by first | (simp only [List.map_toArray, List.map_cons, List.map_nil, Act.eval, Array.getD_eq_getD_getElem?, Option.getD_some, e5, e20]; done) | (simp only [List.map_toArray, List.map_cons, List.map_nil, Act.eval, Array.getD_eq_getD_getElem?, Option.getD_some, e5, e20]; rfl)) ?_
      with_reducible refine (impl_KeyedHash.calls k a0 (fun k_ => some k_ = (.slice Ao18 t111.length co18 : Value).ownBlock) _ _ t111 t114 _ ?side1 A5.out).mono ?_
      (case side1 => exact Kd.R_V (Kd.R_tight rfl (Kd.R_types (Kd.R_apart' (HO113.out) (Kd.N_typed HO110.out) (by decide)) BK101.out (by decide))))
      rintro e w19 ⟨rfl, hb⟩
      refine ⟨_, rfl, ?_⟩
      have n0_ := Xam (Kd.V_below (by (with_reducible repeat (first | apply Kd.V_alloc | apply Kd.V_drewN | apply Kd.V_drew)); exact HO1_2.out) hb)
      have n1_ := Xam (Kd.N_below (by (with_reducible repeat (first | apply Kd.N_alloc | apply Kd.N_drewN | apply Kd.N_drew)); exact HO110.out) hb)
      have n2_ := Xam (Kd.R_below (by (with_reducible repeat (first | apply Xra | apply Xrn | apply Xrd)); exact HO113.out) hb)
      have n3_ := Xam (Xbb (g := gb101) (o := .cells #[.int .i64 a1_0, .int .i64 a1_1, .slice A1_2 l1_2.length c1_2, .slice A1_3 l1_3.length c1_3, .int .i64 a1_4] 34 (0, 0)) (by (with_reducible repeat (first | refine Xkn ?_ _ | refine Xkd ?_ | refine Xka ?_ _)); exact BK101.out) hb)
      have n4_ := Xam (Xbt (by repeat (first | (with_reducible first | exact HB.out | apply Xba | apply Xbn | apply Xbd | refine Xbe ?_ GE101.out) | exact HB.out)) hb)
      clear HO1_2
      clear HO110
      clear HO113
      clear BK101
      clear HB
      have HO1_2 := n0_
      have HO110 := n1_
      have HO113 := n2_
      have BK101 := n3_
      have HB := n4_
      clear n0_ n1_ n2_ n3_ n4_
      (try clear hb)
      (try clear hb2)
      (try clear hk)
      (try clear hi)
      refine hK.out _ _ ⟨v103, v106, v109, .slice Ao18 t111.length co18, (by rw [ha.out]; exact putSel_upk 10 hb_ rfl rfl rfl), (by (with_reducible repeat (first | apply Kd.V_alloc | apply Kd.V_drewN | apply Kd.V_drew)); exact HO1_2.out), (by (with_reducible repeat (first | refine Xkn ?_ _ | refine Xkd ?_ | refine Xka ?_ _)); exact BK101.out), (by repeat (first | (with_reducible first | exact HB.out | apply Xba | apply Xbn | apply Xbd | refine Xbe ?_ GE101.out) | exact HB.out)), fun _ h1_ => absurd ((hon 14 (by kernel_rfl)).symm.trans h1_) (by decide), fun _ h1_ => absurd ((hon 14 (by kernel_rfl)).symm.trans h1_) (by decide), fun _ => (by (with_reducible repeat (first | apply Kd.N_alloc | apply Kd.N_drewN | apply Kd.N_drew)); exact HO110.out), fun _ => (by (with_reducible repeat (first | apply Xra | apply Xrn | apply Xrd)); exact HO113.out)⟩
    refine steps_cons ?_ ?_
    · rintro b a w' ⟨v103, v106, v109, v112, ha, Q_HO1_2, Q_BK101, Q_HB, Q_HO104, Q_HO107, Q_HO110, Q_HO113⟩ hb_ hon hoff
      refine ⟨_, rfl, fun K hK => ?_⟩
      have e21 : a.tmps[21]? = some (.int .i64 t114) := by rw [ha]; exact putSel_on (e := (16, 21, .int .i64 t114)) 10 rfl rfl (hon 16 (by kernel_rfl)) rfl
      replace ha := Xam ha
      have HO1_2 := Xam Q_HO1_2
      have BK101 := Xam Q_BK101
      have HB := Xam Q_HB
      have HO110 := Xam (Q_HO110 (hon 14 (by kernel_rfl)))
      have HO113 := Xam (Q_HO113 (hon 15 (by kernel_rfl)))
      refine value_ (w1 := w') (v := .int .i64 t114) (by rfl) rfl ?_ ?_
      · go_simp
        (try simp only [i64_w])
        try rfl
      refine hK.out _ _ ⟨v103, v106, v109, v112, (by rw [ha.out]; exact putSel_upk 11 hb_ rfl rfl rfl), Q_HO1_2, Q_BK101, Q_HB, fun _ h1_ => absurd ((hon 14 (by kernel_rfl)).symm.trans h1_) (by decide), fun _ h1_ => absurd ((hon 14 (by kernel_rfl)).symm.trans h1_) (by decide), Q_HO110, Q_HO113⟩
    exact steps_nil
  rintro b a w19 hall ⟨v103, v106, v109, v112, ha, Q_HO1_2, Q_BK101, Q_HB, Q_HO104, Q_HO107, Q_HO110, Q_HO113⟩
  clear BK101 HB HO1_2
  have hb2_ := hall 2 (by kernel_rfl)
  have hb4_ := hall 4 (by kernel_rfl)
  have hb6_ := hall 6 (by kernel_rfl)
  have hb7_ := hall 7 (by kernel_rfl)
  have hb8_ := hall 8 (by kernel_rfl)
  have hb10_ := hall 10 (by kernel_rfl)
  have hb12_ := hall 12 (by kernel_rfl)
  have hb13_ := hall 13 (by kernel_rfl)
  have hb14_ := hall 14 (by kernel_rfl)
  have hb15_ := hall 15 (by kernel_rfl)
  have hb16_ := hall 16 (by kernel_rfl)
  have hb17_ := hall 17 (by kernel_rfl)
  subst ha
  simp only [putSel, hb2_, hb4_, hb6_, hb7_, hb8_, hb10_, hb12_, hb13_, hb14_, hb15_, hb16_, hb17_, if_true, Act.put, List.setIfInBounds_toArray, List.set_cons_zero, List.set_cons_succ]
  have HO1_2 := Xam Q_HO1_2
  clear Q_HO1_2
  have BK101 := Xam Q_BK101
  clear Q_BK101
  have HB := Xam Q_HB
  clear Q_HB
  clear Q_HO104
  clear Q_HO107
  have HO110 := Xam (Q_HO110 hb14_)
  clear Q_HO110
  have HO113 := Xam (Q_HO113 hb15_)
  clear Q_HO113
  clear hall hb2_ hb4_ hb6_ hb7_ hb8_ hb10_ hb12_ hb13_ hb14_ hb15_ hb16_ hb17_
  try go_wp2
  go_ret
  exact ⟨by first | rfl | (simp [errW_none, errW_some] <;> rfl) | (simp [*, errW_none, errW_some] <;> rfl), by repeat (first | (with_reducible first | exact HB.out | apply Xba | apply Xbn | apply Xbd | refine Xbe ?_ GE101.out) | exact HB.out)⟩

/-! ### impl_IsSelection_1: function 203 -/
def impl_IsSelection_1.f (a0 : Int) : Option (Bool) := (impl_InRange.f a0 0 1).bind fun t101 => (some (!t101))
set_option maxHeartbeats 8000000 in
set_option maxRecDepth 100000 in
theorem impl_IsSelection_1.calls (a0 : Int) (r : Bool) (w : World) (h : impl_IsSelection_1.f a0 = some r) :
    Calls Try.prog 203 #[.int .i64 a0] w fun e w' => e = .returned (.bool r) ∧ Drawn0 w w' := by
  have H : ((impl_InRange.f a0 0 1).bind fun t101 => (some (!t101))) = some r := h
  clear h
  replace H := Option.bind_eq_some_iff.mp H
  obtain ⟨t101, A20, H⟩ := H
  replace H : (some (!t101)) = some r := H
  have A2 := Xam A20
  clear A20
  obtain rfl := Option.some.inj H
  go_enter Try.func203, Try.ntmps203
  go_wp2_with (first | ((with_reducible refine gate_callee (f := 128) rfl ?_); refine goesL_ (some 4) rfl rfl Try.func128 (by kernel_rfl) rfl #[.int .i64 a0, .int .i64 0, .int .i64 1] rfl (by (try simp only [List.map_toArray, List.map_cons, List.map_nil]); first | done | rfl | (simp only [List.length_drop, List.length_take]; rfl)) ?_; (with_reducible refine (impl_InRange.calls a0 0 1 t101 _ A2.out).mono ?_); rintro e w' ⟨rfl, ⟨nd, rfl⟩⟩; refine ⟨_, rfl, ?_⟩))
  go_ret
  exact ⟨by first | rfl | (simp; done) | (simp [*]; done), by repeat (first | exact Drawn0.refl _ | apply Drawn0.step)⟩

/-! ### slices_IndexFunc_int_at_impl_IsSelection_1: function 219 -/
def slices_IndexFunc_int_at_impl_IsSelection_1.l0 : Nat → List Int → Int → Int → Option (Int)
  | 0, _, _, _ => none
  | k + 1, x0, x7, x8 => if x8 < x7 then (if 0 ≤ x8 then (if x8 < (x0.length : Int) then ((impl_IsSelection_1.f (rd x0 x8)).bind fun t102 => (if t102 = true then (some x8) else (slices_IndexFunc_int_at_impl_IsSelection_1.l0 k x0 x7 (wrap64 (x8 + 1))))) else (none)) else (none)) else (some (-1))
def slices_IndexFunc_int_at_impl_IsSelection_1.f (k : Nat) (l0 : List Int)  : Option (Int) := slices_IndexFunc_int_at_impl_IsSelection_1.l0 k l0 (l0.length : Int) 0
theorem slices_IndexFunc_int_at_impl_IsSelection_1.mono_l : ∀ k, (∀ y0 y1 y2, LeO (slices_IndexFunc_int_at_impl_IsSelection_1.l0 k y0 y1 y2) (slices_IndexFunc_int_at_impl_IsSelection_1.l0 (k + 1) y0 y1 y2))
  | 0 => fun _ _ _ r h => by simp [slices_IndexFunc_int_at_impl_IsSelection_1.l0] at h
  | k + 1 => by
    have ih0 := slices_IndexFunc_int_at_impl_IsSelection_1.mono_l k
    · intro y0 y1 y2
      unfold slices_IndexFunc_int_at_impl_IsSelection_1.l0
      repeat' first
      | (with_reducible exact ih0 _ _ _)
      | (with_reducible exact LeO.refl _)
      | (with_reducible exact LeO.none _)
      | (with_reducible refine LeO.ite ?_ ?_)
      | (with_reducible refine LeO.bind ?_ (fun _ => ?_))
      | exact ih0 _ _ _
      | exact LeO.none _
      | refine LeO.ite ?_ ?_
      | refine LeO.bind ?_ (fun _ => ?_)
theorem slices_IndexFunc_int_at_impl_IsSelection_1.mono : ∀ a0 k, LeO (slices_IndexFunc_int_at_impl_IsSelection_1.f k a0) (slices_IndexFunc_int_at_impl_IsSelection_1.f (k + 1) a0) := by
  intro a0 k
  have ih0 := slices_IndexFunc_int_at_impl_IsSelection_1.mono_l k
  unfold slices_IndexFunc_int_at_impl_IsSelection_1.f
  repeat' first
      | (with_reducible exact ih0 _ _ _)
      | (with_reducible exact LeO.refl _)
      | (with_reducible exact LeO.none _)
      | (with_reducible refine LeO.ite ?_ ?_)
      | (with_reducible refine LeO.bind ?_ (fun _ => ?_))
      | exact ih0 _ _ _
      | exact LeO.none _
      | refine LeO.ite ?_ ?_
      | refine LeO.bind ?_ (fun _ => ?_)
set_option maxHeartbeats 8000000 in
set_option maxRecDepth 100000 in
theorem slices_IndexFunc_int_at_impl_IsSelection_1.calls (k : Nat) (A0 : Option Addr) (c0 : Nat) (l0 : List Int)  (r : Int) (w : World) (hr0 : Kd.C (Kd.int .i64) w A0 l0.length l0) (hc0 : l0.length ≤ c0) (h : slices_IndexFunc_int_at_impl_IsSelection_1.f k l0 = some r) :
    Calls Try.prog 219 #[.slice A0 l0.length c0, .func (.func 203) #[] #[]] w fun e w' => e = .returned (.int .i64 r) ∧ Drawn0 w w' := by
  have HR0 := Xam hr0
  have HC0 := Xam hc0
  clear hr0 hc0
  have H : (slices_IndexFunc_int_at_impl_IsSelection_1.l0 k l0 (l0.length : Int) 0) = some r := h
  clear h
  have H' := Xam H
  clear H
  go_enter Try.func219, Try.ntmps219
  go_wp2
  go_loopg [8] k (fun kq v8 w' => ∃ (x8_1 : Int), v8 = .int .i64 x8_1 ∧ Aside0 (slices_IndexFunc_int_at_impl_IsSelection_1.l0 kq l0 (l0.length : Int) x8_1 = some r) ∧ Aside0 (kq ≤ k) ∧ Drawn0 w w')
  case atStart => exact ⟨(0), (by first | rfl | (simp; done) | (simp [*]; done)), H', ⟨Nat.le_refl _⟩, by repeat (first | exact Drawn0.refl _ | apply Drawn0.step)⟩
  case round =>
    clear H'
    try clear c2
    try clear p2
    obtain ⟨x8_1, rfl, HA, HK1, ⟨m1, rfl⟩⟩ := hrel
    cases gk with
    | zero => exact absurd HA.out (by simp [slices_IndexFunc_int_at_impl_IsSelection_1.l0])
    | succ k1 =>
      have H := HA.out
      clear HA
      simp only [slices_IndexFunc_int_at_impl_IsSelection_1.l0] at H
      by_cases c3 : x8_1 < (l0.length : Int)
      · rw [if_pos c3] at H
        have c3b0 : decide (x8_1 < (l0.length : Int)) = true := decide_eq_true c3
        clear c3
        by_cases c4 : 0 ≤ x8_1
        · rw [if_pos c4] at H
          have c4b0 : decide (0 ≤ x8_1) = true := decide_eq_true c4
          clear c4
          by_cases c5 : x8_1 < (l0.length : Int)
          · rw [if_pos c5] at H
            have c5b0 : decide (x8_1 < (l0.length : Int)) = true := decide_eq_true c5
            clear c5
            replace H := Option.bind_eq_some_iff.mp H
            obtain ⟨t102, A60, H⟩ := H
            replace H : (if t102 = true then (some x8_1) else (slices_IndexFunc_int_at_impl_IsSelection_1.l0 k1 l0 (l0.length : Int) (wrap64 (x8_1 + 1)))) = some r := H
            have A6 := Xam A60
            clear A60
            by_cases c7 : t102 = true
            · subst c7
              have H1 : (some x8_1) = some r := by rw [if_pos rfl] at H; exact H
              clear H
              have H := H1
              clear H1
              obtain rfl := Option.some.inj H
              have p101 : 0 ≤ (x8_1 : Int) := of_decide_eq_true (by first | (with_reducible assumption) | assumption)
              have q101 : x8_1 < (l0.length : Int) := of_decide_eq_true (by first | (with_reducible assumption) | assumption)
              obtain ⟨ad101, e101, hx101_0⟩ := Kd.at_int HR0.out x8_1 p101 q101
              cases e101
              replace p101 := eq_true p101
              replace q101 := eq_true q101
              go_wp2_with (first | ((with_reducible refine gate_slot (t := 11) rfl ?_); refine goesT_ (some 16) rfl rfl rfl Try.func203 (by kernel_rfl) rfl #[.int .i64 (rd l0 x8_1)] rfl (by (try simp only [List.map_toArray, List.map_cons, List.map_nil]); first | done | rfl | (simp only [List.length_drop, List.length_take]; rfl)) ?_; (with_reducible refine (impl_IsSelection_1.calls (rd l0 x8_1) true _ A6.out).mono ?_); rintro e w' ⟨rfl, ⟨nd, rfl⟩⟩; refine ⟨_, rfl, ?_⟩))
              go_ret
              exact ⟨by first | rfl | (simp; done) | (simp [*]; done), by repeat (first | exact Drawn0.refl _ | apply Drawn0.step)⟩
            · replace c7 := Bool.eq_false_iff.mpr c7
              subst c7
              have H1 : (slices_IndexFunc_int_at_impl_IsSelection_1.l0 k1 l0 (l0.length : Int) (wrap64 (x8_1 + 1))) = some r := by rw [if_neg (show ¬ (false = true) by decide)] at H; exact H
              clear H
              have H := H1
              clear H1
              have H' := Xam H
              clear H
              have p101 : 0 ≤ (x8_1 : Int) := of_decide_eq_true (by first | (with_reducible assumption) | assumption)
              have q101 : x8_1 < (l0.length : Int) := of_decide_eq_true (by first | (with_reducible assumption) | assumption)
              obtain ⟨ad101, e101, hx101_0⟩ := Kd.at_int HR0.out x8_1 p101 q101
              cases e101
              replace p101 := eq_true p101
              replace q101 := eq_true q101
              go_wp2_with (first | ((with_reducible refine gate_slot (t := 11) rfl ?_); refine goesT_ (some 16) rfl rfl rfl Try.func203 (by kernel_rfl) rfl #[.int .i64 (rd l0 x8_1)] rfl (by (try simp only [List.map_toArray, List.map_cons, List.map_nil]); first | done | rfl | (simp only [List.length_drop, List.length_take]; rfl)) ?_; (with_reducible refine (impl_IsSelection_1.calls (rd l0 x8_1) false _ A6.out).mono ?_); rintro e w' ⟨rfl, ⟨nd, rfl⟩⟩; refine ⟨_, rfl, ?_⟩))
              go_roundg k1
              case measure => have := HK1.out; omega
              case rel => exact ⟨(wrap64 (x8_1 + 1)), (by first | rfl | (simp; done) | (simp [*]; done)), H', ⟨by have := HK1.out; omega⟩, by repeat (first | exact Drawn0.refl _ | apply Drawn0.step)⟩
          · rw [if_neg c5] at H
            exact absurd H (by simp)
        · rw [if_neg c4] at H
          exact absurd H (by simp)
      · rw [if_neg c3] at H
        have c3b0 : decide (x8_1 < (l0.length : Int)) = false := decide_eq_false c3
        clear c3
        obtain rfl := Option.some.inj H
        go_wp2
        go_ret
        exact ⟨by first | rfl | (simp; done) | (simp [*]; done), by repeat (first | exact Drawn0.refl _ | apply Drawn0.step)⟩

/-! ### slices_ContainsFunc_int_at_impl_IsSelection_1: function 202 -/
def slices_ContainsFunc_int_at_impl_IsSelection_1.f (k : Nat) (l0 : List Int)  : Option (Bool) := (slices_IndexFunc_int_at_impl_IsSelection_1.f k l0).bind fun t103 => (some (decide (t103 ≥ 0)))
theorem slices_ContainsFunc_int_at_impl_IsSelection_1.mono : ∀ a0 k, LeO (slices_ContainsFunc_int_at_impl_IsSelection_1.f k a0) (slices_ContainsFunc_int_at_impl_IsSelection_1.f (k + 1) a0) := by
  intro a0 k
  unfold slices_ContainsFunc_int_at_impl_IsSelection_1.f
  repeat' first
      | (with_reducible exact slices_IndexFunc_int_at_impl_IsSelection_1.mono _ _)
      | (with_reducible exact LeO.refl _)
      | (with_reducible exact LeO.none _)
      | (with_reducible refine LeO.ite ?_ ?_)
      | (with_reducible refine LeO.bind ?_ (fun _ => ?_))
      | exact slices_IndexFunc_int_at_impl_IsSelection_1.mono _ _
      | exact LeO.none _
      | refine LeO.ite ?_ ?_
      | refine LeO.bind ?_ (fun _ => ?_)
set_option maxHeartbeats 8000000 in
set_option maxRecDepth 100000 in
theorem slices_ContainsFunc_int_at_impl_IsSelection_1.calls (k : Nat) (A0 : Option Addr) (c0 : Nat) (l0 : List Int)  (r : Bool) (w : World) (hr0 : Kd.C (Kd.int .i64) w A0 l0.length l0) (hc0 : l0.length ≤ c0) (h : slices_ContainsFunc_int_at_impl_IsSelection_1.f k l0 = some r) :
    Calls Try.prog 202 #[.slice A0 l0.length c0, .func (.func 203) #[] #[]] w fun e w' => e = .returned (.bool r) ∧ Drawn0 w w' := by
  have HR0 := Xam hr0
  have HC0 := Xam hc0
  clear hr0 hc0
  have H : ((slices_IndexFunc_int_at_impl_IsSelection_1.f k l0).bind fun t103 => (some (decide (t103 ≥ 0)))) = some r := h
  clear h
  replace H := Option.bind_eq_some_iff.mp H
  obtain ⟨t103, A30, H⟩ := H
  replace H : (some (decide (t103 ≥ 0))) = some r := H
  have A3 := Xam A30
  clear A30
  obtain rfl := Option.some.inj H
  go_enter Try.func202, Try.ntmps202
  go_wp2_with (first | ((with_reducible refine gate_callee (f := 219) rfl ?_); refine goesL_ (some 7) rfl rfl Try.func219 (by kernel_rfl) rfl #[.slice A0 l0.length c0, .func (.func 203) #[] #[]] rfl (by (try simp only [List.map_toArray, List.map_cons, List.map_nil]); first | done | rfl | (simp only [List.length_drop, List.length_take]; rfl)) ?_; (with_reducible refine (slices_IndexFunc_int_at_impl_IsSelection_1.calls k _ _ l0  t103 _ ?side1 ?side2 A3.out).mono ?_); (case side1 => repeat (first | exact HR0.out | (with_reducible refine Xca ?_ _) | (with_reducible refine Xcn ?_ _) | (with_reducible refine Xcd ?_))); (case side2 => exact HC0.out); rintro e w' ⟨rfl, ⟨nd, rfl⟩⟩; refine ⟨_, rfl, ?_⟩))
  go_ret
  exact ⟨by first | rfl | (simp; done) | (simp [*]; done), by repeat (first | exact Drawn0.refl _ | apply Drawn0.step)⟩

/-! ### impl_IsSelection: function 150 -/
def impl_IsSelection.f (k : Nat) (l0 : List Int) (a1 : Int) : Option (Bool) := (impl_InRange.f a1 0 64).bind fun t104 => (if t104 = true then (if (l0.length : Int) = a1 then ((slices_ContainsFunc_int_at_impl_IsSelection_1.f k l0).bind fun t105 => (some (!t105))) else (some false)) else (some false))
theorem impl_IsSelection.mono : ∀ a0 a1 k, LeO (impl_IsSelection.f k a0 a1) (impl_IsSelection.f (k + 1) a0 a1) := by
  intro a0 a1 k
  unfold impl_IsSelection.f
  repeat' first
      | (with_reducible exact slices_ContainsFunc_int_at_impl_IsSelection_1.mono _ _)
      | (with_reducible exact LeO.refl _)
      | (with_reducible exact LeO.none _)
      | (with_reducible refine LeO.ite ?_ ?_)
      | (with_reducible refine LeO.bind ?_ (fun _ => ?_))
      | exact slices_ContainsFunc_int_at_impl_IsSelection_1.mono _ _
      | exact LeO.none _
      | refine LeO.ite ?_ ?_
      | refine LeO.bind ?_ (fun _ => ?_)
set_option maxHeartbeats 8000000 in
set_option maxRecDepth 100000 in
theorem impl_IsSelection.calls (k : Nat) (A0 : Option Addr) (c0 : Nat) (l0 : List Int) (a1 : Int) (r : Bool) (w : World) (hr0 : Kd.C (Kd.int .i64) w A0 l0.length l0) (hc0 : l0.length ≤ c0) (h : impl_IsSelection.f k l0 a1 = some r) :
    Calls Try.prog 150 #[.slice A0 l0.length c0, .int .i64 a1] w fun e w' => e = .returned (.bool r) ∧ Drawn0 w w' := by
  have HR0 := Xam hr0
  have HC0 := Xam hc0
  clear hr0 hc0
  have H : ((impl_InRange.f a1 0 64).bind fun t104 => (if t104 = true then (if (l0.length : Int) = a1 then ((slices_ContainsFunc_int_at_impl_IsSelection_1.f k l0).bind fun t105 => (some (!t105))) else (some false)) else (some false))) = some r := h
  clear h
  replace H := Option.bind_eq_some_iff.mp H
  obtain ⟨t104, A30, H⟩ := H
  replace H : (if t104 = true then (if (l0.length : Int) = a1 then ((slices_ContainsFunc_int_at_impl_IsSelection_1.f k l0).bind fun t105 => (some (!t105))) else (some false)) else (some false)) = some r := H
  have A3 := Xam A30
  clear A30
  by_cases c4 : t104 = true
  · subst c4
    have H1 : (if (l0.length : Int) = a1 then ((slices_ContainsFunc_int_at_impl_IsSelection_1.f k l0).bind fun t105 => (some (!t105))) else (some false)) = some r := by rw [if_pos rfl] at H; exact H
    clear H
    have H := H1
    clear H1
    by_cases c5 : (l0.length : Int) = a1
    · rw [if_pos c5] at H
      have c5b0 : ((l0.length : Int) == a1) = true := beq_iff_eq.mpr c5
      have c5b1 : ((l0.length : Int) != a1) = false := bne_eq_false_iff_eq.mpr c5
      clear c5
      replace H := Option.bind_eq_some_iff.mp H
      obtain ⟨t105, A60, H⟩ := H
      replace H : (some (!t105)) = some r := H
      have A6 := Xam A60
      clear A60
      obtain rfl := Option.some.inj H
      go_enter Try.func150, Try.ntmps150
      go_wp2_with (first | ((with_reducible refine gate_callee (f := 128) rfl ?_); refine goesL_ (some 6) rfl rfl Try.func128 (by kernel_rfl) rfl #[.int .i64 a1, .int .i64 0, .int .i64 64] rfl (by (try simp only [List.map_toArray, List.map_cons, List.map_nil]); first | done | rfl | (simp only [List.length_drop, List.length_take]; rfl)) ?_; (with_reducible refine (impl_InRange.calls a1 0 64 true _ A3.out).mono ?_); rintro e w' ⟨rfl, ⟨nd, rfl⟩⟩; refine ⟨_, rfl, ?_⟩) | (go_at_call 202; (with_reducible refine (slices_ContainsFunc_int_at_impl_IsSelection_1.calls k _ _ l0  t105 _ ?side1 ?side2 A6.out).mono ?_); (case side1 => repeat (first | exact HR0.out | (with_reducible refine Xca ?_ _) | (with_reducible refine Xcn ?_ _) | (with_reducible refine Xcd ?_))); (case side2 => exact HC0.out); rintro e w' ⟨rfl, ⟨nd, rfl⟩⟩))
      go_ret
      exact ⟨by first | rfl | (simp; done) | (simp [*]; done), by repeat (first | exact Drawn0.refl _ | apply Drawn0.step)⟩
    · rw [if_neg c5] at H
      have c5b0 : ((l0.length : Int) == a1) = false := beq_eq_false_iff_ne.mpr c5
      have c5b1 : ((l0.length : Int) != a1) = true := bne_iff_ne.mpr c5
      obtain rfl := Option.some.inj H
      go_enter Try.func150, Try.ntmps150
      go_wp2_with (first | ((with_reducible refine gate_callee (f := 128) rfl ?_); refine goesL_ (some 6) rfl rfl Try.func128 (by kernel_rfl) rfl #[.int .i64 a1, .int .i64 0, .int .i64 64] rfl (by (try simp only [List.map_toArray, List.map_cons, List.map_nil]); first | done | rfl | (simp only [List.length_drop, List.length_take]; rfl)) ?_; (with_reducible refine (impl_InRange.calls a1 0 64 true _ A3.out).mono ?_); rintro e w' ⟨rfl, ⟨nd, rfl⟩⟩; refine ⟨_, rfl, ?_⟩))
      go_ret
      exact ⟨by first | rfl | (simp; done) | (simp [*]; done), by repeat (first | exact Drawn0.refl _ | apply Drawn0.step)⟩
  · replace c4 := Bool.eq_false_iff.mpr c4
    subst c4
    have H1 : (some false) = some r := by rw [if_neg (show ¬ (false = true) by decide)] at H; exact H
    clear H
    have H := H1
    clear H1
    obtain rfl := Option.some.inj H
    go_enter Try.func150, Try.ntmps150
    go_wp2_with (first | ((with_reducible refine gate_callee (f := 128) rfl ?_); refine goesL_ (some 6) rfl rfl Try.func128 (by kernel_rfl) rfl #[.int .i64 a1, .int .i64 0, .int .i64 64] rfl (by (try simp only [List.map_toArray, List.map_cons, List.map_nil]); first | done | rfl | (simp only [List.length_drop, List.length_take]; rfl)) ?_; (with_reducible refine (impl_InRange.calls a1 0 64 false _ A3.out).mono ?_); rintro e w' ⟨rfl, ⟨nd, rfl⟩⟩; refine ⟨_, rfl, ?_⟩))
    go_ret
    exact ⟨by first | rfl | (simp; done) | (simp [*]; done), by repeat (first | exact Drawn0.refl _ | apply Drawn0.step)⟩

/-! ### impl_SelectXor: function 152 -/
def impl_SelectXor.l0 : Nat → List Int → List Int → List (List Int) → Int → Int → Option (List Int)
  | 0, _, _, _, _, _ => none
  | k + 1, x1, x5, x9, x10, x11 => if x11 < x10 then (if 0 ≤ x11 then (if x11 < (x9.length : Int) then (if x11 < (x1.length : Int) then (if (rd x1 x11) = 1 then ((impl_XorBytes.f k x5 (rd_L1 x9 x11)).bind fun t106 => (impl_SelectXor.l0 k x1 t106 x9 x10 (wrap64 (x11 + 1)))) else (impl_SelectXor.l0 k x1 x5 x9 x10 (wrap64 (x11 + 1)))) else (impl_SelectXor.l0 k x1 x5 x9 x10 (wrap64 (x11 + 1)))) else (none)) else (none)) else (some x5)
def impl_SelectXor.f (k : Nat) (l0 : List (List Int)) (l1 : List Int) : Option (List Int) := impl_SelectXor.l0 k l1 (([] : List Int)) l0 (l0.length : Int) 0
theorem impl_SelectXor.mono_l : ∀ k, (∀ y0 y1 y2 y3 y4, LeO (impl_SelectXor.l0 k y0 y1 y2 y3 y4) (impl_SelectXor.l0 (k + 1) y0 y1 y2 y3 y4))
  | 0 => fun _ _ _ _ _ r h => by simp [impl_SelectXor.l0] at h
  | k + 1 => by
    have ih0 := impl_SelectXor.mono_l k
    · intro y0 y1 y2 y3 y4
      unfold impl_SelectXor.l0
      repeat' first
      | (with_reducible exact ih0 _ _ _ _ _)
      | (with_reducible exact impl_XorBytes.mono _ _ _)
      | (with_reducible exact LeO.refl _)
      | (with_reducible exact LeO.none _)
      | (with_reducible refine LeO.ite ?_ ?_)
      | (with_reducible refine LeO.bind ?_ (fun _ => ?_))
      | exact ih0 _ _ _ _ _
      | exact impl_XorBytes.mono _ _ _
      | exact LeO.none _
      | refine LeO.ite ?_ ?_
      | refine LeO.bind ?_ (fun _ => ?_)
theorem impl_SelectXor.mono : ∀ a0 a1 k, LeO (impl_SelectXor.f k a0 a1) (impl_SelectXor.f (k + 1) a0 a1) := by
  intro a0 a1 k
  have ih0 := impl_SelectXor.mono_l k
  unfold impl_SelectXor.f
  repeat' first
      | (with_reducible exact ih0 _ _ _ _ _)
      | (with_reducible exact impl_XorBytes.mono _ _ _)
      | (with_reducible exact LeO.refl _)
      | (with_reducible exact LeO.none _)
      | (with_reducible refine LeO.ite ?_ ?_)
      | (with_reducible refine LeO.bind ?_ (fun _ => ?_))
      | exact ih0 _ _ _ _ _
      | exact impl_XorBytes.mono _ _ _
      | exact LeO.none _
      | refine LeO.ite ?_ ?_
      | refine LeO.bind ?_ (fun _ => ?_)
set_option maxHeartbeats 8000000 in
set_option maxRecDepth 100000 in
theorem impl_SelectXor.calls (k : Nat) (A0 : Option Addr) (c0 : Nat) (l0 : List (List Int)) (A1 : Option Addr) (c1 : Nat) (l1 : List Int) (r : List Int) (w : World) (hr0 : Kd.C (Kd.slice 5 (Kd.int .u8)) w A0 l0.length l0) (hc0 : l0.length ≤ c0) (hr1 : Kd.C (Kd.int .i64) w A1 l1.length l1) (hc1 : l1.length ≤ c1) (h : impl_SelectXor.f k l0 l1 = some r) :
    Calls Try.prog 152 #[.slice A0 l0.length c0, .slice A1 l1.length c1] w fun e w' => ∃ v0_ : Value, e = .returned (v0_) ∧ Kd.R (Kd.int .u8) 5 w' w.heap.size (fun _ => True) v0_ r ∧ Below w.heap.size w w' := by
  have HR0 := Xam hr0
  have HC0 := Xam hc0
  clear hr0 hc0
  have HR1 := Xam hr1
  have HC1 := Xam hc1
  clear hr1 hc1
  have HB := Xam (Below.refl w.heap.size w)
  have H : (impl_SelectXor.l0 k l1 (([] : List Int)) l0 (l0.length : Int) 0) = some r := h
  clear h
  obtain ⟨y101, hy101⟩ : ∃ y_ : List Int, y_ = (([] : List Int)) := ⟨_, rfl⟩
  replace H : (impl_SelectXor.l0 k l1 y101 l0 (l0.length : Int) 0) = some r := by first | (rw [hy101]; with_reducible exact H) | (have H2_ := (Option.bind_some _ _).symm.trans H; rw [hy101]; with_reducible exact H2_) | (have H2_ := (Option.bind_some _ _).symm.trans H; with_reducible exact H2_) | with_reducible exact H | (rw [hy101]; exact H) | exact H
  have Ny101 := Xam hy101
  clear hy101
  have H' := Xam H
  clear H
  go_enter Try.func152, Try.ntmps152
  go_wp2_with (first | ((with_reducible refine gate_dst (N := 8) rfl ?_); refine Kd.R_lit (Kd.int .u8) _ 5 ?hg (N := 8) ?hd (xs := ([] : List Int)) (inner := []) (ok := fun _ => True) (okp := fun _ => True) ?hr ?hp (fun _ hk => by first | exact hk | grind) trivial (Below.refl _ _) (Nat.le_refl _) (by simp) ?_; (case hd => rfl); (case hg => rfl); (case hr => first | (go_simp; done) | (go_simp; rfl)); (case hp => exact (Reps.none _ _)); intro v102 w3 ho4 hb hg_ hnew_; clear hg_ hnew_; (first | rw [← Ny101.out] at ho4 | (simp only [Int.reduceToNat] at ho4; rw [← Ny101.out] at ho4)); have n0_ := Xam (Kd.R_lower ho4 (Xbs (by repeat (first | (with_reducible first | exact HB.out | apply Xba | apply Xbn | apply Xbd) | exact HB.out)))); have n1_ := Xam (Xbt (by repeat (first | (with_reducible first | exact HB.out | apply Xba | apply Xbn | apply Xbd) | exact HB.out)) hb); clear HB; have HO103 := n0_; have HB := n1_; clear n0_ n1_; clear hb ho4))
  go_loopg [5, 11] k (fun kq v5 v11 w' => ∃ (x5_1 : List Int) (x11_1 : Int), v11 = .int .i64 x11_1 ∧ Aside0 (impl_SelectXor.l0 kq l1 x5_1 l0 (l0.length : Int) x11_1 = some r) ∧ Aside0 (kq ≤ k) ∧ Aside0 (Kd.R (Kd.int .u8) 5 w' w.heap.size (fun _ => True) v5 x5_1) ∧ Aside0 (Below w.heap.size w w'))
  case atStart => exact ⟨(y101), (0), (by first | rfl | (simp; done) | (simp [*]; done)), H', ⟨Nat.le_refl _⟩, ⟨by (with_reducible repeat (first | apply Xra | apply Xrn | apply Xrd)); exact HO103.out⟩, ⟨by repeat (first | (with_reducible first | exact HB.out | apply Xba | apply Xbn | apply Xbd) | exact HB.out)⟩⟩
  case round =>
    clear H'
    try clear c1
    try clear p2
    obtain ⟨x5_1, x11_1, rfl, HA, HK1, HO_5, HB⟩ := hrel
    cases gk with
    | zero => exact absurd HA.out (by simp [impl_SelectXor.l0])
    | succ k1 =>
      have H := HA.out
      clear HA
      simp only [impl_SelectXor.l0] at H
      by_cases c5 : x11_1 < (l0.length : Int)
      · rw [if_pos c5] at H
        have c5b0 : decide (x11_1 < (l0.length : Int)) = true := decide_eq_true c5
        clear c5
        by_cases c6 : 0 ≤ x11_1
        · rw [if_pos c6] at H
          have c6b0 : decide (0 ≤ x11_1) = true := decide_eq_true c6
          clear c6
          by_cases c7 : x11_1 < (l0.length : Int)
          · rw [if_pos c7] at H
            have c7b0 : decide (x11_1 < (l0.length : Int)) = true := decide_eq_true c7
            clear c7
            by_cases c8 : x11_1 < (l1.length : Int)
            · rw [if_pos c8] at H
              have c8b0 : decide (x11_1 < (l1.length : Int)) = true := decide_eq_true c8
              clear c8
              by_cases c9 : (rd l1 x11_1) = 1
              · rw [if_pos c9] at H
                have c9b0 : ((rd l1 x11_1) == 1) = true := beq_iff_eq.mpr c9
                have c9b1 : ((rd l1 x11_1) != 1) = false := bne_eq_false_iff_eq.mpr c9
                clear c9
                replace H := Option.bind_eq_some_iff.mp H
                obtain ⟨t106, A100, H⟩ := H
                replace H : (impl_SelectXor.l0 k1 l1 t106 l0 (l0.length : Int) (wrap64 (x11_1 + 1))) = some r := H
                have A10 := Xam A100
                clear A100
                have H' := Xam H
                clear H
                have p104 : 0 ≤ (x11_1 : Int) := of_decide_eq_true (by first | (with_reducible assumption) | assumption)
                have q104 : x11_1 < (l0.length : Int) := of_decide_eq_true (by first | (with_reducible assumption) | assumption)
                obtain ⟨ad104, A104_0, c104_0, e104, hx104_0, hl104_0, hi104_0⟩ := at_L1 HR0.out x11_1 p104 q104
                cases e104
                replace hx104_0 := (HB.out.cell (World.block_lt_of_cell? w _ hx104_0)).trans hx104_0
                have HR104_0 := Xam hi104_0
                have HC104_0 := Xam hl104_0
                clear hi104_0 hl104_0
                replace p104 := eq_true p104
                replace q104 := eq_true q104
                have p105 : 0 ≤ (x11_1 : Int) := of_decide_eq_true (by first | (with_reducible assumption) | assumption)
                have q105 : x11_1 < (l1.length : Int) := of_decide_eq_true (by first | (with_reducible assumption) | assumption)
                obtain ⟨ad105, e105, hx105_0⟩ := Kd.at_int HR1.out x11_1 p105 q105
                cases e105
                replace hx105_0 := (HB.out.cell (World.block_lt_of_cell? w _ hx105_0)).trans hx105_0
                replace p105 := eq_true p105
                replace q105 := eq_true q105
                obtain ⟨Ao11, co11, eo11⟩ := Kd.R_slice HO_5.out
                subst eo11
                go_wp2_with (first | ((with_reducible refine gate_callee (f := 151) rfl ?_); refine goesL_ (some 29) rfl rfl Try.func151 (by kernel_rfl) rfl #[.slice Ao11 x5_1.length co11, .slice A104_0 (rd_L1 l0 x11_1).length c104_0] rfl (by (try simp only [List.map_toArray, List.map_cons, List.map_nil]); first | done | rfl | (simp only [List.length_drop, List.length_take]; rfl)) ?_; (with_reducible refine (impl_XorBytes.calls k1 _ _ x5_1 _ _ (rd_L1 l0 x11_1) t106 _ ?side1 ?side2 ?side3 ?side4 A10.out).mono ?_); (case side1 => repeat (first | exact (Kd.R_reads' HO_5.out).2.2 | (with_reducible refine Xca ?_ _) | (with_reducible refine Xcn ?_ _) | (with_reducible refine Xcd ?_))); (case side2 => exact (Kd.R_reads' HO_5.out).2.1); (case side3 => repeat (first | exact (Kd.C_below HR104_0.out HB.out) | (with_reducible refine Xca ?_ _) | (with_reducible refine Xcn ?_ _) | (with_reducible refine Xcd ?_))); (case side4 => exact HC104_0.out); rintro e w12 ⟨v107, rfl, ho0, hb⟩; refine ⟨_, rfl, ?_⟩; have n0_ := Xam (Kd.R_elder' (by (with_reducible repeat (first | apply Xra | apply Xrn | apply Xrd)); exact HO_5.out) (Kd.R_base ho0) hb); have n1_ := Xam (Kd.R_lower (Kd.R_new' ho0 (Kd.R_lt (by (with_reducible repeat (first | apply Xra | apply Xrn | apply Xrd)); exact HO_5.out))) (Xbs (by repeat (first | (with_reducible first | exact HB.out | apply Xba | apply Xbn | apply Xbd) | exact HB.out)))); have n2_ := Xam (Xbt (by repeat (first | (with_reducible first | exact HB.out | apply Xba | apply Xbn | apply Xbd) | exact HB.out)) hb); clear HO_5; clear HB; have HO_5 := n0_; have HO108 := n1_; have HB := n2_; clear n0_ n1_ n2_; (try clear hb); (try clear hb2); (try clear hk); (try clear hi); (try clear ho0)))
                go_roundg k1
                case measure => have := HK1.out; omega
                case rel => exact ⟨(t106), (wrap64 (x11_1 + 1)), (by first | rfl | (simp; done) | (simp [*]; done)), H', ⟨by have := HK1.out; omega⟩, ⟨by (with_reducible repeat (first | apply Xra | apply Xrn | apply Xrd)); exact Kd.R_mono HO108.out (fun _ hk => by first | exact trivial | grind)⟩, ⟨by repeat (first | (with_reducible first | exact HB.out | apply Xba | apply Xbn | apply Xbd) | exact HB.out)⟩⟩
              · rw [if_neg c9] at H
                have c9b0 : ((rd l1 x11_1) == 1) = false := beq_eq_false_iff_ne.mpr c9
                have c9b1 : ((rd l1 x11_1) != 1) = true := bne_iff_ne.mpr c9
                have H' := Xam H
                clear H
                have p104 : 0 ≤ (x11_1 : Int) := of_decide_eq_true (by first | (with_reducible assumption) | assumption)
                have q104 : x11_1 < (l0.length : Int) := of_decide_eq_true (by first | (with_reducible assumption) | assumption)
                obtain ⟨ad104, A104_0, c104_0, e104, hx104_0, hl104_0, hi104_0⟩ := at_L1 HR0.out x11_1 p104 q104
                cases e104
                replace hx104_0 := (HB.out.cell (World.block_lt_of_cell? w _ hx104_0)).trans hx104_0
                have HR104_0 := Xam hi104_0
                have HC104_0 := Xam hl104_0
                clear hi104_0 hl104_0
                replace p104 := eq_true p104
                replace q104 := eq_true q104
                have p105 : 0 ≤ (x11_1 : Int) := of_decide_eq_true (by first | (with_reducible assumption) | assumption)
                have q105 : x11_1 < (l1.length : Int) := of_decide_eq_true (by first | (with_reducible assumption) | assumption)
                obtain ⟨ad105, e105, hx105_0⟩ := Kd.at_int HR1.out x11_1 p105 q105
                cases e105
                replace hx105_0 := (HB.out.cell (World.block_lt_of_cell? w _ hx105_0)).trans hx105_0
                replace p105 := eq_true p105
                replace q105 := eq_true q105
                go_wp2
                go_roundg k1
                case measure => have := HK1.out; omega
                case rel => exact ⟨(x5_1), (wrap64 (x11_1 + 1)), (by first | rfl | (simp; done) | (simp [*]; done)), H', ⟨by have := HK1.out; omega⟩, ⟨by (with_reducible repeat (first | apply Xra | apply Xrn | apply Xrd)); exact HO_5.out⟩, ⟨by repeat (first | (with_reducible first | exact HB.out | apply Xba | apply Xbn | apply Xbd) | exact HB.out)⟩⟩
            · rw [if_neg c8] at H
              have c8b0 : decide (x11_1 < (l1.length : Int)) = false := decide_eq_false c8
              clear c8
              have H' := Xam H
              clear H
              have p104 : 0 ≤ (x11_1 : Int) := of_decide_eq_true (by first | (with_reducible assumption) | assumption)
              have q104 : x11_1 < (l0.length : Int) := of_decide_eq_true (by first | (with_reducible assumption) | assumption)
              obtain ⟨ad104, A104_0, c104_0, e104, hx104_0, hl104_0, hi104_0⟩ := at_L1 HR0.out x11_1 p104 q104
              cases e104
              replace hx104_0 := (HB.out.cell (World.block_lt_of_cell? w _ hx104_0)).trans hx104_0
              have HR104_0 := Xam hi104_0
              have HC104_0 := Xam hl104_0
              clear hi104_0 hl104_0
              replace p104 := eq_true p104
              replace q104 := eq_true q104
              go_wp2
              go_roundg k1
              case measure => have := HK1.out; omega
              case rel => exact ⟨(x5_1), (wrap64 (x11_1 + 1)), (by first | rfl | (simp; done) | (simp [*]; done)), H', ⟨by have := HK1.out; omega⟩, ⟨by (with_reducible repeat (first | apply Xra | apply Xrn | apply Xrd)); exact HO_5.out⟩, ⟨by repeat (first | (with_reducible first | exact HB.out | apply Xba | apply Xbn | apply Xbd) | exact HB.out)⟩⟩
          · rw [if_neg c7] at H
            exact absurd H (by simp)
        · rw [if_neg c6] at H
          exact absurd H (by simp)
      · rw [if_neg c5] at H
        have c5b0 : decide (x11_1 < (l0.length : Int)) = false := decide_eq_false c5
        clear c5
        obtain rfl := Option.some.inj H
        go_wp2
        go_ret
        exact ⟨_, by first | rfl | (simp [errW_none, errW_some] <;> rfl) | (simp [*, errW_none, errW_some] <;> rfl), by (with_reducible repeat (first | apply Xra | apply Xrn | apply Xrd)); exact HO_5.out, by repeat (first | (with_reducible first | exact HB.out | apply Xba | apply Xbn | apply Xbd) | exact HB.out)⟩

end Go.Proofs.Ytcjgeekeohbnmaa.Q
