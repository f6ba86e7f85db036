-- written by a program of this session (qprint.py) over the kit's print.py
import Derived.Test.YtcdaiclfomekhaaQx0
import Derived.Test.YtcdaiclfomekhaaQxFEPGGH
import Derived.Test.YtcdaiclfomekhaaQxKFAIBJ
import Derived.Test.YtcdaiclfomekhaaQxNAKHBI
import Derived.Test.YtcdaiclfomekhaaQxNJELOB
import Derived.Test.YtcdaiclfomekhaaQxNNJMGJ
import Derived.Test.YtcdaiclfomekhaaQxPKONPF
namespace Go.Proofs.Ytcdaiclfomekhaa.Q
open Go.RowKit Go.Proofs.YtcdaiclfomekhaaW.PrintWords Go.Proofs.YtcdaiclfomekhaaW.PrintLast Go.Proofs.YtcdaiclfomekhaaW.PrintMore Go.Proofs.YtcdaiclfomekhaaW.PrintWords Go.Proofs.YtcdaiclfomekhaaW.PrintWords.QPW
attribute [local go_sem] max2_int min2_int max_two min_two max_three min_three max_four min_four   -- for this text's walks alone
set_option linter.unusedVariables false
set_option linter.unusedSimpArgs false

/-! ### impl_DecodePiece: function 17 -/
def impl_DecodePiece.f (l0 : List Int) : Option (Int × Int × List Int × Bool) := if (l0.length : Int) = 14 then (if 0 < (l0.length : Int) then (if 1 < (l0.length : Int) then (if 2 ≤ (l0.length : Int) then ((slices_Clone_byte.f (l0.drop 2)).bind fun t105 => ((impl_isPiece.f (wrap64 (rd l0 0)) (wrap64 (rd l0 1)) t105).bind fun t109 => (if t109 = true then (some (wrap64 (rd l0 0), wrap64 (rd l0 1), t105, true)) else (some (0, 0, ([] : List Int), false))))) else (none)) else (none)) else (none)) else (some (0, 0, ([] : List Int), false))
def impl_DecodePiece.T3 : Bool × List (List Nat × List Nat) := (true, [([], []), ([0], [0]), ([1], [1]), ([2], [2]), ([], []), ([4], [4]), ([5], [5]), ([6], [6]), ([], []), ([8], [8]), ([9], [9]), ([3, 7, 10], [3, 7, 10]), ([], []), ([12, 11, 10, 0, 1, 2, 3, 4, 5, 6, 7, 8, 9, 10, 11, 12], [11, 12])])
def impl_DecodePiece.B3 : List Nat := [0, 1, 3, 7, 0, 16, 48, 112, 0, 256, 768, 2047, 0, 8191]
theorem impl_DecodePiece.tab3 : rtab .any (opsOf Try.f17 3) = impl_DecodePiece.T3 := by kernel_rfl
theorem impl_DecodePiece.bits3 : waitsOk impl_DecodePiece.T3.2 impl_DecodePiece.B3 = true := by kernel_rfl
set_option maxHeartbeats 8000000 in
set_option maxRecDepth 100000 in
theorem impl_DecodePiece.calls (A0 : Option Addr) (c0 : Nat) (l0 : List Int) (r1 : Int) (r2 : Int) (r3 : List Int) (r4 : Bool) (w : World) (hr0 : Kd.C (Kd.int .u8) w A0 l0.length l0) (hc0 : l0.length ≤ c0) (h : impl_DecodePiece.f l0 = some (r1, r2, r3, r4)) :
    Calls Try.prog 17 #[.slice A0 l0.length c0] w fun e w' => ∃ v2_ : Value, e = .returned (.tuple #[.agg #[.int .i64 r1, .int .i64 r2, v2_], .bool r4]) ∧ Kd.R (Kd.int .u8) 5 w' w.heap.size (fun _ => True) v2_ r3 ∧ Below w.heap.size w w' := by
  have hu24 := Try.underlying24
  have HR0 := Xam hr0
  have HC0 := Xam hc0
  clear hr0 hc0
  have HB := Xam (Below.refl w.heap.size w)
  have H : (if (l0.length : Int) = 14 then (if 0 < (l0.length : Int) then (if 1 < (l0.length : Int) then (if 2 ≤ (l0.length : Int) then ((slices_Clone_byte.f (l0.drop 2)).bind fun t105 => ((impl_isPiece.f (wrap64 (rd l0 0)) (wrap64 (rd l0 1)) t105).bind fun t109 => (if t109 = true then (some (wrap64 (rd l0 0), wrap64 (rd l0 1), t105, true)) else (some (0, 0, ([] : List Int), false))))) else (none)) else (none)) else (none)) else (some (0, 0, ([] : List Int), false))) = some (r1, r2, r3, r4) := h
  clear h
  by_cases c2 : (l0.length : Int) = 14
  · rw [if_pos c2] at H
    have c2b0 : ((l0.length : Int) == 14) = true := beq_iff_eq.mpr c2
    have c2b1 : ((l0.length : Int) != 14) = false := bne_eq_false_iff_eq.mpr c2
    clear c2
    by_cases c3 : 0 < (l0.length : Int)
    · rw [if_pos c3] at H
      have c3b0 : decide (0 < (l0.length : Int)) = true := decide_eq_true c3
      have c3b1 : decide (0 < l0.length) = true := decide_eq_true (by omega)
      clear c3
      by_cases c4 : 1 < (l0.length : Int)
      · rw [if_pos c4] at H
        have c4b0 : decide (1 < (l0.length : Int)) = true := decide_eq_true c4
        have c4b1 : decide (1 < l0.length) = true := decide_eq_true (by omega)
        clear c4
        by_cases c5 : 2 ≤ (l0.length : Int)
        · rw [if_pos c5] at H
          have c5b0 := eq_true c5
          have c5b1 : decide (2 ≤ (l0.length : Int)) = true := decide_eq_true c5
          clear c5
          replace H := Option.bind_eq_some_iff.mp H
          obtain ⟨t105, A60, H⟩ := H
          replace H : ((impl_isPiece.f (wrap64 (rd l0 0)) (wrap64 (rd l0 1)) t105).bind fun t109 => (if t109 = true then (some (wrap64 (rd l0 0), wrap64 (rd l0 1), t105, true)) else (some (0, 0, ([] : List Int), false)))) = some (r1, r2, r3, r4) := H
          have A6 := Xam A60
          clear A60
          replace H := Option.bind_eq_some_iff.mp H
          obtain ⟨t109, A70, H⟩ := H
          replace H : (if t109 = true then (some (wrap64 (rd l0 0), wrap64 (rd l0 1), t105, true)) else (some (0, 0, ([] : List Int), false))) = some (r1, r2, r3, r4) := H
          have A7 := Xam A70
          clear A70
          by_cases c8 : t109 = true
          · subst c8
            have H1 : (some (wrap64 (rd l0 0), wrap64 (rd l0 1), t105, true)) = some (r1, r2, r3, r4) := by rw [if_pos rfl] at H; exact H
            clear H
            have H := H1
            clear H1
            simp only [Option.some.injEq, Prod.mk.injEq] at H
            obtain ⟨rfl, rfl, rfl, rfl⟩ := H
            go_enter Try.func17, Try.ntmps17
            try go_wp2_with (first | ((with_reducible refine gate_dst (N := 2) rfl ?_); refine box_event ?hg (N := 2) ?hd (cs := #[.int .i64 0, .int .i64 0, .slice none 0 0]) (t := 24) ?hr ?_; (case hd => rfl); (case hg => rfl); (case hr => first | (go_simp; done) | (go_simp; rfl)); intro gb101 hg w9 hbox hb; have n0_ := Xam (Xbt (by repeat (first | (with_reducible first | exact HB.out | apply Xba | apply Xbn | apply Xbd) | exact HB.out)) hb); have n1_ := Xam (hbox); have n2_ := Xam ((by rw [hg]; exact (Xbs (by repeat (first | (with_reducible first | exact HB.out | apply Xba | apply Xbn | apply Xbd) | exact HB.out))) : w.heap.size ≤ gb101)); have n3_ := Xam ((by rw [hg]; exact (Xbs (by repeat (first | (with_reducible first | exact HB.out | apply Xba | apply Xbn | apply Xbd) | exact HB.out))) : w.heap.size ≤ gb101)); clear HB; have HB := n0_; have BK101 := n1_; have GW101 := n2_; have GE101 := n3_; clear n0_ n1_ n2_ n3_; clear hb hbox hg))
            have n0_ := Xam (Xkd BK101.out)
            have n1_ := Xam (Xbd HB.out)
            clear BK101
            clear HB
            have BK101 := n0_
            have HB := n1_
            clear n0_ n1_
            have p102 : 0 ≤ (0 : Int) := (by omega)
            have q102 : 0 < (l0.length : Int) := of_decide_eq_true (by first | (with_reducible assumption) | assumption)
            obtain ⟨ad102, e102, hx102_0⟩ := Kd.at_int HR0.out 0 p102 q102
            have hw102_0 := hx102_0
            (try rw [show ((0 : Int)).toNat = 0 from rfl] at hw102_0)
            (try rw [show 0 * 1 = 0 from rfl] at hw102_0)
            (try rw [Addr.add_zero'] at hw102_0)
            cases e102
            have qi102 : (0 < l0.length) = True := eq_true (by omega)
            (try rw [show ((0 : Int)).toNat = 0 from rfl] at hx102_0)
            (try rw [Addr.add_zero'] at hx102_0)
            replace hx102_0 := (HB.out.cell (World.block_lt_of_cell? w _ hx102_0)).trans hx102_0
            replace p102 := eq_true p102
            replace q102 := eq_true q102
            have p103 : 0 ≤ (1 : Int) := (by omega)
            have q103 : 1 < (l0.length : Int) := of_decide_eq_true (by first | (with_reducible assumption) | assumption)
            obtain ⟨ad103, e103, hx103_0⟩ := Kd.at_int HR0.out 1 p103 q103
            have hw103_0 := hx103_0
            (try rw [show ((1 : Int)).toNat = 1 from rfl] at hw103_0)
            (try rw [show 1 * 1 = 1 from rfl] at hw103_0)
            (try simp only [Nat.reduceMul, Nat.reduceEqDiff, Go.Addr.add, ↓reduceIte] at hw103_0)
            obtain rfl : ad102 = ad103 := (by injection e103)
            (try simp only [show (1 : Int).toNat = 1 from rfl, Nat.reduceMul, Nat.reduceEqDiff, Go.Addr.add, ↓reduceIte] at hx103_0)
            have qi103 : (1 < l0.length) = True := eq_true (by omega)
            (try rw [show ((1 : Int)).toNat = 1 from rfl] at hx103_0)
            replace hx103_0 := (HB.out.cell (World.block_lt_of_cell? w _ hx103_0)).trans hx103_0
            replace p103 := eq_true p103
            replace q103 := eq_true q103
            obtain ⟨i011, hi011, _, hsz11, _⟩ := info_parts info5
            obtain ⟨A11, hcut11, hA11, hC11⟩ := print_drop_of (P := Try.prog) (Value.int .u8) 0 22 5 .i64 Try.underlying22 hi011 hsz11 (some ad102) c0 l0 2 (by omega) (of_decide_eq_true (by first | (with_reducible assumption) | assumption)) HC0.out
            have HR104 := Xam (Kd.C_of_reads (h1 := fun _ => rfl) (hA11 _ (Kd.reads_of_C HR0.out)))
            have HC104 := Xam hC11
            clear hA11 hC11 hi011 hsz11
            refine start_ (n := 14) (S := fun w' => w'.cell? ad102 = some (.int .u8 (rd l0 0)) ∧ w'.cell? ⟨ad102.block, ad102.off + 1, none⟩ = some (.int .u8 (rd l0 1))) (ds := []) #[false, false, false, false, false, false, false, false, false, false, false, false, false, false] (by kernel_rfl) rfl rfl ⟨((HB.out.cell (World.block_lt_of_cell? w _ hw102_0)).trans hw102_0), ((HB.out.cell (World.block_lt_of_cell? w _ hw103_0)).trans hw103_0)⟩ (fun hHeld => ?_); refine with_tabW impl_DecodePiece.tab3 impl_DecodePiece.bits3 (fun HT_ HW_ => ?_)
            generalize w9.drew = w10 at BK101 HB HR104 hx102_0 hx103_0 hHeld ⊢
            refine pure_ (i := 0) (N := some 9) (v := ?_) (a' := ?_) #[true, false, false, false, false, false, false, false, false, false, false, false, false, false] rfl rfl (any_of HT_.out (by kernel_rfl)) (fun _ _ _ h => h) (Or.inl ⟨by rfl, ?_⟩) ?_ ?_
            rotate_left
            · intro w'
              go_simp
              with_reducible rfl
            rotate_left
            · simp only [Act.put, List.setIfInBounds_toArray, List.set_cons_zero, List.set_cons_succ, i64_w, i32_w]
              rfl
            refine pure_ (i := 1) (N := some 10) (v := ?_) (a' := ?_) #[true, true, false, false, false, false, false, false, false, false, false, false, false, false] rfl rfl (any_of HT_.out (by kernel_rfl)) (fun _ _ _ h => h) (Or.inl ⟨by rfl, ?_⟩) ?_ ?_
            rotate_left
            · intro w'
              go_simp
              with_reducible rfl
            rotate_left
            · simp only [Act.put, List.setIfInBounds_toArray, List.set_cons_zero, List.set_cons_succ, i64_w, i32_w]
              rfl
            refine pure_ (i := 4) (N := some 13) (v := ?_) (a' := ?_) #[true, true, false, false, true, false, false, false, false, false, false, false, false, false] rfl rfl (any_of HT_.out (by kernel_rfl)) (fun _ _ _ h => h) (Or.inl ⟨by rfl, ?_⟩) ?_ ?_
            rotate_left
            · intro w'
              go_simp
              with_reducible rfl
            rotate_left
            · simp only [Act.put, List.setIfInBounds_toArray, List.set_cons_zero, List.set_cons_succ, i64_w, i32_w]
              rfl
            refine pure_ (i := 5) (N := some 14) (v := ?_) (a' := ?_) #[true, true, false, false, true, true, false, false, false, false, false, false, false, false] rfl rfl (any_of HT_.out (by kernel_rfl)) (fun _ _ _ h => h) (Or.inl ⟨by rfl, ?_⟩) ?_ ?_
            rotate_left
            · intro w'
              go_simp
              with_reducible rfl
            rotate_left
            · simp only [Act.put, List.setIfInBounds_toArray, List.set_cons_zero, List.set_cons_succ, i64_w, i32_w]
              rfl
            refine pure_ (i := 8) (N := some 17) (v := ?_) (a' := ?_) #[true, true, false, false, true, true, false, false, true, false, false, false, false, false] rfl rfl (any_of HT_.out (by kernel_rfl)) (fun _ _ _ h => h) (Or.inl ⟨by rfl, ?_⟩) ?_ ?_
            rotate_left
            · intro w'
              go_simp
              with_reducible rfl
            rotate_left
            · simp only [Act.put, List.setIfInBounds_toArray, List.set_cons_zero, List.set_cons_succ, i64_w, i32_w]
              rfl
            refine pure_ (i := 9) (N := some 18) (v := ?_) (a' := ?_) #[true, true, false, false, true, true, false, false, true, true, false, false, false, false] rfl rfl (any_of HT_.out (by kernel_rfl)) (fun _ _ _ h => h) (Or.inl ⟨by rfl, ?_⟩) ?_ ?_
            rotate_left
            · intro w'
              go_simp
              with_reducible rfl
            rotate_left
            · simp only [Act.put, List.setIfInBounds_toArray, List.set_cons_zero, List.set_cons_succ, i64_w, i32_w]
              rfl
            refine take_ (i := 2) (N := some 11) (v := ?_) (a' := ?_) #[true, true, true, false, true, true, false, false, true, true, false, false, false, false] rfl rfl (take_ofW HT_.out HW_.out (by kernel_rfl)) (fun _ _ _ h => h) (Or.inl ⟨by rfl, ?_⟩) hHeld ?_ ?_
            rotate_left
            · rintro w' ⟨s0, s1⟩
              go_simp
              with_reducible rfl
            rotate_left
            · simp only [Act.put, List.setIfInBounds_toArray, List.set_cons_zero, List.set_cons_succ, i64_w, i32_w]
              rfl
            refine pure_ (i := 3) (N := some 12) (v := ?_) (a' := ?_) #[true, true, true, true, true, true, false, false, true, true, false, false, false, false] rfl rfl (any_of HT_.out (by kernel_rfl)) (fun _ _ _ h => h) (Or.inl ⟨by rfl, ?_⟩) ?_ ?_
            rotate_left
            · intro w'
              go_simp
              with_reducible rfl
            rotate_left
            · simp only [Act.put, List.setIfInBounds_toArray, List.set_cons_zero, List.set_cons_succ, i64_w, i32_w]
              rfl
            refine take_ (i := 6) (N := some 15) (v := ?_) (a' := ?_) #[true, true, true, true, true, true, true, false, true, true, false, false, false, false] rfl rfl (take_ofW HT_.out HW_.out (by kernel_rfl)) (fun _ _ _ h => h) (Or.inl ⟨by rfl, ?_⟩) hHeld ?_ ?_
            rotate_left
            · rintro w' ⟨s0, s1⟩
              go_simp
              with_reducible rfl
            rotate_left
            · simp only [Act.put, List.setIfInBounds_toArray, List.set_cons_zero, List.set_cons_succ, i64_w, i32_w]
              rfl
            refine pure_ (i := 7) (N := some 16) (v := ?_) (a' := ?_) #[true, true, true, true, true, true, true, true, true, true, false, false, false, false] rfl rfl (any_of HT_.out (by kernel_rfl)) (fun _ _ _ h => h) (Or.inl ⟨by rfl, ?_⟩) ?_ ?_
            rotate_left
            · intro w'
              go_simp
              with_reducible rfl
            rotate_left
            · simp only [Act.put, List.setIfInBounds_toArray, List.set_cons_zero, List.set_cons_succ, i64_w, i32_w]
              rfl
            refine join_ (σ := Value × Nat) 1 #[true, true, true, true, true, true, true, true, true, true, true, true, true, false] (fun s_ => [(19, s_.1), (4, .pointer (some ⟨s_.2, 0, none⟩)), (20, .agg #[.int .i64 (wrap64 (rd l0 0)), .int .i64 (wrap64 (rd l0 1)), s_.1])]) (fun s_ w' => (w'.cell? ad102 = some (.int .u8 (rd l0 0)) ∧ w'.cell? ⟨ad102.block, ad102.off + 1, none⟩ = some (.int .u8 (rd l0 1))) ∧ (Kd.R (Kd.int .u8) 5 w' w.heap.size (fun _ => True) s_.1 t105) ∧ (w'.heap[gb101]? = some (.cells #[.int .i64 0, .int .i64 0, .slice none 0 0] 24 (0, 0))) ∧ (w'.heap[s_.2]? = some (.cells #[.int .i64 0, .int .i64 0, .slice none 0 0] 24 (0, 0))) ∧ (w.heap.size ≤ s_.2) ∧ (w.heap.size ≤ s_.2) ∧ (gb101 ≠ s_.2) ∧ (s_.2 ≠ gb101) ∧ (Below w.heap.size w w')) ?_ ?_
            rotate_left
            · intro hCont
              refine two_ (i := 10) (j := 12) (Ni := some 19) (Nj := some 4) #[true, true, true, true, true, true, true, true, true, true, true, false, false, false] #[true, true, true, true, true, true, true, true, true, true, false, false, true, false] rfl rfl rfl rfl (two_of HT_.out (by kernel_rfl)) (by decide) (by decide) (fun K hK => ?_) (fun K hK => ?_)
              · skip
                refine goes_ Try.func85 (by kernel_rfl) rfl #[.slice A11 (l0.drop 2).length (c0 - 2)] (by rfl) rfl rfl (by (try simp only [List.map_toArray, List.map_cons, List.map_nil]); first | done | (rw [show (l0.drop 2).length = (l0.length - 2) from List.length_drop] <;> rfl) | rfl | (simp only [List.length_drop, List.length_take]; rfl)) ?_
                with_reducible refine (slices_Clone_byte.calls _ _ (l0.drop 2) t105 _ ?side1 ?side2 A6.out).mono ?_
                (case side1 => repeat (first | exact (Kd.C_below HR104.out HB.out) | (with_reducible refine Xca ?_ _) | (with_reducible refine Xcn ?_ _) | (with_reducible refine Xcd ?_)))
                (case side2 => exact HC104.out)
                rintro e w12 ⟨v106, rfl, ho0, hb⟩
                refine ⟨_, rfl, ?_⟩
                have n0_ := Xam (Kd.R_lower ho0 (Xbs (by repeat (first | (with_reducible first | exact HB.out | apply Xba | apply Xbn | apply Xbd | refine Xbe ?_ GE101.out) | exact HB.out))))
                have n1_ := Xam (Xbb (g := gb101) (o := .cells #[.int .i64 0, .int .i64 0, .slice none 0 0] 24 (0, 0)) (by (with_reducible repeat (first | refine Xkn ?_ _ | refine Xkd ?_ | refine Xka ?_ _)); exact BK101.out) hb)
                have n2_ := Xam (Xbt (by repeat (first | (with_reducible first | exact HB.out | apply Xba | apply Xbn | apply Xbd | refine Xbe ?_ GE101.out) | exact HB.out)) hb)
                clear BK101
                clear HB
                have HO107 := n0_
                have BK101 := n1_
                have HB := n2_
                clear n0_ n1_ n2_
                (try clear hb)
                (try clear hb2)
                (try clear hk)
                (try clear hi)
                (try clear ho0)
                obtain ⟨Ao13, co13, eo13⟩ := Kd.R_slice HO107.out
                (first | subst eo13 | (injection eo13 with f1_ f2_ f3_; have f4_ := f1_.symm; have f5_ := f3_.symm; clear f1_ f2_ f3_; subst f4_; subst f5_))
                refine hK.out _ _ ⟨((HB.out.cell (World.block_lt_of_cell? w _ hw102_0)).trans hw102_0), ((HB.out.cell (World.block_lt_of_cell? w _ hw103_0)).trans hw103_0)⟩ (fun hHeld => ?_)
                clear hK K
                refine norm_ (a' := ?_) ?_ ?_
                rotate_left
                · show Act.put _ (some 19) _ = _
                  simp only [Act.put, List.setIfInBounds_toArray, List.set_cons_zero, List.set_cons_succ, i64_w, i32_w]
                  rfl
                refine pure_ (i := 11) (N := some 20) (v := ?_) (a' := ?_) #[true, true, true, true, true, true, true, true, true, true, true, true, false, false] rfl rfl (any_of HT_.out (by kernel_rfl)) (fun _ _ _ h => h) (Or.inl ⟨by rfl, ?_⟩) ?_ ?_
                rotate_left
                · intro w'
                  go_simp
                  with_reducible rfl
                rotate_left
                · simp only [Act.put, List.setIfInBounds_toArray, List.set_cons_zero, List.set_cons_succ, i64_w, i32_w]
                  rfl
                refine one_ (i := 12) (N := some 4) #[true, true, true, true, true, true, true, true, true, true, true, true, true, false] rfl rfl (one_of HT_.out (by kernel_rfl)) (by decide) (fun K hK => ?_)
                refine box_step ?hg (N := 4) ?hd (cs := #[.int .i64 0, .int .i64 0, .slice none 0 0]) (t := 24) ?hr ?_; (case hd => rfl); (case hg => rfl); (case hr => first | (go_simp; done) | (go_simp; rfl))
                intro gb108 hg w14 hbox hb
                have n0_ := Xam (Kd.R_below (by (with_reducible repeat (first | apply Xra | apply Xrn | apply Xrd)); exact HO107.out) hb)
                have n1_ := Xam (Xbb (g := gb101) (o := .cells #[.int .i64 0, .int .i64 0, .slice none 0 0] 24 (0, 0)) (by (with_reducible repeat (first | refine Xkn ?_ _ | refine Xkd ?_ | refine Xka ?_ _)); exact BK101.out) hb)
                have n2_ := Xam (Xbt (by repeat (first | (with_reducible first | exact HB.out | apply Xba | apply Xbn | apply Xbd | refine Xbe ?_ GE101.out) | exact HB.out)) hb)
                have n3_ := Xam (hbox)
                have n4_ := Xam ((by rw [hg]; exact (Xbs (by repeat (first | (with_reducible first | exact HB.out | apply Xba | apply Xbn | apply Xbd | refine Xbe ?_ GE101.out) | exact HB.out))) : w.heap.size ≤ gb108))
                have n5_ := Xam ((by rw [hg]; exact (Xbs (by repeat (first | (with_reducible first | exact HB.out | apply Xba | apply Xbn | apply Xbd | refine Xbe ?_ GE101.out) | exact HB.out))) : w.heap.size ≤ gb108))
                have n6_ := Xam ((by rw [hg]; exact Nat.ne_of_lt (Xbl (g := gb101) (o := .cells #[.int .i64 0, .int .i64 0, .slice none 0 0] 24 (0, 0)) (by (with_reducible repeat (first | refine Xkn ?_ _ | refine Xkd ?_ | refine Xka ?_ _)); exact BK101.out)) : gb101 ≠ gb108))
                have n7_ := Xam ((by rw [hg]; exact Nat.ne_of_gt (Xbl (g := gb101) (o := .cells #[.int .i64 0, .int .i64 0, .slice none 0 0] 24 (0, 0)) (by (with_reducible repeat (first | refine Xkn ?_ _ | refine Xkd ?_ | refine Xka ?_ _)); exact BK101.out)) : gb108 ≠ gb101))
                clear HO107
                clear BK101
                clear HB
                have HO107 := n0_
                have BK101 := n1_
                have HB := n2_
                have BK108 := n3_
                have GW108 := n4_
                have GE108 := n5_
                have NB101_108 := n6_
                have NB108_101 := n7_
                clear n0_ n1_ n2_ n3_ n4_ n5_ n6_ n7_
                clear hb hbox hg
                refine hK.out _ _ ⟨((HB.out.cell (World.block_lt_of_cell? w _ hw102_0)).trans hw102_0), ((HB.out.cell (World.block_lt_of_cell? w _ hw103_0)).trans hw103_0)⟩ (fun hHeld => ?_)
                clear hK K
                refine norm_ (a' := ?_) ?_ ?_
                rotate_left
                · show Act.put _ (some 4) _ = _
                  simp only [Act.put, List.setIfInBounds_toArray, List.set_cons_zero, List.set_cons_succ, i64_w, i32_w]
                  rfl
                exact norm_ (by simp only [putAll, Act.put, List.setIfInBounds_toArray, List.set_cons_zero, List.set_cons_succ]) (hCont (.slice Ao13 t105.length co13, gb108) _ ⟨hHeld, (by (with_reducible repeat (first | apply Xra | apply Xrn | apply Xrd)); exact HO107.out), (by (with_reducible repeat (first | refine Xkn ?_ _ | refine Xkd ?_ | refine Xka ?_ _)); exact BK101.out), (by (with_reducible repeat (first | refine Xkn ?_ _ | refine Xkd ?_ | refine Xka ?_ _)); exact BK108.out), GW108.out, GE108.out, NB101_108.out, NB108_101.out, (by repeat (first | (with_reducible first | exact HB.out | apply Xba | apply Xbn | apply Xbd | refine Xbe ?_ GE101.out | refine Xbe ?_ GE108.out) | exact HB.out))⟩)
              · skip
                refine box_step ?hg (N := 4) ?hd (cs := #[.int .i64 0, .int .i64 0, .slice none 0 0]) (t := 24) ?hr ?_; (case hd => rfl); (case hg => rfl); (case hr => first | (go_simp; done) | (go_simp; rfl))
                intro gb108 hg w12 hbox hb
                have n0_ := Xam (Xbb (g := gb101) (o := .cells #[.int .i64 0, .int .i64 0, .slice none 0 0] 24 (0, 0)) (by (with_reducible repeat (first | refine Xkn ?_ _ | refine Xkd ?_ | refine Xka ?_ _)); exact BK101.out) hb)
                have n1_ := Xam (Xbt (by repeat (first | (with_reducible first | exact HB.out | apply Xba | apply Xbn | apply Xbd | refine Xbe ?_ GE101.out) | exact HB.out)) hb)
                have n2_ := Xam (hbox)
                have n3_ := Xam ((by rw [hg]; exact (Xbs (by repeat (first | (with_reducible first | exact HB.out | apply Xba | apply Xbn | apply Xbd | refine Xbe ?_ GE101.out) | exact HB.out))) : w.heap.size ≤ gb108))
                have n4_ := Xam ((by rw [hg]; exact (Xbs (by repeat (first | (with_reducible first | exact HB.out | apply Xba | apply Xbn | apply Xbd | refine Xbe ?_ GE101.out) | exact HB.out))) : w.heap.size ≤ gb108))
                have n5_ := Xam ((by rw [hg]; exact Nat.ne_of_lt (Xbl (g := gb101) (o := .cells #[.int .i64 0, .int .i64 0, .slice none 0 0] 24 (0, 0)) (by (with_reducible repeat (first | refine Xkn ?_ _ | refine Xkd ?_ | refine Xka ?_ _)); exact BK101.out)) : gb101 ≠ gb108))
                have n6_ := Xam ((by rw [hg]; exact Nat.ne_of_gt (Xbl (g := gb101) (o := .cells #[.int .i64 0, .int .i64 0, .slice none 0 0] 24 (0, 0)) (by (with_reducible repeat (first | refine Xkn ?_ _ | refine Xkd ?_ | refine Xka ?_ _)); exact BK101.out)) : gb108 ≠ gb101))
                clear BK101
                clear HB
                have BK101 := n0_
                have HB := n1_
                have BK108 := n2_
                have GW108 := n3_
                have GE108 := n4_
                have NB101_108 := n5_
                have NB108_101 := n6_
                clear n0_ n1_ n2_ n3_ n4_ n5_ n6_
                clear hb hbox hg
                refine hK.out _ _ ⟨((HB.out.cell (World.block_lt_of_cell? w _ hw102_0)).trans hw102_0), ((HB.out.cell (World.block_lt_of_cell? w _ hw103_0)).trans hw103_0)⟩ (fun hHeld => ?_)
                clear hK K
                refine norm_ (a' := ?_) ?_ ?_
                rotate_left
                · show Act.put _ (some 4) _ = _
                  simp only [Act.put, List.setIfInBounds_toArray, List.set_cons_zero, List.set_cons_succ, i64_w, i32_w]
                  rfl
                refine one_ (i := 10) (N := some 19) #[true, true, true, true, true, true, true, true, true, true, true, false, true, false] rfl rfl (one_of HT_.out (by kernel_rfl)) (by decide) (fun K hK => ?_)
                refine goes_ Try.func85 (by kernel_rfl) rfl #[.slice A11 (l0.drop 2).length (c0 - 2)] (by rfl) rfl rfl (by (try simp only [List.map_toArray, List.map_cons, List.map_nil]); first | done | (rw [show (l0.drop 2).length = (l0.length - 2) from List.length_drop] <;> rfl) | rfl | (simp only [List.length_drop, List.length_take]; rfl)) ?_
                with_reducible refine (slices_Clone_byte.calls _ _ (l0.drop 2) t105 _ ?side1 ?side2 A6.out).mono ?_
                (case side1 => repeat (first | exact (Kd.C_below HR104.out HB.out) | (with_reducible refine Xca ?_ _) | (with_reducible refine Xcn ?_ _) | (with_reducible refine Xcd ?_)))
                (case side2 => exact HC104.out)
                rintro e w13 ⟨v106, rfl, ho0, hb⟩
                refine ⟨_, rfl, ?_⟩
                have n0_ := Xam (Kd.R_lower ho0 (Xbs (by repeat (first | (with_reducible first | exact HB.out | apply Xba | apply Xbn | apply Xbd | refine Xbe ?_ GE101.out | refine Xbe ?_ GE108.out) | exact HB.out))))
                have n1_ := Xam (Xbb (g := gb101) (o := .cells #[.int .i64 0, .int .i64 0, .slice none 0 0] 24 (0, 0)) (by (with_reducible repeat (first | refine Xkn ?_ _ | refine Xkd ?_ | refine Xka ?_ _)); exact BK101.out) hb)
                have n2_ := Xam (Xbb (g := gb108) (o := .cells #[.int .i64 0, .int .i64 0, .slice none 0 0] 24 (0, 0)) (by (with_reducible repeat (first | refine Xkn ?_ _ | refine Xkd ?_ | refine Xka ?_ _)); exact BK108.out) hb)
                have n3_ := Xam (Xbt (by repeat (first | (with_reducible first | exact HB.out | apply Xba | apply Xbn | apply Xbd | refine Xbe ?_ GE101.out | refine Xbe ?_ GE108.out) | exact HB.out)) hb)
                clear BK101
                clear BK108
                clear HB
                have HO107 := n0_
                have BK101 := n1_
                have BK108 := n2_
                have HB := n3_
                clear n0_ n1_ n2_ n3_
                (try clear hb)
                (try clear hb2)
                (try clear hk)
                (try clear hi)
                (try clear ho0)
                obtain ⟨Ao14, co14, eo14⟩ := Kd.R_slice HO107.out
                (first | subst eo14 | (injection eo14 with f1_ f2_ f3_; have f4_ := f1_.symm; have f5_ := f3_.symm; clear f1_ f2_ f3_; subst f4_; subst f5_))
                refine hK.out _ _ ⟨((HB.out.cell (World.block_lt_of_cell? w _ hw102_0)).trans hw102_0), ((HB.out.cell (World.block_lt_of_cell? w _ hw103_0)).trans hw103_0)⟩ (fun hHeld => ?_)
                clear hK K
                refine norm_ (a' := ?_) ?_ ?_
                rotate_left
                · show Act.put _ (some 19) _ = _
                  simp only [Act.put, List.setIfInBounds_toArray, List.set_cons_zero, List.set_cons_succ, i64_w, i32_w]
                  rfl
                refine pure_ (i := 11) (N := some 20) (v := ?_) (a' := ?_) #[true, true, true, true, true, true, true, true, true, true, true, true, true, false] rfl rfl (any_of HT_.out (by kernel_rfl)) (fun _ _ _ h => h) (Or.inl ⟨by rfl, ?_⟩) ?_ ?_
                rotate_left
                · intro w'
                  go_simp
                  with_reducible rfl
                rotate_left
                · simp only [Act.put, List.setIfInBounds_toArray, List.set_cons_zero, List.set_cons_succ, i64_w, i32_w]
                  rfl
                exact norm_ (by simp only [putAll, Act.put, List.setIfInBounds_toArray, List.set_cons_zero, List.set_cons_succ]) (hCont (.slice Ao14 t105.length co14, gb108) _ ⟨hHeld, (by (with_reducible repeat (first | apply Xra | apply Xrn | apply Xrd)); exact HO107.out), (by (with_reducible repeat (first | refine Xkn ?_ _ | refine Xkd ?_ | refine Xka ?_ _)); exact BK101.out), (by (with_reducible repeat (first | refine Xkn ?_ _ | refine Xkd ?_ | refine Xka ?_ _)); exact BK108.out), GW108.out, GE108.out, NB101_108.out, NB108_101.out, (by repeat (first | (with_reducible first | exact HB.out | apply Xba | apply Xbn | apply Xbd | refine Xbe ?_ GE101.out | refine Xbe ?_ GE108.out) | exact HB.out))⟩)
            rintro ⟨v106, gb108⟩ w15 ⟨hS_, h0_, h1_, h2_, h3_, h4_, h5_, h6_, h7_⟩
            have n0_ : Aside0 (Kd.R (Kd.int .u8) 5 w15 w.heap.size (fun _ => True) v106 t105) := ⟨h0_⟩
            have n1_ : Aside0 (w15.heap[gb101]? = some (.cells #[.int .i64 0, .int .i64 0, .slice none 0 0] 24 (0, 0))) := ⟨h1_⟩
            have n2_ : Aside0 (w15.heap[gb108]? = some (.cells #[.int .i64 0, .int .i64 0, .slice none 0 0] 24 (0, 0))) := ⟨h2_⟩
            have n3_ : Aside0 (w.heap.size ≤ gb108) := ⟨h3_⟩
            have n4_ : Aside0 (w.heap.size ≤ gb108) := ⟨h4_⟩
            have n5_ : Aside0 (gb101 ≠ gb108) := ⟨h5_⟩
            have n6_ : Aside0 (gb108 ≠ gb101) := ⟨h6_⟩
            have n7_ : Aside0 (Below w.heap.size w w15) := ⟨h7_⟩
            clear BK101
            clear HB
            clear h0_ h1_ h2_ h3_ h4_ h5_ h6_ h7_
            have HO107 := n0_
            have BK101 := n1_
            have BK108 := n2_
            have GW108 := n3_
            have GE108 := n4_
            have NB101_108 := n5_
            have NB108_101 := n6_
            have HB := n7_
            clear n0_ n1_ n2_ n3_ n4_ n5_ n6_ n7_
            have hHeld : w15.cell? ad102 = some (.int .u8 (rd l0 0)) ∧ w15.cell? ⟨ad102.block, ad102.off + 1, none⟩ = some (.int .u8 (rd l0 1)) := hS_
            obtain ⟨Ao16, co16, eo16⟩ := Kd.R_slice HO107.out
            (first | subst eo16 | (injection eo16 with f1_ f2_ f3_; have f4_ := f1_.symm; have f5_ := f3_.symm; clear f1_ f2_ f3_; subst f4_; subst f5_))
            refine norm_ (a' := ?_) ?_ ?_
            rotate_left
            · simp only [putAll, Act.put, List.setIfInBounds_toArray, List.set_cons_zero, List.set_cons_succ]
              rfl
            refine one_ (i := 13) (N := none) #[true, true, true, true, true, true, true, true, true, true, true, true, true, true] rfl rfl (one_of HT_.out (by kernel_rfl)) (by decide) (fun K hK => ?_)
            have hs17 : w15.cell? ⟨gb108, 0, none⟩ = some (.int .i64 0) := (Xbc BK108.out 0).trans rfl
            have hfs17 := Xbf BK108.out 0
            have hns17_0 := NB101_108.out
            have hms17_0 := NB108_101.out
            have hs18 : w15.cell? ⟨gb108, 1, none⟩ = some (.int .i64 0) := (Xbc BK108.out 1).trans rfl
            have hfs18 := Xbf BK108.out 1
            have hns18_0 := NB101_108.out
            have hms18_0 := NB108_101.out
            have hs19 : w15.cell? ⟨gb108, 2, none⟩ = some (.slice none 0 0) := (Xbc BK108.out 2).trans rfl
            have hfs19 := Xbf BK108.out 2
            have hns19_0 := NB101_108.out
            have hms19_0 := NB108_101.out
            refine skip_ (w1 := ?_) (by rfl) rfl ?_ ?_
            rotate_left
            · go_simp
              rfl
            refine hK.out _ _ ⟨((cell_far (p := ⟨gb108, _, none⟩) (by first | exact Nat.ne_of_lt (Nat.lt_of_lt_of_le (by have := World.block_lt_of_cell? _ _ hw102_0; first | rwa [add_block] at this | exact this) GW108.out) | (rw [add_block]; exact Nat.ne_of_lt (Nat.lt_of_lt_of_le (by have := World.block_lt_of_cell? _ _ hw102_0; first | rwa [add_block] at this | exact this) GW108.out)) | (show (Addr.add _ _).block ≠ _; rw [add_block]; exact Nat.ne_of_lt (Nat.lt_of_lt_of_le (by have := World.block_lt_of_cell? _ _ hw102_0; first | rwa [add_block] at this | exact this) GW108.out)) | (dsimp only; exact Nat.ne_of_lt (Nat.lt_of_lt_of_le (by have := World.block_lt_of_cell? _ _ hw102_0; first | rwa [add_block] at this | exact this) GW108.out))) _).trans (((cell_far (p := ⟨gb108, _, none⟩) (by first | exact Nat.ne_of_lt (Nat.lt_of_lt_of_le (by have := World.block_lt_of_cell? _ _ hw102_0; first | rwa [add_block] at this | exact this) GW108.out) | (rw [add_block]; exact Nat.ne_of_lt (Nat.lt_of_lt_of_le (by have := World.block_lt_of_cell? _ _ hw102_0; first | rwa [add_block] at this | exact this) GW108.out)) | (show (Addr.add _ _).block ≠ _; rw [add_block]; exact Nat.ne_of_lt (Nat.lt_of_lt_of_le (by have := World.block_lt_of_cell? _ _ hw102_0; first | rwa [add_block] at this | exact this) GW108.out)) | (dsimp only; exact Nat.ne_of_lt (Nat.lt_of_lt_of_le (by have := World.block_lt_of_cell? _ _ hw102_0; first | rwa [add_block] at this | exact this) GW108.out))) _).trans (((cell_far (p := ⟨gb108, _, none⟩) (by first | exact Nat.ne_of_lt (Nat.lt_of_lt_of_le (by have := World.block_lt_of_cell? _ _ hw102_0; first | rwa [add_block] at this | exact this) GW108.out) | (rw [add_block]; exact Nat.ne_of_lt (Nat.lt_of_lt_of_le (by have := World.block_lt_of_cell? _ _ hw102_0; first | rwa [add_block] at this | exact this) GW108.out)) | (show (Addr.add _ _).block ≠ _; rw [add_block]; exact Nat.ne_of_lt (Nat.lt_of_lt_of_le (by have := World.block_lt_of_cell? _ _ hw102_0; first | rwa [add_block] at this | exact this) GW108.out)) | (dsimp only; exact Nat.ne_of_lt (Nat.lt_of_lt_of_le (by have := World.block_lt_of_cell? _ _ hw102_0; first | rwa [add_block] at this | exact this) GW108.out))) _).trans (hHeld.1)))))), ((cell_far (p := ⟨gb108, _, none⟩) (by first | exact Nat.ne_of_lt (Nat.lt_of_lt_of_le (by have := World.block_lt_of_cell? _ _ hw103_0; first | rwa [add_block] at this | exact this) GW108.out) | (rw [add_block]; exact Nat.ne_of_lt (Nat.lt_of_lt_of_le (by have := World.block_lt_of_cell? _ _ hw103_0; first | rwa [add_block] at this | exact this) GW108.out)) | (show (Addr.add _ _).block ≠ _; rw [add_block]; exact Nat.ne_of_lt (Nat.lt_of_lt_of_le (by have := World.block_lt_of_cell? _ _ hw103_0; first | rwa [add_block] at this | exact this) GW108.out)) | (dsimp only; exact Nat.ne_of_lt (Nat.lt_of_lt_of_le (by have := World.block_lt_of_cell? _ _ hw103_0; first | rwa [add_block] at this | exact this) GW108.out))) _).trans (((cell_far (p := ⟨gb108, _, none⟩) (by first | exact Nat.ne_of_lt (Nat.lt_of_lt_of_le (by have := World.block_lt_of_cell? _ _ hw103_0; first | rwa [add_block] at this | exact this) GW108.out) | (rw [add_block]; exact Nat.ne_of_lt (Nat.lt_of_lt_of_le (by have := World.block_lt_of_cell? _ _ hw103_0; first | rwa [add_block] at this | exact this) GW108.out)) | (show (Addr.add _ _).block ≠ _; rw [add_block]; exact Nat.ne_of_lt (Nat.lt_of_lt_of_le (by have := World.block_lt_of_cell? _ _ hw103_0; first | rwa [add_block] at this | exact this) GW108.out)) | (dsimp only; exact Nat.ne_of_lt (Nat.lt_of_lt_of_le (by have := World.block_lt_of_cell? _ _ hw103_0; first | rwa [add_block] at this | exact this) GW108.out))) _).trans (((cell_far (p := ⟨gb108, _, none⟩) (by first | exact Nat.ne_of_lt (Nat.lt_of_lt_of_le (by have := World.block_lt_of_cell? _ _ hw103_0; first | rwa [add_block] at this | exact this) GW108.out) | (rw [add_block]; exact Nat.ne_of_lt (Nat.lt_of_lt_of_le (by have := World.block_lt_of_cell? _ _ hw103_0; first | rwa [add_block] at this | exact this) GW108.out)) | (show (Addr.add _ _).block ≠ _; rw [add_block]; exact Nat.ne_of_lt (Nat.lt_of_lt_of_le (by have := World.block_lt_of_cell? _ _ hw103_0; first | rwa [add_block] at this | exact this) GW108.out)) | (dsimp only; exact Nat.ne_of_lt (Nat.lt_of_lt_of_le (by have := World.block_lt_of_cell? _ _ hw103_0; first | rwa [add_block] at this | exact this) GW108.out))) _).trans (hHeld.2))))))⟩ (fun hHeld => ?_)
            clear hK K
            refine done_ (done_of HT_.out (by kernel_rfl)) ?_
            have hnb20 := NB108_101.out
            have hnc20 := NB101_108.out
            have hcz21_0 : w15.cell? ⟨gb108, 0, none⟩ = some (.int .i64 0) := (Xbc BK108.out 0).trans rfl
            have hcz21_1 : w15.cell? ⟨gb108, 1, none⟩ = some (.int .i64 0) := (Xbc BK108.out 1).trans rfl
            have hcz21_2 : w15.cell? ⟨gb108, 2, none⟩ = some (.slice none 0 0) := (Xbc BK108.out 2).trans rfl
            have hfz21_0 := Xbf BK108.out 0
            have hfz21_1 := Xbf BK108.out 1
            have hfz21_2 := Xbf BK108.out 2
            try go_wp2_with (first | ((with_reducible refine gate_callee (f := 86) rfl ?_); refine goesL_ (some 22) rfl rfl Try.func86 (by kernel_rfl) rfl #[.agg #[.int .i64 (wrap64 (rd l0 0)), .int .i64 (wrap64 (rd l0 1)), .slice Ao16 t105.length co16]] rfl (by (try simp only [List.map_toArray, List.map_cons, List.map_nil]); first | done | rfl | (simp only [List.length_drop, List.length_take]; rfl)) ?_; (with_reducible refine (impl_isPiece.calls (wrap64 (rd l0 0)) (wrap64 (rd l0 1)) _ _ t105 true _ ?side1 ?side2 A7.out).mono ?_); (case side1 => refine (Kd.R_reads' (e := 5) (base := w.heap.size) (ok := fun k_ => True) (n := t105.length) (c := co16) ?_).2.2; exact (by (with_reducible repeat (first | apply Xra | apply Xrn | apply Xrd)); exact (Kd.R_mono (Kd.R_far (p := ⟨gb108, 2, none⟩) (Kd.R_far (p := ⟨gb108, 1, none⟩) (Kd.R_far (p := ⟨gb108, 0, none⟩) (Kd.R_types HO107.out BK108.out (by decide)) (fun _ hk => by first | exact hk.2 | grind) (.int .i64 (wrap64 (rd l0 0)))) (fun _ hk => by first | exact hk.2 | grind) (.int .i64 (wrap64 (rd l0 1)))) (fun _ hk => by first | exact hk.2 | grind) (.slice Ao16 t105.length co16)) (fun _ h_ => h_.1)))); (case side2 => exact (Kd.R_reads' HO107.out).2.1); rintro e w22 ⟨rfl, hb⟩; refine ⟨_, rfl, ?_⟩; have n0_ := Xam (Kd.R_below (by (with_reducible repeat (first | apply Xra | apply Xrn | apply Xrd)); exact (Kd.R_mono (Kd.R_far (p := ⟨gb108, 2, none⟩) (Kd.R_far (p := ⟨gb108, 1, none⟩) (Kd.R_far (p := ⟨gb108, 0, none⟩) (Kd.R_types HO107.out BK108.out (by decide)) (fun _ hk => by first | exact hk.2 | grind) (.int .i64 (wrap64 (rd l0 0)))) (fun _ hk => by first | exact hk.2 | grind) (.int .i64 (wrap64 (rd l0 1)))) (fun _ hk => by first | exact hk.2 | grind) (.slice Ao16 t105.length co16)) (fun _ h_ => h_.1))) hb); have n1_ := Xam (Xbb (g := gb101) (o := .cells #[.int .i64 0, .int .i64 0, .slice none 0 0] 24 (0, 0)) (by (with_reducible repeat (first | refine Xkn ?_ _ | refine Xkd ?_ | refine Xka ?_ _)); refine blk_far ?_ NB101_108.out _; (with_reducible repeat (first | refine Xkn ?_ _ | refine Xkd ?_ | refine Xka ?_ _)); refine blk_far ?_ NB101_108.out _; (with_reducible repeat (first | refine Xkn ?_ _ | refine Xkd ?_ | refine Xka ?_ _)); refine blk_far ?_ NB101_108.out _; (with_reducible repeat (first | refine Xkn ?_ _ | refine Xkd ?_ | refine Xka ?_ _)); exact BK101.out) hb); have n2_ := Xam (Xbb (g := gb108) (o := .cells #[.int .i64 (wrap64 (rd l0 0)), .int .i64 (wrap64 (rd l0 1)), .slice Ao16 t105.length co16] 24 (0, 0)) (by (with_reducible repeat (first | refine Xkn ?_ _ | refine Xkd ?_ | refine Xka ?_ _)); refine blk_put (cs := #[.int .i64 (wrap64 (rd l0 0)), .int .i64 (wrap64 (rd l0 1)), .slice none 0 0]) ?_ 2 _ rfl; (with_reducible repeat (first | refine Xkn ?_ _ | refine Xkd ?_ | refine Xka ?_ _)); refine blk_put (cs := #[.int .i64 (wrap64 (rd l0 0)), .int .i64 0, .slice none 0 0]) ?_ 1 _ rfl; (with_reducible repeat (first | refine Xkn ?_ _ | refine Xkd ?_ | refine Xka ?_ _)); refine blk_put (cs := #[.int .i64 0, .int .i64 0, .slice none 0 0]) ?_ 0 _ rfl; (with_reducible repeat (first | refine Xkn ?_ _ | refine Xkd ?_ | refine Xka ?_ _)); exact BK108.out) hb); have n3_ := Xam (Xbt (by repeat (first | (with_reducible first | exact HB.out | apply Xba | apply Xbn | apply Xbd | refine Xbe ?_ GE101.out | refine Xbe ?_ GE108.out) | exact HB.out)) hb); clear HO107; clear BK101; clear BK108; clear HB; have HO107 := n0_; have BK101 := n1_; have BK108 := n2_; have HB := n3_; clear n0_ n1_ n2_ n3_; (try clear hb); (try clear hb2); (try clear hk); (try clear hi); have hcz23_0 : w22.cell? ⟨gb108, 0, none⟩ = some (.int .i64 (wrap64 (rd l0 0))) := (Xbc BK108.out 0).trans rfl; have hcz23_1 : w22.cell? ⟨gb108, 1, none⟩ = some (.int .i64 (wrap64 (rd l0 1))) := (Xbc BK108.out 1).trans rfl; have hcz23_2 : w22.cell? ⟨gb108, 2, none⟩ = some (.slice Ao16 t105.length co16) := (Xbc BK108.out 2).trans rfl; have hfz23_0 := Xbf BK108.out 0; have hfz23_1 := Xbf BK108.out 1; have hfz23_2 := Xbf BK108.out 2; have hcz24_0 : w22.cell? ⟨gb101, 0, none⟩ = some (.int .i64 0) := (Xbc BK101.out 0).trans rfl; have hcz24_1 : w22.cell? ⟨gb101, 1, none⟩ = some (.int .i64 0) := (Xbc BK101.out 1).trans rfl; have hcz24_2 : w22.cell? ⟨gb101, 2, none⟩ = some (.slice none 0 0) := (Xbc BK101.out 2).trans rfl; have hfz24_0 := Xbf BK101.out 0; have hfz24_1 := Xbf BK101.out 1; have hfz24_2 := Xbf BK101.out 2))
            refine bodyPost_ret (results_ct rfl _ _ gb101 24 #[.int .i64 (wrap64 (rd l0 0)), .int .i64 (wrap64 (rd l0 1)), .slice Ao16 t105.length co16] (0, 0) _ rfl (by (with_reducible repeat (first | refine Xkn ?_ _ | refine Xkd ?_ | refine Xka ?_ _)); refine blk_put (cs := #[.int .i64 (wrap64 (rd l0 0)), .int .i64 (wrap64 (rd l0 1)), .slice none 0 0]) ?_ 2 _ rfl; (with_reducible repeat (first | refine Xkn ?_ _ | refine Xkd ?_ | refine Xka ?_ _)); refine blk_put (cs := #[.int .i64 (wrap64 (rd l0 0)), .int .i64 0, .slice none 0 0]) ?_ 1 _ rfl; (with_reducible repeat (first | refine Xkn ?_ _ | refine Xkd ?_ | refine Xka ?_ _)); refine blk_put (cs := #[.int .i64 0, .int .i64 0, .slice none 0 0]) ?_ 0 _ rfl; (with_reducible repeat (first | refine Xkn ?_ _ | refine Xkd ?_ | refine Xka ?_ _)); exact BK101.out) Try.underlying24 rfl (by kernel_rfl)) rfl ?_
            exact ⟨_, by first | rfl | (simp [errW_none, errW_some] <;> rfl) | (simp [*, errW_none, errW_some] <;> rfl), by (with_reducible repeat (first | apply Xra | apply Xrn | apply Xrd)); exact Kd.R_mono (Kd.R_far (p := ⟨gb101, 2, none⟩) (Kd.R_far (p := ⟨gb101, 1, none⟩) (Kd.R_far (p := ⟨gb101, 0, none⟩) (Kd.R_types HO107.out BK101.out (by decide)) (fun _ hk => by first | exact hk.2 | grind) (.int .i64 (wrap64 (rd l0 0)))) (fun _ hk => by first | exact hk.2 | grind) (.int .i64 (wrap64 (rd l0 1)))) (fun _ hk => by first | exact hk.2 | grind) (.slice Ao16 t105.length co16)) (fun _ hk => by first | exact trivial | grind), by repeat (first | (with_reducible first | exact HB.out | apply Xba | apply Xbn | apply Xbd | refine Xbe ?_ GE101.out | refine Xbe ?_ GE108.out) | exact HB.out)⟩
          · replace c8 := Bool.eq_false_iff.mpr c8
            subst c8
            have H1 : (some (0, 0, ([] : List Int), false)) = some (r1, r2, r3, r4) := by rw [if_neg (show ¬ (false = true) by decide)] at H; exact H
            clear H
            have H := H1
            clear H1
            simp only [Option.some.injEq, Prod.mk.injEq] at H
            obtain ⟨rfl, rfl, rfl, rfl⟩ := H
            go_enter Try.func17, Try.ntmps17
            try go_wp2_with (first | ((with_reducible refine gate_dst (N := 2) rfl ?_); refine box_event ?hg (N := 2) ?hd (cs := #[.int .i64 0, .int .i64 0, .slice none 0 0]) (t := 24) ?hr ?_; (case hd => rfl); (case hg => rfl); (case hr => first | (go_simp; done) | (go_simp; rfl)); intro gb101 hg w25 hbox hb; have n0_ := Xam (Xbt (by repeat (first | (with_reducible first | exact HB.out | apply Xba | apply Xbn | apply Xbd) | exact HB.out)) hb); have n1_ := Xam (hbox); have n2_ := Xam ((by rw [hg]; exact (Xbs (by repeat (first | (with_reducible first | exact HB.out | apply Xba | apply Xbn | apply Xbd) | exact HB.out))) : w.heap.size ≤ gb101)); have n3_ := Xam ((by rw [hg]; exact (Xbs (by repeat (first | (with_reducible first | exact HB.out | apply Xba | apply Xbn | apply Xbd) | exact HB.out))) : w.heap.size ≤ gb101)); clear HB; have HB := n0_; have BK101 := n1_; have GW101 := n2_; have GE101 := n3_; clear n0_ n1_ n2_ n3_; clear hb hbox hg))
            have n0_ := Xam (Xkd BK101.out)
            have n1_ := Xam (Xbd HB.out)
            clear BK101
            clear HB
            have BK101 := n0_
            have HB := n1_
            clear n0_ n1_
            have p102 : 0 ≤ (0 : Int) := (by omega)
            have q102 : 0 < (l0.length : Int) := of_decide_eq_true (by first | (with_reducible assumption) | assumption)
            obtain ⟨ad102, e102, hx102_0⟩ := Kd.at_int HR0.out 0 p102 q102
            have hw102_0 := hx102_0
            (try rw [show ((0 : Int)).toNat = 0 from rfl] at hw102_0)
            (try rw [show 0 * 1 = 0 from rfl] at hw102_0)
            (try rw [Addr.add_zero'] at hw102_0)
            cases e102
            have qi102 : (0 < l0.length) = True := eq_true (by omega)
            (try rw [show ((0 : Int)).toNat = 0 from rfl] at hx102_0)
            (try rw [Addr.add_zero'] at hx102_0)
            replace hx102_0 := (HB.out.cell (World.block_lt_of_cell? w _ hx102_0)).trans hx102_0
            replace p102 := eq_true p102
            replace q102 := eq_true q102
            have p103 : 0 ≤ (1 : Int) := (by omega)
            have q103 : 1 < (l0.length : Int) := of_decide_eq_true (by first | (with_reducible assumption) | assumption)
            obtain ⟨ad103, e103, hx103_0⟩ := Kd.at_int HR0.out 1 p103 q103
            have hw103_0 := hx103_0
            (try rw [show ((1 : Int)).toNat = 1 from rfl] at hw103_0)
            (try rw [show 1 * 1 = 1 from rfl] at hw103_0)
            (try simp only [Nat.reduceMul, Nat.reduceEqDiff, Go.Addr.add, ↓reduceIte] at hw103_0)
            obtain rfl : ad102 = ad103 := (by injection e103)
            (try simp only [show (1 : Int).toNat = 1 from rfl, Nat.reduceMul, Nat.reduceEqDiff, Go.Addr.add, ↓reduceIte] at hx103_0)
            have qi103 : (1 < l0.length) = True := eq_true (by omega)
            (try rw [show ((1 : Int)).toNat = 1 from rfl] at hx103_0)
            replace hx103_0 := (HB.out.cell (World.block_lt_of_cell? w _ hx103_0)).trans hx103_0
            replace p103 := eq_true p103
            replace q103 := eq_true q103
            obtain ⟨i027, hi027, _, hsz27, _⟩ := info_parts info5
            obtain ⟨A27, hcut27, hA27, hC27⟩ := print_drop_of (P := Try.prog) (Value.int .u8) 0 22 5 .i64 Try.underlying22 hi027 hsz27 (some ad102) c0 l0 2 (by omega) (of_decide_eq_true (by first | (with_reducible assumption) | assumption)) HC0.out
            have HR104 := Xam (Kd.C_of_reads (h1 := fun _ => rfl) (hA27 _ (Kd.reads_of_C HR0.out)))
            have HC104 := Xam hC27
            clear hA27 hC27 hi027 hsz27
            refine start_ (n := 14) (S := fun w' => w'.cell? ad102 = some (.int .u8 (rd l0 0)) ∧ w'.cell? ⟨ad102.block, ad102.off + 1, none⟩ = some (.int .u8 (rd l0 1))) (ds := []) #[false, false, false, false, false, false, false, false, false, false, false, false, false, false] (by kernel_rfl) rfl rfl ⟨((HB.out.cell (World.block_lt_of_cell? w _ hw102_0)).trans hw102_0), ((HB.out.cell (World.block_lt_of_cell? w _ hw103_0)).trans hw103_0)⟩ (fun hHeld => ?_); refine with_tabW impl_DecodePiece.tab3 impl_DecodePiece.bits3 (fun HT_ HW_ => ?_)
            generalize w25.drew = w26 at BK101 HB HR104 hx102_0 hx103_0 hHeld ⊢
            refine pure_ (i := 0) (N := some 9) (v := ?_) (a' := ?_) #[true, false, false, false, false, false, false, false, false, false, false, false, false, false] rfl rfl (any_of HT_.out (by kernel_rfl)) (fun _ _ _ h => h) (Or.inl ⟨by rfl, ?_⟩) ?_ ?_
            rotate_left
            · intro w'
              go_simp
              with_reducible rfl
            rotate_left
            · simp only [Act.put, List.setIfInBounds_toArray, List.set_cons_zero, List.set_cons_succ, i64_w, i32_w]
              rfl
            refine pure_ (i := 1) (N := some 10) (v := ?_) (a' := ?_) #[true, true, false, false, false, false, false, false, false, false, false, false, false, false] rfl rfl (any_of HT_.out (by kernel_rfl)) (fun _ _ _ h => h) (Or.inl ⟨by rfl, ?_⟩) ?_ ?_
            rotate_left
            · intro w'
              go_simp
              with_reducible rfl
            rotate_left
            · simp only [Act.put, List.setIfInBounds_toArray, List.set_cons_zero, List.set_cons_succ, i64_w, i32_w]
              rfl
            refine pure_ (i := 4) (N := some 13) (v := ?_) (a' := ?_) #[true, true, false, false, true, false, false, false, false, false, false, false, false, false] rfl rfl (any_of HT_.out (by kernel_rfl)) (fun _ _ _ h => h) (Or.inl ⟨by rfl, ?_⟩) ?_ ?_
            rotate_left
            · intro w'
              go_simp
              with_reducible rfl
            rotate_left
            · simp only [Act.put, List.setIfInBounds_toArray, List.set_cons_zero, List.set_cons_succ, i64_w, i32_w]
              rfl
            refine pure_ (i := 5) (N := some 14) (v := ?_) (a' := ?_) #[true, true, false, false, true, true, false, false, false, false, false, false, false, false] rfl rfl (any_of HT_.out (by kernel_rfl)) (fun _ _ _ h => h) (Or.inl ⟨by rfl, ?_⟩) ?_ ?_
            rotate_left
            · intro w'
              go_simp
              with_reducible rfl
            rotate_left
            · simp only [Act.put, List.setIfInBounds_toArray, List.set_cons_zero, List.set_cons_succ, i64_w, i32_w]
              rfl
            refine pure_ (i := 8) (N := some 17) (v := ?_) (a' := ?_) #[true, true, false, false, true, true, false, false, true, false, false, false, false, false] rfl rfl (any_of HT_.out (by kernel_rfl)) (fun _ _ _ h => h) (Or.inl ⟨by rfl, ?_⟩) ?_ ?_
            rotate_left
            · intro w'
              go_simp
              with_reducible rfl
            rotate_left
            · simp only [Act.put, List.setIfInBounds_toArray, List.set_cons_zero, List.set_cons_succ, i64_w, i32_w]
              rfl
            refine pure_ (i := 9) (N := some 18) (v := ?_) (a' := ?_) #[true, true, false, false, true, true, false, false, true, true, false, false, false, false] rfl rfl (any_of HT_.out (by kernel_rfl)) (fun _ _ _ h => h) (Or.inl ⟨by rfl, ?_⟩) ?_ ?_
            rotate_left
            · intro w'
              go_simp
              with_reducible rfl
            rotate_left
            · simp only [Act.put, List.setIfInBounds_toArray, List.set_cons_zero, List.set_cons_succ, i64_w, i32_w]
              rfl
            refine take_ (i := 2) (N := some 11) (v := ?_) (a' := ?_) #[true, true, true, false, true, true, false, false, true, true, false, false, false, false] rfl rfl (take_ofW HT_.out HW_.out (by kernel_rfl)) (fun _ _ _ h => h) (Or.inl ⟨by rfl, ?_⟩) hHeld ?_ ?_
            rotate_left
            · rintro w' ⟨s0, s1⟩
              go_simp
              with_reducible rfl
            rotate_left
            · simp only [Act.put, List.setIfInBounds_toArray, List.set_cons_zero, List.set_cons_succ, i64_w, i32_w]
              rfl
            refine pure_ (i := 3) (N := some 12) (v := ?_) (a' := ?_) #[true, true, true, true, true, true, false, false, true, true, false, false, false, false] rfl rfl (any_of HT_.out (by kernel_rfl)) (fun _ _ _ h => h) (Or.inl ⟨by rfl, ?_⟩) ?_ ?_
            rotate_left
            · intro w'
              go_simp
              with_reducible rfl
            rotate_left
            · simp only [Act.put, List.setIfInBounds_toArray, List.set_cons_zero, List.set_cons_succ, i64_w, i32_w]
              rfl
            refine take_ (i := 6) (N := some 15) (v := ?_) (a' := ?_) #[true, true, true, true, true, true, true, false, true, true, false, false, false, false] rfl rfl (take_ofW HT_.out HW_.out (by kernel_rfl)) (fun _ _ _ h => h) (Or.inl ⟨by rfl, ?_⟩) hHeld ?_ ?_
            rotate_left
            · rintro w' ⟨s0, s1⟩
              go_simp
              with_reducible rfl
            rotate_left
            · simp only [Act.put, List.setIfInBounds_toArray, List.set_cons_zero, List.set_cons_succ, i64_w, i32_w]
              rfl
            refine pure_ (i := 7) (N := some 16) (v := ?_) (a' := ?_) #[true, true, true, true, true, true, true, true, true, true, false, false, false, false] rfl rfl (any_of HT_.out (by kernel_rfl)) (fun _ _ _ h => h) (Or.inl ⟨by rfl, ?_⟩) ?_ ?_
            rotate_left
            · intro w'
              go_simp
              with_reducible rfl
            rotate_left
            · simp only [Act.put, List.setIfInBounds_toArray, List.set_cons_zero, List.set_cons_succ, i64_w, i32_w]
              rfl
            refine join_ (σ := Value × Nat) 1 #[true, true, true, true, true, true, true, true, true, true, true, true, true, false] (fun s_ => [(19, s_.1), (4, .pointer (some ⟨s_.2, 0, none⟩)), (20, .agg #[.int .i64 (wrap64 (rd l0 0)), .int .i64 (wrap64 (rd l0 1)), s_.1])]) (fun s_ w' => (w'.cell? ad102 = some (.int .u8 (rd l0 0)) ∧ w'.cell? ⟨ad102.block, ad102.off + 1, none⟩ = some (.int .u8 (rd l0 1))) ∧ (Kd.R (Kd.int .u8) 5 w' w.heap.size (fun _ => True) s_.1 t105) ∧ (w'.heap[gb101]? = some (.cells #[.int .i64 0, .int .i64 0, .slice none 0 0] 24 (0, 0))) ∧ (w'.heap[s_.2]? = some (.cells #[.int .i64 0, .int .i64 0, .slice none 0 0] 24 (0, 0))) ∧ (w.heap.size ≤ s_.2) ∧ (w.heap.size ≤ s_.2) ∧ (gb101 ≠ s_.2) ∧ (s_.2 ≠ gb101) ∧ (Below w.heap.size w w')) ?_ ?_
            rotate_left
            · intro hCont
              refine two_ (i := 10) (j := 12) (Ni := some 19) (Nj := some 4) #[true, true, true, true, true, true, true, true, true, true, true, false, false, false] #[true, true, true, true, true, true, true, true, true, true, false, false, true, false] rfl rfl rfl rfl (two_of HT_.out (by kernel_rfl)) (by decide) (by decide) (fun K hK => ?_) (fun K hK => ?_)
              · skip
                refine goes_ Try.func85 (by kernel_rfl) rfl #[.slice A27 (l0.drop 2).length (c0 - 2)] (by rfl) rfl rfl (by (try simp only [List.map_toArray, List.map_cons, List.map_nil]); first | done | (rw [show (l0.drop 2).length = (l0.length - 2) from List.length_drop] <;> rfl) | rfl | (simp only [List.length_drop, List.length_take]; rfl)) ?_
                with_reducible refine (slices_Clone_byte.calls _ _ (l0.drop 2) t105 _ ?side1 ?side2 A6.out).mono ?_
                (case side1 => repeat (first | exact (Kd.C_below HR104.out HB.out) | (with_reducible refine Xca ?_ _) | (with_reducible refine Xcn ?_ _) | (with_reducible refine Xcd ?_)))
                (case side2 => exact HC104.out)
                rintro e w28 ⟨v106, rfl, ho0, hb⟩
                refine ⟨_, rfl, ?_⟩
                have n0_ := Xam (Kd.R_lower ho0 (Xbs (by repeat (first | (with_reducible first | exact HB.out | apply Xba | apply Xbn | apply Xbd | refine Xbe ?_ GE101.out) | exact HB.out))))
                have n1_ := Xam (Xbb (g := gb101) (o := .cells #[.int .i64 0, .int .i64 0, .slice none 0 0] 24 (0, 0)) (by (with_reducible repeat (first | refine Xkn ?_ _ | refine Xkd ?_ | refine Xka ?_ _)); exact BK101.out) hb)
                have n2_ := Xam (Xbt (by repeat (first | (with_reducible first | exact HB.out | apply Xba | apply Xbn | apply Xbd | refine Xbe ?_ GE101.out) | exact HB.out)) hb)
                clear BK101
                clear HB
                have HO107 := n0_
                have BK101 := n1_
                have HB := n2_
                clear n0_ n1_ n2_
                (try clear hb)
                (try clear hb2)
                (try clear hk)
                (try clear hi)
                (try clear ho0)
                obtain ⟨Ao29, co29, eo29⟩ := Kd.R_slice HO107.out
                (first | subst eo29 | (injection eo29 with f1_ f2_ f3_; have f4_ := f1_.symm; have f5_ := f3_.symm; clear f1_ f2_ f3_; subst f4_; subst f5_))
                refine hK.out _ _ ⟨((HB.out.cell (World.block_lt_of_cell? w _ hw102_0)).trans hw102_0), ((HB.out.cell (World.block_lt_of_cell? w _ hw103_0)).trans hw103_0)⟩ (fun hHeld => ?_)
                clear hK K
                refine norm_ (a' := ?_) ?_ ?_
                rotate_left
                · show Act.put _ (some 19) _ = _
                  simp only [Act.put, List.setIfInBounds_toArray, List.set_cons_zero, List.set_cons_succ, i64_w, i32_w]
                  rfl
                refine pure_ (i := 11) (N := some 20) (v := ?_) (a' := ?_) #[true, true, true, true, true, true, true, true, true, true, true, true, false, false] rfl rfl (any_of HT_.out (by kernel_rfl)) (fun _ _ _ h => h) (Or.inl ⟨by rfl, ?_⟩) ?_ ?_
                rotate_left
                · intro w'
                  go_simp
                  with_reducible rfl
                rotate_left
                · simp only [Act.put, List.setIfInBounds_toArray, List.set_cons_zero, List.set_cons_succ, i64_w, i32_w]
                  rfl
                refine one_ (i := 12) (N := some 4) #[true, true, true, true, true, true, true, true, true, true, true, true, true, false] rfl rfl (one_of HT_.out (by kernel_rfl)) (by decide) (fun K hK => ?_)
                refine box_step ?hg (N := 4) ?hd (cs := #[.int .i64 0, .int .i64 0, .slice none 0 0]) (t := 24) ?hr ?_; (case hd => rfl); (case hg => rfl); (case hr => first | (go_simp; done) | (go_simp; rfl))
                intro gb108 hg w30 hbox hb
                have n0_ := Xam (Kd.R_below (by (with_reducible repeat (first | apply Xra | apply Xrn | apply Xrd)); exact HO107.out) hb)
                have n1_ := Xam (Xbb (g := gb101) (o := .cells #[.int .i64 0, .int .i64 0, .slice none 0 0] 24 (0, 0)) (by (with_reducible repeat (first | refine Xkn ?_ _ | refine Xkd ?_ | refine Xka ?_ _)); exact BK101.out) hb)
                have n2_ := Xam (Xbt (by repeat (first | (with_reducible first | exact HB.out | apply Xba | apply Xbn | apply Xbd | refine Xbe ?_ GE101.out) | exact HB.out)) hb)
                have n3_ := Xam (hbox)
                have n4_ := Xam ((by rw [hg]; exact (Xbs (by repeat (first | (with_reducible first | exact HB.out | apply Xba | apply Xbn | apply Xbd | refine Xbe ?_ GE101.out) | exact HB.out))) : w.heap.size ≤ gb108))
                have n5_ := Xam ((by rw [hg]; exact (Xbs (by repeat (first | (with_reducible first | exact HB.out | apply Xba | apply Xbn | apply Xbd | refine Xbe ?_ GE101.out) | exact HB.out))) : w.heap.size ≤ gb108))
                have n6_ := Xam ((by rw [hg]; exact Nat.ne_of_lt (Xbl (g := gb101) (o := .cells #[.int .i64 0, .int .i64 0, .slice none 0 0] 24 (0, 0)) (by (with_reducible repeat (first | refine Xkn ?_ _ | refine Xkd ?_ | refine Xka ?_ _)); exact BK101.out)) : gb101 ≠ gb108))
                have n7_ := Xam ((by rw [hg]; exact Nat.ne_of_gt (Xbl (g := gb101) (o := .cells #[.int .i64 0, .int .i64 0, .slice none 0 0] 24 (0, 0)) (by (with_reducible repeat (first | refine Xkn ?_ _ | refine Xkd ?_ | refine Xka ?_ _)); exact BK101.out)) : gb108 ≠ gb101))
                clear HO107
                clear BK101
                clear HB
                have HO107 := n0_
                have BK101 := n1_
                have HB := n2_
                have BK108 := n3_
                have GW108 := n4_
                have GE108 := n5_
                have NB101_108 := n6_
                have NB108_101 := n7_
                clear n0_ n1_ n2_ n3_ n4_ n5_ n6_ n7_
                clear hb hbox hg
                refine hK.out _ _ ⟨((HB.out.cell (World.block_lt_of_cell? w _ hw102_0)).trans hw102_0), ((HB.out.cell (World.block_lt_of_cell? w _ hw103_0)).trans hw103_0)⟩ (fun hHeld => ?_)
                clear hK K
                refine norm_ (a' := ?_) ?_ ?_
                rotate_left
                · show Act.put _ (some 4) _ = _
                  simp only [Act.put, List.setIfInBounds_toArray, List.set_cons_zero, List.set_cons_succ, i64_w, i32_w]
                  rfl
                exact norm_ (by simp only [putAll, Act.put, List.setIfInBounds_toArray, List.set_cons_zero, List.set_cons_succ]) (hCont (.slice Ao29 t105.length co29, gb108) _ ⟨hHeld, (by (with_reducible repeat (first | apply Xra | apply Xrn | apply Xrd)); exact HO107.out), (by (with_reducible repeat (first | refine Xkn ?_ _ | refine Xkd ?_ | refine Xka ?_ _)); exact BK101.out), (by (with_reducible repeat (first | refine Xkn ?_ _ | refine Xkd ?_ | refine Xka ?_ _)); exact BK108.out), GW108.out, GE108.out, NB101_108.out, NB108_101.out, (by repeat (first | (with_reducible first | exact HB.out | apply Xba | apply Xbn | apply Xbd | refine Xbe ?_ GE101.out | refine Xbe ?_ GE108.out) | exact HB.out))⟩)
              · skip
                refine box_step ?hg (N := 4) ?hd (cs := #[.int .i64 0, .int .i64 0, .slice none 0 0]) (t := 24) ?hr ?_; (case hd => rfl); (case hg => rfl); (case hr => first | (go_simp; done) | (go_simp; rfl))
                intro gb108 hg w28 hbox hb
                have n0_ := Xam (Xbb (g := gb101) (o := .cells #[.int .i64 0, .int .i64 0, .slice none 0 0] 24 (0, 0)) (by (with_reducible repeat (first | refine Xkn ?_ _ | refine Xkd ?_ | refine Xka ?_ _)); exact BK101.out) hb)
                have n1_ := Xam (Xbt (by repeat (first | (with_reducible first | exact HB.out | apply Xba | apply Xbn | apply Xbd | refine Xbe ?_ GE101.out) | exact HB.out)) hb)
                have n2_ := Xam (hbox)
                have n3_ := Xam ((by rw [hg]; exact (Xbs (by repeat (first | (with_reducible first | exact HB.out | apply Xba | apply Xbn | apply Xbd | refine Xbe ?_ GE101.out) | exact HB.out))) : w.heap.size ≤ gb108))
                have n4_ := Xam ((by rw [hg]; exact (Xbs (by repeat (first | (with_reducible first | exact HB.out | apply Xba | apply Xbn | apply Xbd | refine Xbe ?_ GE101.out) | exact HB.out))) : w.heap.size ≤ gb108))
                have n5_ := Xam ((by rw [hg]; exact Nat.ne_of_lt (Xbl (g := gb101) (o := .cells #[.int .i64 0, .int .i64 0, .slice none 0 0] 24 (0, 0)) (by (with_reducible repeat (first | refine Xkn ?_ _ | refine Xkd ?_ | refine Xka ?_ _)); exact BK101.out)) : gb101 ≠ gb108))
                have n6_ := Xam ((by rw [hg]; exact Nat.ne_of_gt (Xbl (g := gb101) (o := .cells #[.int .i64 0, .int .i64 0, .slice none 0 0] 24 (0, 0)) (by (with_reducible repeat (first | refine Xkn ?_ _ | refine Xkd ?_ | refine Xka ?_ _)); exact BK101.out)) : gb108 ≠ gb101))
                clear BK101
                clear HB
                have BK101 := n0_
                have HB := n1_
                have BK108 := n2_
                have GW108 := n3_
                have GE108 := n4_
                have NB101_108 := n5_
                have NB108_101 := n6_
                clear n0_ n1_ n2_ n3_ n4_ n5_ n6_
                clear hb hbox hg
                refine hK.out _ _ ⟨((HB.out.cell (World.block_lt_of_cell? w _ hw102_0)).trans hw102_0), ((HB.out.cell (World.block_lt_of_cell? w _ hw103_0)).trans hw103_0)⟩ (fun hHeld => ?_)
                clear hK K
                refine norm_ (a' := ?_) ?_ ?_
                rotate_left
                · show Act.put _ (some 4) _ = _
                  simp only [Act.put, List.setIfInBounds_toArray, List.set_cons_zero, List.set_cons_succ, i64_w, i32_w]
                  rfl
                refine one_ (i := 10) (N := some 19) #[true, true, true, true, true, true, true, true, true, true, true, false, true, false] rfl rfl (one_of HT_.out (by kernel_rfl)) (by decide) (fun K hK => ?_)
                refine goes_ Try.func85 (by kernel_rfl) rfl #[.slice A27 (l0.drop 2).length (c0 - 2)] (by rfl) rfl rfl (by (try simp only [List.map_toArray, List.map_cons, List.map_nil]); first | done | (rw [show (l0.drop 2).length = (l0.length - 2) from List.length_drop] <;> rfl) | rfl | (simp only [List.length_drop, List.length_take]; rfl)) ?_
                with_reducible refine (slices_Clone_byte.calls _ _ (l0.drop 2) t105 _ ?side1 ?side2 A6.out).mono ?_
                (case side1 => repeat (first | exact (Kd.C_below HR104.out HB.out) | (with_reducible refine Xca ?_ _) | (with_reducible refine Xcn ?_ _) | (with_reducible refine Xcd ?_)))
                (case side2 => exact HC104.out)
                rintro e w29 ⟨v106, rfl, ho0, hb⟩
                refine ⟨_, rfl, ?_⟩
                have n0_ := Xam (Kd.R_lower ho0 (Xbs (by repeat (first | (with_reducible first | exact HB.out | apply Xba | apply Xbn | apply Xbd | refine Xbe ?_ GE101.out | refine Xbe ?_ GE108.out) | exact HB.out))))
                have n1_ := Xam (Xbb (g := gb101) (o := .cells #[.int .i64 0, .int .i64 0, .slice none 0 0] 24 (0, 0)) (by (with_reducible repeat (first | refine Xkn ?_ _ | refine Xkd ?_ | refine Xka ?_ _)); exact BK101.out) hb)
                have n2_ := Xam (Xbb (g := gb108) (o := .cells #[.int .i64 0, .int .i64 0, .slice none 0 0] 24 (0, 0)) (by (with_reducible repeat (first | refine Xkn ?_ _ | refine Xkd ?_ | refine Xka ?_ _)); exact BK108.out) hb)
                have n3_ := Xam (Xbt (by repeat (first | (with_reducible first | exact HB.out | apply Xba | apply Xbn | apply Xbd | refine Xbe ?_ GE101.out | refine Xbe ?_ GE108.out) | exact HB.out)) hb)
                clear BK101
                clear BK108
                clear HB
                have HO107 := n0_
                have BK101 := n1_
                have BK108 := n2_
                have HB := n3_
                clear n0_ n1_ n2_ n3_
                (try clear hb)
                (try clear hb2)
                (try clear hk)
                (try clear hi)
                (try clear ho0)
                obtain ⟨Ao30, co30, eo30⟩ := Kd.R_slice HO107.out
                (first | subst eo30 | (injection eo30 with f1_ f2_ f3_; have f4_ := f1_.symm; have f5_ := f3_.symm; clear f1_ f2_ f3_; subst f4_; subst f5_))
                refine hK.out _ _ ⟨((HB.out.cell (World.block_lt_of_cell? w _ hw102_0)).trans hw102_0), ((HB.out.cell (World.block_lt_of_cell? w _ hw103_0)).trans hw103_0)⟩ (fun hHeld => ?_)
                clear hK K
                refine norm_ (a' := ?_) ?_ ?_
                rotate_left
                · show Act.put _ (some 19) _ = _
                  simp only [Act.put, List.setIfInBounds_toArray, List.set_cons_zero, List.set_cons_succ, i64_w, i32_w]
                  rfl
                refine pure_ (i := 11) (N := some 20) (v := ?_) (a' := ?_) #[true, true, true, true, true, true, true, true, true, true, true, true, true, false] rfl rfl (any_of HT_.out (by kernel_rfl)) (fun _ _ _ h => h) (Or.inl ⟨by rfl, ?_⟩) ?_ ?_
                rotate_left
                · intro w'
                  go_simp
                  with_reducible rfl
                rotate_left
                · simp only [Act.put, List.setIfInBounds_toArray, List.set_cons_zero, List.set_cons_succ, i64_w, i32_w]
                  rfl
                exact norm_ (by simp only [putAll, Act.put, List.setIfInBounds_toArray, List.set_cons_zero, List.set_cons_succ]) (hCont (.slice Ao30 t105.length co30, gb108) _ ⟨hHeld, (by (with_reducible repeat (first | apply Xra | apply Xrn | apply Xrd)); exact HO107.out), (by (with_reducible repeat (first | refine Xkn ?_ _ | refine Xkd ?_ | refine Xka ?_ _)); exact BK101.out), (by (with_reducible repeat (first | refine Xkn ?_ _ | refine Xkd ?_ | refine Xka ?_ _)); exact BK108.out), GW108.out, GE108.out, NB101_108.out, NB108_101.out, (by repeat (first | (with_reducible first | exact HB.out | apply Xba | apply Xbn | apply Xbd | refine Xbe ?_ GE101.out | refine Xbe ?_ GE108.out) | exact HB.out))⟩)
            rintro ⟨v106, gb108⟩ w31 ⟨hS_, h0_, h1_, h2_, h3_, h4_, h5_, h6_, h7_⟩
            have n0_ : Aside0 (Kd.R (Kd.int .u8) 5 w31 w.heap.size (fun _ => True) v106 t105) := ⟨h0_⟩
            have n1_ : Aside0 (w31.heap[gb101]? = some (.cells #[.int .i64 0, .int .i64 0, .slice none 0 0] 24 (0, 0))) := ⟨h1_⟩
            have n2_ : Aside0 (w31.heap[gb108]? = some (.cells #[.int .i64 0, .int .i64 0, .slice none 0 0] 24 (0, 0))) := ⟨h2_⟩
            have n3_ : Aside0 (w.heap.size ≤ gb108) := ⟨h3_⟩
            have n4_ : Aside0 (w.heap.size ≤ gb108) := ⟨h4_⟩
            have n5_ : Aside0 (gb101 ≠ gb108) := ⟨h5_⟩
            have n6_ : Aside0 (gb108 ≠ gb101) := ⟨h6_⟩
            have n7_ : Aside0 (Below w.heap.size w w31) := ⟨h7_⟩
            clear BK101
            clear HB
            clear h0_ h1_ h2_ h3_ h4_ h5_ h6_ h7_
            have HO107 := n0_
            have BK101 := n1_
            have BK108 := n2_
            have GW108 := n3_
            have GE108 := n4_
            have NB101_108 := n5_
            have NB108_101 := n6_
            have HB := n7_
            clear n0_ n1_ n2_ n3_ n4_ n5_ n6_ n7_
            have hHeld : w31.cell? ad102 = some (.int .u8 (rd l0 0)) ∧ w31.cell? ⟨ad102.block, ad102.off + 1, none⟩ = some (.int .u8 (rd l0 1)) := hS_
            obtain ⟨Ao32, co32, eo32⟩ := Kd.R_slice HO107.out
            (first | subst eo32 | (injection eo32 with f1_ f2_ f3_; have f4_ := f1_.symm; have f5_ := f3_.symm; clear f1_ f2_ f3_; subst f4_; subst f5_))
            refine norm_ (a' := ?_) ?_ ?_
            rotate_left
            · simp only [putAll, Act.put, List.setIfInBounds_toArray, List.set_cons_zero, List.set_cons_succ]
              rfl
            refine one_ (i := 13) (N := none) #[true, true, true, true, true, true, true, true, true, true, true, true, true, true] rfl rfl (one_of HT_.out (by kernel_rfl)) (by decide) (fun K hK => ?_)
            have hs33 : w31.cell? ⟨gb108, 0, none⟩ = some (.int .i64 0) := (Xbc BK108.out 0).trans rfl
            have hfs33 := Xbf BK108.out 0
            have hns33_0 := NB101_108.out
            have hms33_0 := NB108_101.out
            have hs34 : w31.cell? ⟨gb108, 1, none⟩ = some (.int .i64 0) := (Xbc BK108.out 1).trans rfl
            have hfs34 := Xbf BK108.out 1
            have hns34_0 := NB101_108.out
            have hms34_0 := NB108_101.out
            have hs35 : w31.cell? ⟨gb108, 2, none⟩ = some (.slice none 0 0) := (Xbc BK108.out 2).trans rfl
            have hfs35 := Xbf BK108.out 2
            have hns35_0 := NB101_108.out
            have hms35_0 := NB108_101.out
            refine skip_ (w1 := ?_) (by rfl) rfl ?_ ?_
            rotate_left
            · go_simp
              rfl
            refine hK.out _ _ ⟨((cell_far (p := ⟨gb108, _, none⟩) (by first | exact Nat.ne_of_lt (Nat.lt_of_lt_of_le (by have := World.block_lt_of_cell? _ _ hw102_0; first | rwa [add_block] at this | exact this) GW108.out) | (rw [add_block]; exact Nat.ne_of_lt (Nat.lt_of_lt_of_le (by have := World.block_lt_of_cell? _ _ hw102_0; first | rwa [add_block] at this | exact this) GW108.out)) | (show (Addr.add _ _).block ≠ _; rw [add_block]; exact Nat.ne_of_lt (Nat.lt_of_lt_of_le (by have := World.block_lt_of_cell? _ _ hw102_0; first | rwa [add_block] at this | exact this) GW108.out)) | (dsimp only; exact Nat.ne_of_lt (Nat.lt_of_lt_of_le (by have := World.block_lt_of_cell? _ _ hw102_0; first | rwa [add_block] at this | exact this) GW108.out))) _).trans (((cell_far (p := ⟨gb108, _, none⟩) (by first | exact Nat.ne_of_lt (Nat.lt_of_lt_of_le (by have := World.block_lt_of_cell? _ _ hw102_0; first | rwa [add_block] at this | exact this) GW108.out) | (rw [add_block]; exact Nat.ne_of_lt (Nat.lt_of_lt_of_le (by have := World.block_lt_of_cell? _ _ hw102_0; first | rwa [add_block] at this | exact this) GW108.out)) | (show (Addr.add _ _).block ≠ _; rw [add_block]; exact Nat.ne_of_lt (Nat.lt_of_lt_of_le (by have := World.block_lt_of_cell? _ _ hw102_0; first | rwa [add_block] at this | exact this) GW108.out)) | (dsimp only; exact Nat.ne_of_lt (Nat.lt_of_lt_of_le (by have := World.block_lt_of_cell? _ _ hw102_0; first | rwa [add_block] at this | exact this) GW108.out))) _).trans (((cell_far (p := ⟨gb108, _, none⟩) (by first | exact Nat.ne_of_lt (Nat.lt_of_lt_of_le (by have := World.block_lt_of_cell? _ _ hw102_0; first | rwa [add_block] at this | exact this) GW108.out) | (rw [add_block]; exact Nat.ne_of_lt (Nat.lt_of_lt_of_le (by have := World.block_lt_of_cell? _ _ hw102_0; first | rwa [add_block] at this | exact this) GW108.out)) | (show (Addr.add _ _).block ≠ _; rw [add_block]; exact Nat.ne_of_lt (Nat.lt_of_lt_of_le (by have := World.block_lt_of_cell? _ _ hw102_0; first | rwa [add_block] at this | exact this) GW108.out)) | (dsimp only; exact Nat.ne_of_lt (Nat.lt_of_lt_of_le (by have := World.block_lt_of_cell? _ _ hw102_0; first | rwa [add_block] at this | exact this) GW108.out))) _).trans (hHeld.1)))))), ((cell_far (p := ⟨gb108, _, none⟩) (by first | exact Nat.ne_of_lt (Nat.lt_of_lt_of_le (by have := World.block_lt_of_cell? _ _ hw103_0; first | rwa [add_block] at this | exact this) GW108.out) | (rw [add_block]; exact Nat.ne_of_lt (Nat.lt_of_lt_of_le (by have := World.block_lt_of_cell? _ _ hw103_0; first | rwa [add_block] at this | exact this) GW108.out)) | (show (Addr.add _ _).block ≠ _; rw [add_block]; exact Nat.ne_of_lt (Nat.lt_of_lt_of_le (by have := World.block_lt_of_cell? _ _ hw103_0; first | rwa [add_block] at this | exact this) GW108.out)) | (dsimp only; exact Nat.ne_of_lt (Nat.lt_of_lt_of_le (by have := World.block_lt_of_cell? _ _ hw103_0; first | rwa [add_block] at this | exact this) GW108.out))) _).trans (((cell_far (p := ⟨gb108, _, none⟩) (by first | exact Nat.ne_of_lt (Nat.lt_of_lt_of_le (by have := World.block_lt_of_cell? _ _ hw103_0; first | rwa [add_block] at this | exact this) GW108.out) | (rw [add_block]; exact Nat.ne_of_lt (Nat.lt_of_lt_of_le (by have := World.block_lt_of_cell? _ _ hw103_0; first | rwa [add_block] at this | exact this) GW108.out)) | (show (Addr.add _ _).block ≠ _; rw [add_block]; exact Nat.ne_of_lt (Nat.lt_of_lt_of_le (by have := World.block_lt_of_cell? _ _ hw103_0; first | rwa [add_block] at this | exact this) GW108.out)) | (dsimp only; exact Nat.ne_of_lt (Nat.lt_of_lt_of_le (by have := World.block_lt_of_cell? _ _ hw103_0; first | rwa [add_block] at this | exact this) GW108.out))) _).trans (((cell_far (p := ⟨gb108, _, none⟩) (by first | exact Nat.ne_of_lt (Nat.lt_of_lt_of_le (by have := World.block_lt_of_cell? _ _ hw103_0; first | rwa [add_block] at this | exact this) GW108.out) | (rw [add_block]; exact Nat.ne_of_lt (Nat.lt_of_lt_of_le (by have := World.block_lt_of_cell? _ _ hw103_0; first | rwa [add_block] at this | exact this) GW108.out)) | (show (Addr.add _ _).block ≠ _; rw [add_block]; exact Nat.ne_of_lt (Nat.lt_of_lt_of_le (by have := World.block_lt_of_cell? _ _ hw103_0; first | rwa [add_block] at this | exact this) GW108.out)) | (dsimp only; exact Nat.ne_of_lt (Nat.lt_of_lt_of_le (by have := World.block_lt_of_cell? _ _ hw103_0; first | rwa [add_block] at this | exact this) GW108.out))) _).trans (hHeld.2))))))⟩ (fun hHeld => ?_)
            clear hK K
            refine done_ (done_of HT_.out (by kernel_rfl)) ?_
            have hnb36 := NB108_101.out
            have hnc36 := NB101_108.out
            have hcz37_0 : w31.cell? ⟨gb108, 0, none⟩ = some (.int .i64 0) := (Xbc BK108.out 0).trans rfl
            have hcz37_1 : w31.cell? ⟨gb108, 1, none⟩ = some (.int .i64 0) := (Xbc BK108.out 1).trans rfl
            have hcz37_2 : w31.cell? ⟨gb108, 2, none⟩ = some (.slice none 0 0) := (Xbc BK108.out 2).trans rfl
            have hfz37_0 := Xbf BK108.out 0
            have hfz37_1 := Xbf BK108.out 1
            have hfz37_2 := Xbf BK108.out 2
            try go_wp2_with (first | ((with_reducible refine gate_callee (f := 86) rfl ?_); refine goesL_ (some 22) rfl rfl Try.func86 (by kernel_rfl) rfl #[.agg #[.int .i64 (wrap64 (rd l0 0)), .int .i64 (wrap64 (rd l0 1)), .slice Ao32 t105.length co32]] rfl (by (try simp only [List.map_toArray, List.map_cons, List.map_nil]); first | done | rfl | (simp only [List.length_drop, List.length_take]; rfl)) ?_; (with_reducible refine (impl_isPiece.calls (wrap64 (rd l0 0)) (wrap64 (rd l0 1)) _ _ t105 false _ ?side1 ?side2 A7.out).mono ?_); (case side1 => refine (Kd.R_reads' (e := 5) (base := w.heap.size) (ok := fun k_ => True) (n := t105.length) (c := co32) ?_).2.2; exact (by (with_reducible repeat (first | apply Xra | apply Xrn | apply Xrd)); exact (Kd.R_mono (Kd.R_far (p := ⟨gb108, 2, none⟩) (Kd.R_far (p := ⟨gb108, 1, none⟩) (Kd.R_far (p := ⟨gb108, 0, none⟩) (Kd.R_types HO107.out BK108.out (by decide)) (fun _ hk => by first | exact hk.2 | grind) (.int .i64 (wrap64 (rd l0 0)))) (fun _ hk => by first | exact hk.2 | grind) (.int .i64 (wrap64 (rd l0 1)))) (fun _ hk => by first | exact hk.2 | grind) (.slice Ao32 t105.length co32)) (fun _ h_ => h_.1)))); (case side2 => exact (Kd.R_reads' HO107.out).2.1); rintro e w38 ⟨rfl, hb⟩; refine ⟨_, rfl, ?_⟩; have n0_ := Xam (Kd.R_below (by (with_reducible repeat (first | apply Xra | apply Xrn | apply Xrd)); exact (Kd.R_mono (Kd.R_far (p := ⟨gb108, 2, none⟩) (Kd.R_far (p := ⟨gb108, 1, none⟩) (Kd.R_far (p := ⟨gb108, 0, none⟩) (Kd.R_types HO107.out BK108.out (by decide)) (fun _ hk => by first | exact hk.2 | grind) (.int .i64 (wrap64 (rd l0 0)))) (fun _ hk => by first | exact hk.2 | grind) (.int .i64 (wrap64 (rd l0 1)))) (fun _ hk => by first | exact hk.2 | grind) (.slice Ao32 t105.length co32)) (fun _ h_ => h_.1))) hb); have n1_ := Xam (Xbb (g := gb101) (o := .cells #[.int .i64 0, .int .i64 0, .slice none 0 0] 24 (0, 0)) (by (with_reducible repeat (first | refine Xkn ?_ _ | refine Xkd ?_ | refine Xka ?_ _)); refine blk_far ?_ NB101_108.out _; (with_reducible repeat (first | refine Xkn ?_ _ | refine Xkd ?_ | refine Xka ?_ _)); refine blk_far ?_ NB101_108.out _; (with_reducible repeat (first | refine Xkn ?_ _ | refine Xkd ?_ | refine Xka ?_ _)); refine blk_far ?_ NB101_108.out _; (with_reducible repeat (first | refine Xkn ?_ _ | refine Xkd ?_ | refine Xka ?_ _)); exact BK101.out) hb); have n2_ := Xam (Xbb (g := gb108) (o := .cells #[.int .i64 (wrap64 (rd l0 0)), .int .i64 (wrap64 (rd l0 1)), .slice Ao32 t105.length co32] 24 (0, 0)) (by (with_reducible repeat (first | refine Xkn ?_ _ | refine Xkd ?_ | refine Xka ?_ _)); refine blk_put (cs := #[.int .i64 (wrap64 (rd l0 0)), .int .i64 (wrap64 (rd l0 1)), .slice none 0 0]) ?_ 2 _ rfl; (with_reducible repeat (first | refine Xkn ?_ _ | refine Xkd ?_ | refine Xka ?_ _)); refine blk_put (cs := #[.int .i64 (wrap64 (rd l0 0)), .int .i64 0, .slice none 0 0]) ?_ 1 _ rfl; (with_reducible repeat (first | refine Xkn ?_ _ | refine Xkd ?_ | refine Xka ?_ _)); refine blk_put (cs := #[.int .i64 0, .int .i64 0, .slice none 0 0]) ?_ 0 _ rfl; (with_reducible repeat (first | refine Xkn ?_ _ | refine Xkd ?_ | refine Xka ?_ _)); exact BK108.out) hb); have n3_ := Xam (Xbt (by repeat (first | (with_reducible first | exact HB.out | apply Xba | apply Xbn | apply Xbd | refine Xbe ?_ GE101.out | refine Xbe ?_ GE108.out) | exact HB.out)) hb); clear HO107; clear BK101; clear BK108; clear HB; have HO107 := n0_; have BK101 := n1_; have BK108 := n2_; have HB := n3_; clear n0_ n1_ n2_ n3_; (try clear hb); (try clear hb2); (try clear hk); (try clear hi); have hcz39_0 : w38.cell? ⟨gb101, 0, none⟩ = some (.int .i64 0) := (Xbc BK101.out 0).trans rfl; have hcz39_1 : w38.cell? ⟨gb101, 1, none⟩ = some (.int .i64 0) := (Xbc BK101.out 1).trans rfl; have hcz39_2 : w38.cell? ⟨gb101, 2, none⟩ = some (.slice none 0 0) := (Xbc BK101.out 2).trans rfl; have hfz39_0 := Xbf BK101.out 0; have hfz39_1 := Xbf BK101.out 1; have hfz39_2 := Xbf BK101.out 2))
            refine bodyPost_ret (results_ct rfl _ _ gb101 24 #[.int .i64 0, .int .i64 0, .slice none 0 0] (0, 0) _ rfl (by (with_reducible repeat (first | refine Xkn ?_ _ | refine Xkd ?_ | refine Xka ?_ _)); refine blk_put (cs := #[.int .i64 0, .int .i64 0, .slice none 0 0]) ?_ 2 _ rfl; (with_reducible repeat (first | refine Xkn ?_ _ | refine Xkd ?_ | refine Xka ?_ _)); refine blk_put (cs := #[.int .i64 0, .int .i64 0, .slice none 0 0]) ?_ 1 _ rfl; (with_reducible repeat (first | refine Xkn ?_ _ | refine Xkd ?_ | refine Xka ?_ _)); refine blk_put (cs := #[.int .i64 0, .int .i64 0, .slice none 0 0]) ?_ 0 _ rfl; (with_reducible repeat (first | refine Xkn ?_ _ | refine Xkd ?_ | refine Xka ?_ _)); exact BK101.out) Try.underlying24 rfl (by kernel_rfl)) rfl ?_
            exact ⟨_, by first | rfl | (simp [errW_none, errW_some] <;> rfl) | (simp [*, errW_none, errW_some] <;> rfl), by first | exact Kd.R_nil _ _ _ _ _ | exact Kd.N_nil _ _ _ _ _ | exact Kd.V_nil _ _ _ _ _ | exact Kd.Q_nil _ _ _ _ _ | exact Kd.S_nil _ _ _ _ _, by repeat (first | (with_reducible first | exact HB.out | apply Xba | apply Xbn | apply Xbd | refine Xbe ?_ GE101.out | refine Xbe ?_ GE108.out) | exact HB.out)⟩
        · rw [if_neg c5] at H
          exact absurd H (by simp)
      · rw [if_neg c4] at H
        exact absurd H (by simp)
    · rw [if_neg c3] at H
      exact absurd H (by simp)
  · rw [if_neg c2] at H
    have c2b0 : ((l0.length : Int) == 14) = false := beq_eq_false_iff_ne.mpr c2
    have c2b1 : ((l0.length : Int) != 14) = true := bne_iff_ne.mpr c2
    simp only [Option.some.injEq, Prod.mk.injEq] at H
    obtain ⟨rfl, rfl, rfl, rfl⟩ := H
    go_enter Try.func17, Try.ntmps17
    go_wp2_with (first | ((with_reducible refine gate_dst (N := 2) rfl ?_); refine box_event ?hg (N := 2) ?hd (cs := #[.int .i64 0, .int .i64 0, .slice none 0 0]) (t := 24) ?hr ?_; (case hd => rfl); (case hg => rfl); (case hr => first | (go_simp; done) | (go_simp; rfl)); intro gb101 hg w40 hbox hb; have n0_ := Xam (Xbt (by repeat (first | (with_reducible first | exact HB.out | apply Xba | apply Xbn | apply Xbd) | exact HB.out)) hb); have n1_ := Xam (hbox); have n2_ := Xam ((by rw [hg]; exact (Xbs (by repeat (first | (with_reducible first | exact HB.out | apply Xba | apply Xbn | apply Xbd) | exact HB.out))) : w.heap.size ≤ gb101)); have n3_ := Xam ((by rw [hg]; exact (Xbs (by repeat (first | (with_reducible first | exact HB.out | apply Xba | apply Xbn | apply Xbd) | exact HB.out))) : w.heap.size ≤ gb101)); clear HB; have HB := n0_; have BK101 := n1_; have GW101 := n2_; have GE101 := n3_; clear n0_ n1_ n2_ n3_; clear hb hbox hg; have hcz41_0 : w40.cell? ⟨gb101, 0, none⟩ = some (.int .i64 0) := (Xbc BK101.out 0).trans rfl; have hcz41_1 : w40.cell? ⟨gb101, 1, none⟩ = some (.int .i64 0) := (Xbc BK101.out 1).trans rfl; have hcz41_2 : w40.cell? ⟨gb101, 2, none⟩ = some (.slice none 0 0) := (Xbc BK101.out 2).trans rfl; have hfz41_0 := Xbf BK101.out 0; have hfz41_1 := Xbf BK101.out 1; have hfz41_2 := Xbf BK101.out 2))
    refine bodyPost_ret (results_ct rfl _ _ gb101 24 #[.int .i64 0, .int .i64 0, .slice none 0 0] (0, 0) _ rfl (by (with_reducible repeat (first | refine Xkn ?_ _ | refine Xkd ?_ | refine Xka ?_ _)); refine blk_put (cs := #[.int .i64 0, .int .i64 0, .slice none 0 0]) ?_ 2 _ rfl; (with_reducible repeat (first | refine Xkn ?_ _ | refine Xkd ?_ | refine Xka ?_ _)); refine blk_put (cs := #[.int .i64 0, .int .i64 0, .slice none 0 0]) ?_ 1 _ rfl; (with_reducible repeat (first | refine Xkn ?_ _ | refine Xkd ?_ | refine Xka ?_ _)); refine blk_put (cs := #[.int .i64 0, .int .i64 0, .slice none 0 0]) ?_ 0 _ rfl; (with_reducible repeat (first | refine Xkn ?_ _ | refine Xkd ?_ | refine Xka ?_ _)); exact BK101.out) Try.underlying24 rfl (by kernel_rfl)) rfl ?_
    exact ⟨_, by first | rfl | (simp [errW_none, errW_some] <;> rfl) | (simp [*, errW_none, errW_some] <;> rfl), by first | exact Kd.R_nil _ _ _ _ _ | exact Kd.N_nil _ _ _ _ _ | exact Kd.V_nil _ _ _ _ _ | exact Kd.Q_nil _ _ _ _ _ | exact Kd.S_nil _ _ _ _ _, by repeat (first | (with_reducible first | exact HB.out | apply Xba | apply Xbn | apply Xbd | refine Xbe ?_ GE101.out) | exact HB.out)⟩

/-! ### laws_eqPiece: function 18 -/
def laws_eqPiece.f (k : Nat) (a0_0 : Int) (a0_1 : Int) (l0_2 : List Int) (a1_0 : Int) (a1_1 : Int) (l1_2 : List Int) : Option (Bool) := if a0_0 = a1_0 then (if a0_1 = a1_1 then ((laws_eqByteS.f k l0_2 l1_2).bind fun t103 => (if t103 = true then (some true) else (some false))) else (some false)) else (some false)
theorem laws_eqPiece.mono : ∀ a0 a1 a2 a3 a4 a5 k, LeO (laws_eqPiece.f k a0 a1 a2 a3 a4 a5) (laws_eqPiece.f (k + 1) a0 a1 a2 a3 a4 a5) := by
  intro a0 a1 a2 a3 a4 a5 k
  unfold laws_eqPiece.f
  repeat' first
      | (with_reducible exact laws_eqByteS.mono _ _ _)
      | (with_reducible exact LeO.refl _)
      | (with_reducible exact LeO.none _)
      | (with_reducible refine LeO.ite ?_ ?_)
      | (with_reducible refine LeO.bind ?_ (fun _ => ?_))
      | exact laws_eqByteS.mono _ _ _
      | exact LeO.none _
      | refine LeO.ite ?_ ?_
      | refine LeO.bind ?_ (fun _ => ?_)
set_option maxHeartbeats 8000000 in
set_option maxRecDepth 100000 in
theorem laws_eqPiece.calls (k : Nat) (a0_0 : Int) (a0_1 : Int) (A0_2 : Option Addr) (c0_2 : Nat) (l0_2 : List Int) (a1_0 : Int) (a1_1 : Int) (A1_2 : Option Addr) (c1_2 : Nat) (l1_2 : List Int) (r : Bool) (w : World) (hr0_2 : Kd.C (Kd.int .u8) w A0_2 l0_2.length l0_2) (hc0_2 : l0_2.length ≤ c0_2) (hr1_2 : Kd.C (Kd.int .u8) w A1_2 l1_2.length l1_2) (hc1_2 : l1_2.length ≤ c1_2) (h : laws_eqPiece.f k a0_0 a0_1 l0_2 a1_0 a1_1 l1_2 = some r) :
    Calls Try.prog 18 #[.agg #[.int .i64 a0_0, .int .i64 a0_1, .slice A0_2 l0_2.length c0_2], .agg #[.int .i64 a1_0, .int .i64 a1_1, .slice A1_2 l1_2.length c1_2]] w fun e w' => e = .returned (.bool r) ∧ Below w.heap.size w w' := by
  have hu24 := Try.underlying24
  have HR0_2 := Xam hr0_2
  have HC0_2 := Xam hc0_2
  clear hr0_2 hc0_2
  have HR1_2 := Xam hr1_2
  have HC1_2 := Xam hc1_2
  clear hr1_2 hc1_2
  have HB := Xam (Below.refl w.heap.size w)
  have H : (if a0_0 = a1_0 then (if a0_1 = a1_1 then ((laws_eqByteS.f k l0_2 l1_2).bind fun t103 => (if t103 = true then (some true) else (some false))) else (some false)) else (some false)) = some r := h
  clear h
  by_cases c3 : a0_0 = a1_0
  · rw [if_pos c3] at H
    have c3b0 : (a0_0 == a1_0) = true := beq_iff_eq.mpr c3
    have c3b1 : (a0_0 != a1_0) = false := bne_eq_false_iff_eq.mpr c3
    clear c3
    by_cases c4 : a0_1 = a1_1
    · rw [if_pos c4] at H
      have c4b0 : (a0_1 == a1_1) = true := beq_iff_eq.mpr c4
      have c4b1 : (a0_1 != a1_1) = false := bne_eq_false_iff_eq.mpr c4
      clear c4
      replace H := Option.bind_eq_some_iff.mp H
      obtain ⟨t103, A50, H⟩ := H
      replace H : (if t103 = true then (some true) else (some false)) = some r := H
      have A5 := Xam A50
      clear A50
      by_cases c6 : t103 = true
      · subst c6
        have H1 : (some true) = some r := by rw [if_pos rfl] at H; exact H
        clear H
        have H := H1
        clear H1
        obtain rfl := Option.some.inj H
        go_enter Try.func18, Try.ntmps18
        go_wp2_with (first | ((with_reducible refine gate_dst (N := 2) rfl ?_); refine box_event ?hg (N := 2) ?hd (cs := #[.int .i64 a0_0, .int .i64 a0_1, .slice A0_2 l0_2.length c0_2]) (t := 24) ?hr ?_; (case hd => rfl); (case hg => rfl); (case hr => first | (go_simp; done) | (go_simp; rfl)); intro gb101 hg w7 hbox hb; have n0_ := Xam (Xbt (by repeat (first | (with_reducible first | exact HB.out | apply Xba | apply Xbn | apply Xbd) | exact HB.out)) hb); have n1_ := Xam (hbox); have n2_ := Xam ((by rw [hg]; exact (Xbs (by repeat (first | (with_reducible first | exact HB.out | apply Xba | apply Xbn | apply Xbd) | exact HB.out))) : w.heap.size ≤ gb101)); have n3_ := Xam ((by rw [hg]; exact (Xbs (by repeat (first | (with_reducible first | exact HB.out | apply Xba | apply Xbn | apply Xbd) | exact HB.out))) : w.heap.size ≤ gb101)); clear HB; have HB := n0_; have BK101 := n1_; have GW101 := n2_; have GE101 := n3_; clear n0_ n1_ n2_ n3_; clear hb hbox hg) | ((with_reducible refine gate_dst (N := 3) rfl ?_); refine box_event ?hg (N := 3) ?hd (cs := #[.int .i64 a1_0, .int .i64 a1_1, .slice A1_2 l1_2.length c1_2]) (t := 24) ?hr ?_; (case hd => rfl); (case hg => rfl); (case hr => first | (go_simp; done) | (go_simp; rfl)); intro gb102 hg w8 hbox hb; have n0_ := Xam (Xbb (g := gb101) (o := .cells #[.int .i64 a0_0, .int .i64 a0_1, .slice A0_2 l0_2.length c0_2] 24 (0, 0)) (by (with_reducible repeat (first | refine Xkn ?_ _ | refine Xkd ?_ | refine Xka ?_ _)); exact BK101.out) hb); have n1_ := Xam (Xbt (by repeat (first | (with_reducible first | exact HB.out | apply Xba | apply Xbn | apply Xbd | refine Xbe ?_ GE101.out) | exact HB.out)) hb); have n2_ := Xam (hbox); have n3_ := Xam ((by rw [hg]; exact (Xbs (by repeat (first | (with_reducible first | exact HB.out | apply Xba | apply Xbn | apply Xbd | refine Xbe ?_ GE101.out) | exact HB.out))) : w.heap.size ≤ gb102)); have n4_ := Xam ((by rw [hg]; exact (Xbs (by repeat (first | (with_reducible first | exact HB.out | apply Xba | apply Xbn | apply Xbd | refine Xbe ?_ GE101.out) | exact HB.out))) : w.heap.size ≤ gb102)); have n5_ := Xam ((by rw [hg]; exact Nat.ne_of_lt (Xbl (g := gb101) (o := .cells #[.int .i64 a0_0, .int .i64 a0_1, .slice A0_2 l0_2.length c0_2] 24 (0, 0)) (by (with_reducible repeat (first | refine Xkn ?_ _ | refine Xkd ?_ | refine Xka ?_ _)); exact BK101.out)) : gb101 ≠ gb102)); have n6_ := Xam ((by rw [hg]; exact Nat.ne_of_gt (Xbl (g := gb101) (o := .cells #[.int .i64 a0_0, .int .i64 a0_1, .slice A0_2 l0_2.length c0_2] 24 (0, 0)) (by (with_reducible repeat (first | refine Xkn ?_ _ | refine Xkd ?_ | refine Xka ?_ _)); exact BK101.out)) : gb102 ≠ gb101)); clear BK101; clear HB; have BK101 := n0_; have HB := n1_; have BK102 := n2_; have GW102 := n3_; have GE102 := n4_; have NB101_102 := n5_; have NB102_101 := n6_; clear n0_ n1_ n2_ n3_ n4_ n5_ n6_; clear hb hbox hg; have hnb9 := NB101_102.out; have hnc9 := NB102_101.out; have hcz10_0 : w8.cell? ⟨gb101, 0, none⟩ = some (.int .i64 a0_0) := (Xbc BK101.out 0).trans rfl; have hcz10_1 : w8.cell? ⟨gb101, 1, none⟩ = some (.int .i64 a0_1) := (Xbc BK101.out 1).trans rfl; have hcz10_2 : w8.cell? ⟨gb101, 2, none⟩ = some (.slice A0_2 l0_2.length c0_2) := (Xbc BK101.out 2).trans rfl; have hfz10_0 := Xbf BK101.out 0; have hfz10_1 := Xbf BK101.out 1; have hfz10_2 := Xbf BK101.out 2; have hcz11_0 : w8.cell? ⟨gb102, 0, none⟩ = some (.int .i64 a1_0) := (Xbc BK102.out 0).trans rfl; have hcz11_1 : w8.cell? ⟨gb102, 1, none⟩ = some (.int .i64 a1_1) := (Xbc BK102.out 1).trans rfl; have hcz11_2 : w8.cell? ⟨gb102, 2, none⟩ = some (.slice A1_2 l1_2.length c1_2) := (Xbc BK102.out 2).trans rfl; have hfz11_0 := Xbf BK102.out 0; have hfz11_1 := Xbf BK102.out 1; have hfz11_2 := Xbf BK102.out 2) | ((with_reducible refine gate_callee (f := 19) rfl ?_); refine goesL_ (some 19) rfl rfl Try.func19 (by kernel_rfl) rfl #[.slice A0_2 l0_2.length c0_2, .slice A1_2 l1_2.length c1_2] rfl (by (try simp only [List.map_toArray, List.map_cons, List.map_nil]); first | done | rfl | (simp only [List.length_drop, List.length_take]; rfl)) ?_; (with_reducible refine (laws_eqByteS.calls k _ _ l0_2 _ _ l1_2 true _ ?side1 ?side2 ?side3 ?side4 A5.out).mono ?_); (case side1 => repeat (first | exact (Kd.C_below HR0_2.out HB.out) | (with_reducible refine Xca ?_ _) | (with_reducible refine Xcn ?_ _) | (with_reducible refine Xcd ?_))); (case side2 => exact HC0_2.out); (case side3 => repeat (first | exact (Kd.C_below HR1_2.out HB.out) | (with_reducible refine Xca ?_ _) | (with_reducible refine Xcn ?_ _) | (with_reducible refine Xcd ?_))); (case side4 => exact HC1_2.out); rintro e w' ⟨rfl, ⟨nd, rfl⟩⟩; refine ⟨_, rfl, ?_⟩))
        go_ret
        exact ⟨by first | rfl | (simp [errW_none, errW_some] <;> rfl) | (simp [*, errW_none, errW_some] <;> rfl), by repeat (first | (with_reducible first | exact HB.out | apply Xba | apply Xbn | apply Xbd | refine Xbe ?_ GE101.out | refine Xbe ?_ GE102.out) | exact HB.out)⟩
      · replace c6 := Bool.eq_false_iff.mpr c6
        subst c6
        have H1 : (some false) = some r := by rw [if_neg (show ¬ (false = true) by decide)] at H; exact H
        clear H
        have H := H1
        clear H1
        obtain rfl := Option.some.inj H
        go_enter Try.func18, Try.ntmps18
        go_wp2_with (first | ((with_reducible refine gate_dst (N := 2) rfl ?_); refine box_event ?hg (N := 2) ?hd (cs := #[.int .i64 a0_0, .int .i64 a0_1, .slice A0_2 l0_2.length c0_2]) (t := 24) ?hr ?_; (case hd => rfl); (case hg => rfl); (case hr => first | (go_simp; done) | (go_simp; rfl)); intro gb101 hg w12 hbox hb; have n0_ := Xam (Xbt (by repeat (first | (with_reducible first | exact HB.out | apply Xba | apply Xbn | apply Xbd) | exact HB.out)) hb); have n1_ := Xam (hbox); have n2_ := Xam ((by rw [hg]; exact (Xbs (by repeat (first | (with_reducible first | exact HB.out | apply Xba | apply Xbn | apply Xbd) | exact HB.out))) : w.heap.size ≤ gb101)); have n3_ := Xam ((by rw [hg]; exact (Xbs (by repeat (first | (with_reducible first | exact HB.out | apply Xba | apply Xbn | apply Xbd) | exact HB.out))) : w.heap.size ≤ gb101)); clear HB; have HB := n0_; have BK101 := n1_; have GW101 := n2_; have GE101 := n3_; clear n0_ n1_ n2_ n3_; clear hb hbox hg) | ((with_reducible refine gate_dst (N := 3) rfl ?_); refine box_event ?hg (N := 3) ?hd (cs := #[.int .i64 a1_0, .int .i64 a1_1, .slice A1_2 l1_2.length c1_2]) (t := 24) ?hr ?_; (case hd => rfl); (case hg => rfl); (case hr => first | (go_simp; done) | (go_simp; rfl)); intro gb102 hg w13 hbox hb; have n0_ := Xam (Xbb (g := gb101) (o := .cells #[.int .i64 a0_0, .int .i64 a0_1, .slice A0_2 l0_2.length c0_2] 24 (0, 0)) (by (with_reducible repeat (first | refine Xkn ?_ _ | refine Xkd ?_ | refine Xka ?_ _)); exact BK101.out) hb); have n1_ := Xam (Xbt (by repeat (first | (with_reducible first | exact HB.out | apply Xba | apply Xbn | apply Xbd | refine Xbe ?_ GE101.out) | exact HB.out)) hb); have n2_ := Xam (hbox); have n3_ := Xam ((by rw [hg]; exact (Xbs (by repeat (first | (with_reducible first | exact HB.out | apply Xba | apply Xbn | apply Xbd | refine Xbe ?_ GE101.out) | exact HB.out))) : w.heap.size ≤ gb102)); have n4_ := Xam ((by rw [hg]; exact (Xbs (by repeat (first | (with_reducible first | exact HB.out | apply Xba | apply Xbn | apply Xbd | refine Xbe ?_ GE101.out) | exact HB.out))) : w.heap.size ≤ gb102)); have n5_ := Xam ((by rw [hg]; exact Nat.ne_of_lt (Xbl (g := gb101) (o := .cells #[.int .i64 a0_0, .int .i64 a0_1, .slice A0_2 l0_2.length c0_2] 24 (0, 0)) (by (with_reducible repeat (first | refine Xkn ?_ _ | refine Xkd ?_ | refine Xka ?_ _)); exact BK101.out)) : gb101 ≠ gb102)); have n6_ := Xam ((by rw [hg]; exact Nat.ne_of_gt (Xbl (g := gb101) (o := .cells #[.int .i64 a0_0, .int .i64 a0_1, .slice A0_2 l0_2.length c0_2] 24 (0, 0)) (by (with_reducible repeat (first | refine Xkn ?_ _ | refine Xkd ?_ | refine Xka ?_ _)); exact BK101.out)) : gb102 ≠ gb101)); clear BK101; clear HB; have BK101 := n0_; have HB := n1_; have BK102 := n2_; have GW102 := n3_; have GE102 := n4_; have NB101_102 := n5_; have NB102_101 := n6_; clear n0_ n1_ n2_ n3_ n4_ n5_ n6_; clear hb hbox hg; have hnb14 := NB101_102.out; have hnc14 := NB102_101.out; have hcz15_0 : w13.cell? ⟨gb101, 0, none⟩ = some (.int .i64 a0_0) := (Xbc BK101.out 0).trans rfl; have hcz15_1 : w13.cell? ⟨gb101, 1, none⟩ = some (.int .i64 a0_1) := (Xbc BK101.out 1).trans rfl; have hcz15_2 : w13.cell? ⟨gb101, 2, none⟩ = some (.slice A0_2 l0_2.length c0_2) := (Xbc BK101.out 2).trans rfl; have hfz15_0 := Xbf BK101.out 0; have hfz15_1 := Xbf BK101.out 1; have hfz15_2 := Xbf BK101.out 2; have hcz16_0 : w13.cell? ⟨gb102, 0, none⟩ = some (.int .i64 a1_0) := (Xbc BK102.out 0).trans rfl; have hcz16_1 : w13.cell? ⟨gb102, 1, none⟩ = some (.int .i64 a1_1) := (Xbc BK102.out 1).trans rfl; have hcz16_2 : w13.cell? ⟨gb102, 2, none⟩ = some (.slice A1_2 l1_2.length c1_2) := (Xbc BK102.out 2).trans rfl; have hfz16_0 := Xbf BK102.out 0; have hfz16_1 := Xbf BK102.out 1; have hfz16_2 := Xbf BK102.out 2) | ((with_reducible refine gate_callee (f := 19) rfl ?_); refine goesL_ (some 19) rfl rfl Try.func19 (by kernel_rfl) rfl #[.slice A0_2 l0_2.length c0_2, .slice A1_2 l1_2.length c1_2] rfl (by (try simp only [List.map_toArray, List.map_cons, List.map_nil]); first | done | rfl | (simp only [List.length_drop, List.length_take]; rfl)) ?_; (with_reducible refine (laws_eqByteS.calls k _ _ l0_2 _ _ l1_2 false _ ?side1 ?side2 ?side3 ?side4 A5.out).mono ?_); (case side1 => repeat (first | exact (Kd.C_below HR0_2.out HB.out) | (with_reducible refine Xca ?_ _) | (with_reducible refine Xcn ?_ _) | (with_reducible refine Xcd ?_))); (case side2 => exact HC0_2.out); (case side3 => repeat (first | exact (Kd.C_below HR1_2.out HB.out) | (with_reducible refine Xca ?_ _) | (with_reducible refine Xcn ?_ _) | (with_reducible refine Xcd ?_))); (case side4 => exact HC1_2.out); rintro e w' ⟨rfl, ⟨nd, rfl⟩⟩; refine ⟨_, rfl, ?_⟩))
        go_ret
        exact ⟨by first | rfl | (simp [errW_none, errW_some] <;> rfl) | (simp [*, errW_none, errW_some] <;> rfl), by repeat (first | (with_reducible first | exact HB.out | apply Xba | apply Xbn | apply Xbd | refine Xbe ?_ GE101.out | refine Xbe ?_ GE102.out) | exact HB.out)⟩
    · rw [if_neg c4] at H
      have c4b0 : (a0_1 == a1_1) = false := beq_eq_false_iff_ne.mpr c4
      have c4b1 : (a0_1 != a1_1) = true := bne_iff_ne.mpr c4
      obtain rfl := Option.some.inj H
      go_enter Try.func18, Try.ntmps18
      go_wp2_with (first | ((with_reducible refine gate_dst (N := 2) rfl ?_); refine box_event ?hg (N := 2) ?hd (cs := #[.int .i64 a0_0, .int .i64 a0_1, .slice A0_2 l0_2.length c0_2]) (t := 24) ?hr ?_; (case hd => rfl); (case hg => rfl); (case hr => first | (go_simp; done) | (go_simp; rfl)); intro gb101 hg w17 hbox hb; have n0_ := Xam (Xbt (by repeat (first | (with_reducible first | exact HB.out | apply Xba | apply Xbn | apply Xbd) | exact HB.out)) hb); have n1_ := Xam (hbox); have n2_ := Xam ((by rw [hg]; exact (Xbs (by repeat (first | (with_reducible first | exact HB.out | apply Xba | apply Xbn | apply Xbd) | exact HB.out))) : w.heap.size ≤ gb101)); have n3_ := Xam ((by rw [hg]; exact (Xbs (by repeat (first | (with_reducible first | exact HB.out | apply Xba | apply Xbn | apply Xbd) | exact HB.out))) : w.heap.size ≤ gb101)); clear HB; have HB := n0_; have BK101 := n1_; have GW101 := n2_; have GE101 := n3_; clear n0_ n1_ n2_ n3_; clear hb hbox hg) | ((with_reducible refine gate_dst (N := 3) rfl ?_); refine box_event ?hg (N := 3) ?hd (cs := #[.int .i64 a1_0, .int .i64 a1_1, .slice A1_2 l1_2.length c1_2]) (t := 24) ?hr ?_; (case hd => rfl); (case hg => rfl); (case hr => first | (go_simp; done) | (go_simp; rfl)); intro gb102 hg w18 hbox hb; have n0_ := Xam (Xbb (g := gb101) (o := .cells #[.int .i64 a0_0, .int .i64 a0_1, .slice A0_2 l0_2.length c0_2] 24 (0, 0)) (by (with_reducible repeat (first | refine Xkn ?_ _ | refine Xkd ?_ | refine Xka ?_ _)); exact BK101.out) hb); have n1_ := Xam (Xbt (by repeat (first | (with_reducible first | exact HB.out | apply Xba | apply Xbn | apply Xbd | refine Xbe ?_ GE101.out) | exact HB.out)) hb); have n2_ := Xam (hbox); have n3_ := Xam ((by rw [hg]; exact (Xbs (by repeat (first | (with_reducible first | exact HB.out | apply Xba | apply Xbn | apply Xbd | refine Xbe ?_ GE101.out) | exact HB.out))) : w.heap.size ≤ gb102)); have n4_ := Xam ((by rw [hg]; exact (Xbs (by repeat (first | (with_reducible first | exact HB.out | apply Xba | apply Xbn | apply Xbd | refine Xbe ?_ GE101.out) | exact HB.out))) : w.heap.size ≤ gb102)); have n5_ := Xam ((by rw [hg]; exact Nat.ne_of_lt (Xbl (g := gb101) (o := .cells #[.int .i64 a0_0, .int .i64 a0_1, .slice A0_2 l0_2.length c0_2] 24 (0, 0)) (by (with_reducible repeat (first | refine Xkn ?_ _ | refine Xkd ?_ | refine Xka ?_ _)); exact BK101.out)) : gb101 ≠ gb102)); have n6_ := Xam ((by rw [hg]; exact Nat.ne_of_gt (Xbl (g := gb101) (o := .cells #[.int .i64 a0_0, .int .i64 a0_1, .slice A0_2 l0_2.length c0_2] 24 (0, 0)) (by (with_reducible repeat (first | refine Xkn ?_ _ | refine Xkd ?_ | refine Xka ?_ _)); exact BK101.out)) : gb102 ≠ gb101)); clear BK101; clear HB; have BK101 := n0_; have HB := n1_; have BK102 := n2_; have GW102 := n3_; have GE102 := n4_; have NB101_102 := n5_; have NB102_101 := n6_; clear n0_ n1_ n2_ n3_ n4_ n5_ n6_; clear hb hbox hg; have hnb19 := NB101_102.out; have hnc19 := NB102_101.out; have hcz20_0 : w18.cell? ⟨gb101, 0, none⟩ = some (.int .i64 a0_0) := (Xbc BK101.out 0).trans rfl; have hcz20_1 : w18.cell? ⟨gb101, 1, none⟩ = some (.int .i64 a0_1) := (Xbc BK101.out 1).trans rfl; have hcz20_2 : w18.cell? ⟨gb101, 2, none⟩ = some (.slice A0_2 l0_2.length c0_2) := (Xbc BK101.out 2).trans rfl; have hfz20_0 := Xbf BK101.out 0; have hfz20_1 := Xbf BK101.out 1; have hfz20_2 := Xbf BK101.out 2; have hcz21_0 : w18.cell? ⟨gb102, 0, none⟩ = some (.int .i64 a1_0) := (Xbc BK102.out 0).trans rfl; have hcz21_1 : w18.cell? ⟨gb102, 1, none⟩ = some (.int .i64 a1_1) := (Xbc BK102.out 1).trans rfl; have hcz21_2 : w18.cell? ⟨gb102, 2, none⟩ = some (.slice A1_2 l1_2.length c1_2) := (Xbc BK102.out 2).trans rfl; have hfz21_0 := Xbf BK102.out 0; have hfz21_1 := Xbf BK102.out 1; have hfz21_2 := Xbf BK102.out 2))
      go_ret
      exact ⟨by first | rfl | (simp [errW_none, errW_some] <;> rfl) | (simp [*, errW_none, errW_some] <;> rfl), by repeat (first | (with_reducible first | exact HB.out | apply Xba | apply Xbn | apply Xbd | refine Xbe ?_ GE101.out | refine Xbe ?_ GE102.out) | exact HB.out)⟩
  · rw [if_neg c3] at H
    have c3b0 : (a0_0 == a1_0) = false := beq_eq_false_iff_ne.mpr c3
    have c3b1 : (a0_0 != a1_0) = true := bne_iff_ne.mpr c3
    obtain rfl := Option.some.inj H
    go_enter Try.func18, Try.ntmps18
    go_wp2_with (first | ((with_reducible refine gate_dst (N := 2) rfl ?_); refine box_event ?hg (N := 2) ?hd (cs := #[.int .i64 a0_0, .int .i64 a0_1, .slice A0_2 l0_2.length c0_2]) (t := 24) ?hr ?_; (case hd => rfl); (case hg => rfl); (case hr => first | (go_simp; done) | (go_simp; rfl)); intro gb101 hg w22 hbox hb; have n0_ := Xam (Xbt (by repeat (first | (with_reducible first | exact HB.out | apply Xba | apply Xbn | apply Xbd) | exact HB.out)) hb); have n1_ := Xam (hbox); have n2_ := Xam ((by rw [hg]; exact (Xbs (by repeat (first | (with_reducible first | exact HB.out | apply Xba | apply Xbn | apply Xbd) | exact HB.out))) : w.heap.size ≤ gb101)); have n3_ := Xam ((by rw [hg]; exact (Xbs (by repeat (first | (with_reducible first | exact HB.out | apply Xba | apply Xbn | apply Xbd) | exact HB.out))) : w.heap.size ≤ gb101)); clear HB; have HB := n0_; have BK101 := n1_; have GW101 := n2_; have GE101 := n3_; clear n0_ n1_ n2_ n3_; clear hb hbox hg) | ((with_reducible refine gate_dst (N := 3) rfl ?_); refine box_event ?hg (N := 3) ?hd (cs := #[.int .i64 a1_0, .int .i64 a1_1, .slice A1_2 l1_2.length c1_2]) (t := 24) ?hr ?_; (case hd => rfl); (case hg => rfl); (case hr => first | (go_simp; done) | (go_simp; rfl)); intro gb102 hg w23 hbox hb; have n0_ := Xam (Xbb (g := gb101) (o := .cells #[.int .i64 a0_0, .int .i64 a0_1, .slice A0_2 l0_2.length c0_2] 24 (0, 0)) (by (with_reducible repeat (first | refine Xkn ?_ _ | refine Xkd ?_ | refine Xka ?_ _)); exact BK101.out) hb); have n1_ := Xam (Xbt (by repeat (first | (with_reducible first | exact HB.out | apply Xba | apply Xbn | apply Xbd | refine Xbe ?_ GE101.out) | exact HB.out)) hb); have n2_ := Xam (hbox); have n3_ := Xam ((by rw [hg]; exact (Xbs (by repeat (first | (with_reducible first | exact HB.out | apply Xba | apply Xbn | apply Xbd | refine Xbe ?_ GE101.out) | exact HB.out))) : w.heap.size ≤ gb102)); have n4_ := Xam ((by rw [hg]; exact (Xbs (by repeat (first | (with_reducible first | exact HB.out | apply Xba | apply Xbn | apply Xbd | refine Xbe ?_ GE101.out) | exact HB.out))) : w.heap.size ≤ gb102)); have n5_ := Xam ((by rw [hg]; exact Nat.ne_of_lt (Xbl (g := gb101) (o := .cells #[.int .i64 a0_0, .int .i64 a0_1, .slice A0_2 l0_2.length c0_2] 24 (0, 0)) (by (with_reducible repeat (first | refine Xkn ?_ _ | refine Xkd ?_ | refine Xka ?_ _)); exact BK101.out)) : gb101 ≠ gb102)); have n6_ := Xam ((by rw [hg]; exact Nat.ne_of_gt (Xbl (g := gb101) (o := .cells #[.int .i64 a0_0, .int .i64 a0_1, .slice A0_2 l0_2.length c0_2] 24 (0, 0)) (by (with_reducible repeat (first | refine Xkn ?_ _ | refine Xkd ?_ | refine Xka ?_ _)); exact BK101.out)) : gb102 ≠ gb101)); clear BK101; clear HB; have BK101 := n0_; have HB := n1_; have BK102 := n2_; have GW102 := n3_; have GE102 := n4_; have NB101_102 := n5_; have NB102_101 := n6_; clear n0_ n1_ n2_ n3_ n4_ n5_ n6_; clear hb hbox hg; have hnb24 := NB101_102.out; have hnc24 := NB102_101.out; have hcz25_0 : w23.cell? ⟨gb101, 0, none⟩ = some (.int .i64 a0_0) := (Xbc BK101.out 0).trans rfl; have hcz25_1 : w23.cell? ⟨gb101, 1, none⟩ = some (.int .i64 a0_1) := (Xbc BK101.out 1).trans rfl; have hcz25_2 : w23.cell? ⟨gb101, 2, none⟩ = some (.slice A0_2 l0_2.length c0_2) := (Xbc BK101.out 2).trans rfl; have hfz25_0 := Xbf BK101.out 0; have hfz25_1 := Xbf BK101.out 1; have hfz25_2 := Xbf BK101.out 2; have hcz26_0 : w23.cell? ⟨gb102, 0, none⟩ = some (.int .i64 a1_0) := (Xbc BK102.out 0).trans rfl; have hcz26_1 : w23.cell? ⟨gb102, 1, none⟩ = some (.int .i64 a1_1) := (Xbc BK102.out 1).trans rfl; have hcz26_2 : w23.cell? ⟨gb102, 2, none⟩ = some (.slice A1_2 l1_2.length c1_2) := (Xbc BK102.out 2).trans rfl; have hfz26_0 := Xbf BK102.out 0; have hfz26_1 := Xbf BK102.out 1; have hfz26_2 := Xbf BK102.out 2))
    go_ret
    exact ⟨by first | rfl | (simp [errW_none, errW_some] <;> rfl) | (simp [*, errW_none, errW_some] <;> rfl), by repeat (first | (with_reducible first | exact HB.out | apply Xba | apply Xbn | apply Xbd | refine Xbe ?_ GE101.out | refine Xbe ?_ GE102.out) | exact HB.out)⟩

/-! ### laws_markPiece: function 21 -/
def laws_markPiece.f (k : Nat) (a0_0 : Int) (a0_1 : Int) (l0_2 : List Int) (a1 : Int) : Option (Int × List Int) := (laws_markByteS.f k l0_2 a1).bind fun bt102 => (some (bt102.1, bt102.2))
theorem laws_markPiece.mono : ∀ a0 a1 a2 a3 k, LeO (laws_markPiece.f k a0 a1 a2 a3) (laws_markPiece.f (k + 1) a0 a1 a2 a3) := by
  intro a0 a1 a2 a3 k
  unfold laws_markPiece.f
  repeat' first
      | (with_reducible exact laws_markByteS.mono _ _ _)
      | (with_reducible exact LeO.refl _)
      | (with_reducible exact LeO.none _)
      | (with_reducible refine LeO.ite ?_ ?_)
      | (with_reducible refine LeO.bind ?_ (fun _ => ?_))
      | exact laws_markByteS.mono _ _ _
      | exact LeO.none _
      | refine LeO.ite ?_ ?_
      | refine LeO.bind ?_ (fun _ => ?_)
set_option maxHeartbeats 8000000 in
set_option maxRecDepth 100000 in
theorem laws_markPiece.calls (k : Nat) (a0_0 : Int) (a0_1 : Int) (P0_2_ : Nat → Prop) (u9000_ : Value) (l0_2 : List Int) (a1 : Int) (r1 : Int) (r2 : List Int) (w0 w : World) (hB : Below w0.heap.size w0 w) (ho0_2 : Kd.R (Kd.int .u8) 5 w w0.heap.size P0_2_ u9000_ l0_2) (h : laws_markPiece.f k a0_0 a0_1 l0_2 a1 = some (r1, r2)) :
    Calls Try.prog 21 #[.agg #[.int .i64 a0_0, .int .i64 a0_1, u9000_], .int .i64 a1] w fun e w' => e = .returned (.int .i64 r1) ∧ Kd.R (Kd.int .u8) 5 w' w0.heap.size (fun k_ => (P0_2_ k_ ∨ w.heap.size ≤ k_)) u9000_ r2 ∧ Below w0.heap.size w0 w' ∧ Kept w w' (fun k_ => P0_2_ k_) := by
  have hu24 := Try.underlying24
  have HO0_2 := Xam (show Kd.R (Kd.int .u8) 5 w w0.heap.size (fun k_ => (P0_2_ k_ ∨ w.heap.size ≤ k_)) u9000_ l0_2 from Kd.R_mono ho0_2 (fun k_ hk => by first | exact (.inl hk) | grind))
  have HK := Xam (Kept.refl w (fun k_ => P0_2_ k_))
  have HW0 := Xam hB.size
  have HB := Xam hB
  clear hB
  have H : ((laws_markByteS.f k l0_2 a1).bind fun bt102 => (some (bt102.1, bt102.2))) = some (r1, r2) := h
  clear h
  replace H := Option.bind_eq_some_iff.mp H
  obtain ⟨⟨t102, t103⟩, A30, H⟩ := H
  replace H : (some (t102, t103)) = some (r1, r2) := H
  have A3 := Xam A30
  clear A30
  simp only [Option.some.injEq, Prod.mk.injEq] at H
  obtain ⟨rfl, rfl⟩ := H
  obtain ⟨Ao4, co4, eo4⟩ := Kd.R_slice HO0_2.out
  subst eo4
  go_enter Try.func21, Try.ntmps21
  go_wp2_with (first | ((with_reducible refine gate_dst (N := 2) rfl ?_); refine box_event ?hg (N := 2) ?hd (cs := #[.int .i64 a0_0, .int .i64 a0_1, .slice Ao4 l0_2.length co4]) (t := 24) ?hr ?_; (case hd => rfl); (case hg => rfl); (case hr => first | (go_simp; done) | (go_simp; rfl)); intro gb101 hg w5 hbox hb; have n0_ := Xam (Kd.R_below (by (with_reducible repeat (first | apply Xra | apply Xrn | apply Xrd)); exact HO0_2.out) hb); have n1_ := Xam (Kept.below (S := (fun k_ => P0_2_ k_)) (by repeat (first | (with_reducible first | exact HK.out | apply Kept.alloc | apply Kept.drewN | apply Kept.drew) | exact HK.out)) hb); have n2_ := Xam (Xbt (by repeat (first | (with_reducible first | exact HB.out | apply Xba | apply Xbn | apply Xbd) | exact HB.out)) hb); have n3_ := Xam (hbox); have n4_ := Xam ((by rw [hg]; exact (by first | exact HK.out.1 | exact (show Kept w _ (fun k_ => P0_2_ k_) from by repeat (first | (with_reducible first | exact HK.out | apply Kept.alloc | apply Kept.drewN | apply Kept.drew) | exact HK.out)).1) : w.heap.size ≤ gb101)); have n5_ := Xam ((by rw [hg]; exact (Xbs (by repeat (first | (with_reducible first | exact HB.out | apply Xba | apply Xbn | apply Xbd) | exact HB.out))) : w0.heap.size ≤ gb101)); clear HO0_2; clear HK; clear HB; have HO0_2 := n0_; have HK := n1_; have HB := n2_; have BK101 := n3_; have GW101 := n4_; have GE101 := n5_; clear n0_ n1_ n2_ n3_ n4_ n5_; clear hb hbox hg; have hcz6_0 : w5.cell? ⟨gb101, 0, none⟩ = some (.int .i64 a0_0) := (Xbc BK101.out 0).trans rfl; have hcz6_1 : w5.cell? ⟨gb101, 1, none⟩ = some (.int .i64 a0_1) := (Xbc BK101.out 1).trans rfl; have hcz6_2 : w5.cell? ⟨gb101, 2, none⟩ = some (.slice Ao4 l0_2.length co4) := (Xbc BK101.out 2).trans rfl; have hfz6_0 := Xbf BK101.out 0; have hfz6_1 := Xbf BK101.out 1; have hfz6_2 := Xbf BK101.out 2) | ((with_reducible refine gate_callee (f := 20) rfl ?_); refine goesL_ (some 8) rfl rfl Try.func20 (by kernel_rfl) rfl #[.slice Ao4 l0_2.length co4, .int .i64 a1] rfl (by (try simp only [List.map_toArray, List.map_cons, List.map_nil]); first | done | rfl | (simp only [List.length_drop, List.length_take]; rfl)) ?_; (with_reducible refine (laws_markByteS.calls k (fun k_ => some k_ = (.slice Ao4 l0_2.length co4 : Value).ownBlock) (.slice Ao4 l0_2.length co4) l0_2 a1 t102 t103 w0 _ ?side1 ?side2 A3.out).mono ?_); (case side1 => repeat (first | (with_reducible first | exact HB.out | apply Xba | apply Xbn | apply Xbd | refine Xbe ?_ GE101.out) | exact HB.out)); (case side2 => exact Kd.R_tight rfl HO0_2.out); rintro e w7 ⟨rfl, hy0, hb, hkp⟩; refine ⟨_, rfl, ?_⟩; have n0_ := Xam (Kd.R_reok rfl hy0 (fun k_ e_ => HO0_2.out.1 k_ e_)); have n1_ := Xam (blk_kept (by (with_reducible repeat (first | refine Xkn ?_ _ | refine Xkd ?_ | refine Xka ?_ _)); exact BK101.out) hkp (fun hs_ => (fun e_ => (Kd.R_ne HO0_2.out BK101.out (by decide)) e_) hs_)); have n2_ := Xam (Kept.then_ (S := (fun k_ => P0_2_ k_)) (by repeat (first | (with_reducible first | exact HK.out | apply Kept.alloc | apply Kept.drewN | apply Kept.drew | refine Kept.setCell ?_ (.inr GW101.out) _) | exact HK.out)) hkp (fun k_ hs_ => by first | exact (fun e_ => (HO0_2.out.1 k_ e_.symm)) hs_ | grind)); have n3_ := Xam (hb); clear HO0_2; clear BK101; clear HK; clear HB; have HO0_2 := n0_; have BK101 := n1_; have HK := n2_; have HB := n3_; clear n0_ n1_ n2_ n3_; (try clear hb); (try clear hkp); (try clear hy0)))
  go_ret
  exact ⟨by first | rfl | (simp [errW_none, errW_some] <;> rfl) | (simp [*, errW_none, errW_some] <;> rfl), by (with_reducible repeat (first | apply Xra | apply Xrn | apply Xrd)); exact HO0_2.out, by repeat (first | (with_reducible first | exact HB.out | apply Xba | apply Xbn | apply Xbd | refine Xbe ?_ GE101.out) | exact HB.out), by repeat (first | (with_reducible first | exact HK.out | apply Kept.alloc | apply Kept.drewN | apply Kept.drew | refine Kept.setCell ?_ (.inr GW101.out) _) | exact HK.out)⟩

/-! ### laws_heldPiece: function 22 -/
def laws_heldPiece.f (k : Nat) (a0_0 : Int) (a0_1 : Int) (l0_2 : List Int) (a1 : Int) : Option (Int) := (laws_heldByteS.f k l0_2 a1).bind fun t102 => (if t102 < 0 then (some (-1)) else (some t102))
theorem laws_heldPiece.mono : ∀ a0 a1 a2 a3 k, LeO (laws_heldPiece.f k a0 a1 a2 a3) (laws_heldPiece.f (k + 1) a0 a1 a2 a3) := by
  intro a0 a1 a2 a3 k
  unfold laws_heldPiece.f
  repeat' first
      | (with_reducible exact laws_heldByteS.mono _ _ _)
      | (with_reducible exact LeO.refl _)
      | (with_reducible exact LeO.none _)
      | (with_reducible refine LeO.ite ?_ ?_)
      | (with_reducible refine LeO.bind ?_ (fun _ => ?_))
      | exact laws_heldByteS.mono _ _ _
      | exact LeO.none _
      | refine LeO.ite ?_ ?_
      | refine LeO.bind ?_ (fun _ => ?_)
set_option maxHeartbeats 8000000 in
set_option maxRecDepth 100000 in
theorem laws_heldPiece.calls (k : Nat) (a0_0 : Int) (a0_1 : Int) (A0_2 : Option Addr) (c0_2 : Nat) (l0_2 : List Int) (a1 : Int) (r : Int) (w : World) (hr0_2 : Kd.C (Kd.int .u8) w A0_2 l0_2.length l0_2) (hc0_2 : l0_2.length ≤ c0_2) (h : laws_heldPiece.f k a0_0 a0_1 l0_2 a1 = some r) :
    Calls Try.prog 22 #[.agg #[.int .i64 a0_0, .int .i64 a0_1, .slice A0_2 l0_2.length c0_2], .int .i64 a1] w fun e w' => e = .returned (.int .i64 r) ∧ Below w.heap.size w w' := by
  have hu24 := Try.underlying24
  have HR0_2 := Xam hr0_2
  have HC0_2 := Xam hc0_2
  clear hr0_2 hc0_2
  have HB := Xam (Below.refl w.heap.size w)
  have H : ((laws_heldByteS.f k l0_2 a1).bind fun t102 => (if t102 < 0 then (some (-1)) else (some t102))) = some r := h
  clear h
  replace H := Option.bind_eq_some_iff.mp H
  obtain ⟨t102, A30, H⟩ := H
  replace H : (if t102 < 0 then (some (-1)) else (some t102)) = some r := H
  have A3 := Xam A30
  clear A30
  by_cases c4 : t102 < 0
  · rw [if_pos c4] at H
    have c4b0 : decide (t102 < 0) = true := decide_eq_true c4
    clear c4
    obtain rfl := Option.some.inj H
    go_enter Try.func22, Try.ntmps22
    go_wp2_with (first | ((with_reducible refine gate_dst (N := 2) rfl ?_); refine box_event ?hg (N := 2) ?hd (cs := #[.int .i64 a0_0, .int .i64 a0_1, .slice A0_2 l0_2.length c0_2]) (t := 24) ?hr ?_; (case hd => rfl); (case hg => rfl); (case hr => first | (go_simp; done) | (go_simp; rfl)); intro gb101 hg w5 hbox hb; have n0_ := Xam (Xbt (by repeat (first | (with_reducible first | exact HB.out | apply Xba | apply Xbn | apply Xbd) | exact HB.out)) hb); have n1_ := Xam (hbox); have n2_ := Xam ((by rw [hg]; exact (Xbs (by repeat (first | (with_reducible first | exact HB.out | apply Xba | apply Xbn | apply Xbd) | exact HB.out))) : w.heap.size ≤ gb101)); have n3_ := Xam ((by rw [hg]; exact (Xbs (by repeat (first | (with_reducible first | exact HB.out | apply Xba | apply Xbn | apply Xbd) | exact HB.out))) : w.heap.size ≤ gb101)); clear HB; have HB := n0_; have BK101 := n1_; have GW101 := n2_; have GE101 := n3_; clear n0_ n1_ n2_ n3_; clear hb hbox hg; have hcz6_0 : w5.cell? ⟨gb101, 0, none⟩ = some (.int .i64 a0_0) := (Xbc BK101.out 0).trans rfl; have hcz6_1 : w5.cell? ⟨gb101, 1, none⟩ = some (.int .i64 a0_1) := (Xbc BK101.out 1).trans rfl; have hcz6_2 : w5.cell? ⟨gb101, 2, none⟩ = some (.slice A0_2 l0_2.length c0_2) := (Xbc BK101.out 2).trans rfl; have hfz6_0 := Xbf BK101.out 0; have hfz6_1 := Xbf BK101.out 1; have hfz6_2 := Xbf BK101.out 2) | ((with_reducible refine gate_callee (f := 87) rfl ?_); refine goesL_ (some 8) rfl rfl Try.func87 (by kernel_rfl) rfl #[.slice A0_2 l0_2.length c0_2, .int .i64 a1] rfl (by (try simp only [List.map_toArray, List.map_cons, List.map_nil]); first | done | rfl | (simp only [List.length_drop, List.length_take]; rfl)) ?_; (with_reducible refine (laws_heldByteS.calls k _ _ l0_2 a1 t102 _ ?side1 ?side2 A3.out).mono ?_); (case side1 => repeat (first | exact (Kd.C_below HR0_2.out HB.out) | (with_reducible refine Xca ?_ _) | (with_reducible refine Xcn ?_ _) | (with_reducible refine Xcd ?_))); (case side2 => exact HC0_2.out); rintro e w' ⟨rfl, ⟨nd, rfl⟩⟩; refine ⟨_, rfl, ?_⟩))
    go_ret
    exact ⟨by first | rfl | (simp [errW_none, errW_some] <;> rfl) | (simp [*, errW_none, errW_some] <;> rfl), by repeat (first | (with_reducible first | exact HB.out | apply Xba | apply Xbn | apply Xbd | refine Xbe ?_ GE101.out) | exact HB.out)⟩
  · rw [if_neg c4] at H
    have c4b0 : decide (t102 < 0) = false := decide_eq_false c4
    clear c4
    obtain rfl := Option.some.inj H
    go_enter Try.func22, Try.ntmps22
    go_wp2_with (first | ((with_reducible refine gate_dst (N := 2) rfl ?_); refine box_event ?hg (N := 2) ?hd (cs := #[.int .i64 a0_0, .int .i64 a0_1, .slice A0_2 l0_2.length c0_2]) (t := 24) ?hr ?_; (case hd => rfl); (case hg => rfl); (case hr => first | (go_simp; done) | (go_simp; rfl)); intro gb101 hg w7 hbox hb; have n0_ := Xam (Xbt (by repeat (first | (with_reducible first | exact HB.out | apply Xba | apply Xbn | apply Xbd) | exact HB.out)) hb); have n1_ := Xam (hbox); have n2_ := Xam ((by rw [hg]; exact (Xbs (by repeat (first | (with_reducible first | exact HB.out | apply Xba | apply Xbn | apply Xbd) | exact HB.out))) : w.heap.size ≤ gb101)); have n3_ := Xam ((by rw [hg]; exact (Xbs (by repeat (first | (with_reducible first | exact HB.out | apply Xba | apply Xbn | apply Xbd) | exact HB.out))) : w.heap.size ≤ gb101)); clear HB; have HB := n0_; have BK101 := n1_; have GW101 := n2_; have GE101 := n3_; clear n0_ n1_ n2_ n3_; clear hb hbox hg; have hcz8_0 : w7.cell? ⟨gb101, 0, none⟩ = some (.int .i64 a0_0) := (Xbc BK101.out 0).trans rfl; have hcz8_1 : w7.cell? ⟨gb101, 1, none⟩ = some (.int .i64 a0_1) := (Xbc BK101.out 1).trans rfl; have hcz8_2 : w7.cell? ⟨gb101, 2, none⟩ = some (.slice A0_2 l0_2.length c0_2) := (Xbc BK101.out 2).trans rfl; have hfz8_0 := Xbf BK101.out 0; have hfz8_1 := Xbf BK101.out 1; have hfz8_2 := Xbf BK101.out 2) | ((with_reducible refine gate_callee (f := 87) rfl ?_); refine goesL_ (some 8) rfl rfl Try.func87 (by kernel_rfl) rfl #[.slice A0_2 l0_2.length c0_2, .int .i64 a1] rfl (by (try simp only [List.map_toArray, List.map_cons, List.map_nil]); first | done | rfl | (simp only [List.length_drop, List.length_take]; rfl)) ?_; (with_reducible refine (laws_heldByteS.calls k _ _ l0_2 a1 t102 _ ?side1 ?side2 A3.out).mono ?_); (case side1 => repeat (first | exact (Kd.C_below HR0_2.out HB.out) | (with_reducible refine Xca ?_ _) | (with_reducible refine Xcn ?_ _) | (with_reducible refine Xcd ?_))); (case side2 => exact HC0_2.out); rintro e w' ⟨rfl, ⟨nd, rfl⟩⟩; refine ⟨_, rfl, ?_⟩))
    go_ret
    exact ⟨by first | rfl | (simp [errW_none, errW_some] <;> rfl) | (simp [*, errW_none, errW_some] <;> rfl), by repeat (first | (with_reducible first | exact HB.out | apply Xba | apply Xbn | apply Xbd | refine Xbe ?_ GE101.out) | exact HB.out)⟩

/-! ### laws_FnExactDecodePiece: function 3 -/
def laws_FnExactDecodePiece.f (k : Nat) (l0 : List Int) : Option (Bool) := if (l0.length : Int) > 1048576 then (some true) else ((laws_toByteS.f k l0).bind fun t101 => ((spec_DecodePiece.f t101).bind fun bt104 => ((laws_toByteS.f k l0).bind fun t111 => ((impl_DecodePiece.f t111).bind fun bt114 => ((laws_eqPiece.f k bt114.1 bt114.2.1 bt114.2.2.1 bt104.1 bt104.2.1 bt104.2.2.1).bind fun t121 => (if t121 = true then (if (bt114.2.2.2 != bt104.2.2.2) = true then (none) else ((laws_toByteS.f k l0).bind fun t122 => ((laws_eqByteS.f k t111 t122).bind fun t125 => (if t125 = true then ((laws_markByteS.f k t111 1).bind fun bt126 => (if bt126.1 < 0 then (none) else ((laws_eqPiece.f k bt114.1 bt114.2.1 bt114.2.2.1 bt104.1 bt104.2.1 bt104.2.2.1).bind fun t128 => (if t128 = true then ((laws_markPiece.f k bt114.1 bt114.2.1 bt114.2.2.1 1).bind fun bt129 => ((laws_heldPiece.f k bt114.1 bt114.2.1 bt129.2 1).bind fun t131 => (if t131 < 0 then (none) else (if t131 = bt129.1 then ((laws_toByteS.f k l0).bind fun t132 => ((impl_DecodePiece.f t132).bind fun bt135 => ((laws_eqPiece.f k bt135.1 bt135.2.1 bt135.2.2.1 bt104.1 bt104.2.1 bt104.2.2.1).bind fun t142 => (if t142 = true then (if (bt135.2.2.2 != bt104.2.2.2) = true then (none) else ((laws_heldPiece.f k bt114.1 bt114.2.1 bt129.2 1).bind fun t143 => (if t143 < 0 then (none) else (if t143 = bt129.1 then (some true) else (none))))) else (none))))) else (none))))) else (none))))) else (none))))) else (none)))))))
theorem laws_FnExactDecodePiece.mono : ∀ a0 k, LeO (laws_FnExactDecodePiece.f k a0) (laws_FnExactDecodePiece.f (k + 1) a0) := by
  intro a0 k
  unfold laws_FnExactDecodePiece.f
  repeat' first
      | (with_reducible exact laws_eqByteS.mono _ _ _)
      | (with_reducible exact laws_eqPiece.mono _ _ _ _ _ _ _)
      | (with_reducible exact laws_heldPiece.mono _ _ _ _ _)
      | (with_reducible exact laws_markByteS.mono _ _ _)
      | (with_reducible exact laws_markPiece.mono _ _ _ _ _)
      | (with_reducible exact laws_toByteS.mono _ _)
      | (with_reducible exact LeO.refl _)
      | (with_reducible exact LeO.none _)
      | (with_reducible refine LeO.ite ?_ ?_)
      | (with_reducible refine LeO.bind ?_ (fun _ => ?_))
      | exact laws_eqByteS.mono _ _ _
      | exact laws_eqPiece.mono _ _ _ _ _ _ _
      | exact laws_heldPiece.mono _ _ _ _ _
      | exact laws_markByteS.mono _ _ _
      | exact laws_markPiece.mono _ _ _ _ _
      | exact laws_toByteS.mono _ _
      | exact LeO.none _
      | refine LeO.ite ?_ ?_
      | refine LeO.bind ?_ (fun _ => ?_)
set_option maxHeartbeats 8000000 in
set_option maxRecDepth 100000 in
theorem laws_FnExactDecodePiece.calls (k : Nat) (A0 : Option Addr) (c0 : Nat) (l0 : List Int) (r : Bool) (w : World) (hr0 : Kd.C (Kd.int .u8) w A0 l0.length l0) (hc0 : l0.length ≤ c0) (h : laws_FnExactDecodePiece.f k l0 = some r) :
    Calls Try.prog 3 #[.slice A0 l0.length c0] w fun e w' => e = .returned (.bool r) ∧ Below w.heap.size w w' := by
  have hu24 := Try.underlying24
  have HR0 := Xam hr0
  have HC0 := Xam hc0
  clear hr0 hc0
  have HB := Xam (Below.refl w.heap.size w)
  have H : (if (l0.length : Int) > 1048576 then (some true) else ((laws_toByteS.f k l0).bind fun t101 => ((spec_DecodePiece.f t101).bind fun bt104 => ((laws_toByteS.f k l0).bind fun t111 => ((impl_DecodePiece.f t111).bind fun bt114 => ((laws_eqPiece.f k bt114.1 bt114.2.1 bt114.2.2.1 bt104.1 bt104.2.1 bt104.2.2.1).bind fun t121 => (if t121 = true then (if (bt114.2.2.2 != bt104.2.2.2) = true then (none) else ((laws_toByteS.f k l0).bind fun t122 => ((laws_eqByteS.f k t111 t122).bind fun t125 => (if t125 = true then ((laws_markByteS.f k t111 1).bind fun bt126 => (if bt126.1 < 0 then (none) else ((laws_eqPiece.f k bt114.1 bt114.2.1 bt114.2.2.1 bt104.1 bt104.2.1 bt104.2.2.1).bind fun t128 => (if t128 = true then ((laws_markPiece.f k bt114.1 bt114.2.1 bt114.2.2.1 1).bind fun bt129 => ((laws_heldPiece.f k bt114.1 bt114.2.1 bt129.2 1).bind fun t131 => (if t131 < 0 then (none) else (if t131 = bt129.1 then ((laws_toByteS.f k l0).bind fun t132 => ((impl_DecodePiece.f t132).bind fun bt135 => ((laws_eqPiece.f k bt135.1 bt135.2.1 bt135.2.2.1 bt104.1 bt104.2.1 bt104.2.2.1).bind fun t142 => (if t142 = true then (if (bt135.2.2.2 != bt104.2.2.2) = true then (none) else ((laws_heldPiece.f k bt114.1 bt114.2.1 bt129.2 1).bind fun t143 => (if t143 < 0 then (none) else (if t143 = bt129.1 then (some true) else (none))))) else (none))))) else (none))))) else (none))))) else (none))))) else (none)))))))) = some r := h
  clear h
  by_cases c2 : (l0.length : Int) > 1048576
  · rw [if_pos c2] at H
    have c2b0 : decide (1048576 < (l0.length : Int)) = true := decide_eq_true c2
    have c2b1 : decide (1048576 < l0.length) = true := decide_eq_true (by omega)
    clear c2
    obtain rfl := Option.some.inj H
    go_enter Try.func3, Try.ntmps3
    go_wp2
    go_ret
    exact ⟨by first | rfl | (simp [errW_none, errW_some] <;> rfl) | (simp [*, errW_none, errW_some] <;> rfl), by repeat (first | (with_reducible first | exact HB.out | apply Xba | apply Xbn | apply Xbd) | exact HB.out)⟩
  · rw [if_neg c2] at H
    have c2b0 : decide (1048576 < (l0.length : Int)) = false := decide_eq_false c2
    have c2b1 : decide (1048576 < l0.length) = false := decide_eq_false (by omega)
    clear c2
    replace H := Option.bind_eq_some_iff.mp H
    obtain ⟨t101, A30, H⟩ := H
    replace H : ((spec_DecodePiece.f t101).bind fun bt104 => ((laws_toByteS.f k l0).bind fun t111 => ((impl_DecodePiece.f t111).bind fun bt114 => ((laws_eqPiece.f k bt114.1 bt114.2.1 bt114.2.2.1 bt104.1 bt104.2.1 bt104.2.2.1).bind fun t121 => (if t121 = true then (if (bt114.2.2.2 != bt104.2.2.2) = true then (none) else ((laws_toByteS.f k l0).bind fun t122 => ((laws_eqByteS.f k t111 t122).bind fun t125 => (if t125 = true then ((laws_markByteS.f k t111 1).bind fun bt126 => (if bt126.1 < 0 then (none) else ((laws_eqPiece.f k bt114.1 bt114.2.1 bt114.2.2.1 bt104.1 bt104.2.1 bt104.2.2.1).bind fun t128 => (if t128 = true then ((laws_markPiece.f k bt114.1 bt114.2.1 bt114.2.2.1 1).bind fun bt129 => ((laws_heldPiece.f k bt114.1 bt114.2.1 bt129.2 1).bind fun t131 => (if t131 < 0 then (none) else (if t131 = bt129.1 then ((laws_toByteS.f k l0).bind fun t132 => ((impl_DecodePiece.f t132).bind fun bt135 => ((laws_eqPiece.f k bt135.1 bt135.2.1 bt135.2.2.1 bt104.1 bt104.2.1 bt104.2.2.1).bind fun t142 => (if t142 = true then (if (bt135.2.2.2 != bt104.2.2.2) = true then (none) else ((laws_heldPiece.f k bt114.1 bt114.2.1 bt129.2 1).bind fun t143 => (if t143 < 0 then (none) else (if t143 = bt129.1 then (some true) else (none))))) else (none))))) else (none))))) else (none))))) else (none))))) else (none)))))) = some r := H
    have A3 := Xam A30
    clear A30
    replace H := Option.bind_eq_some_iff.mp H
    obtain ⟨⟨t104, t105, t106, t109⟩, A40, H⟩ := H
    replace H : ((laws_toByteS.f k l0).bind fun t111 => ((impl_DecodePiece.f t111).bind fun bt114 => ((laws_eqPiece.f k bt114.1 bt114.2.1 bt114.2.2.1 t104 t105 t106).bind fun t121 => (if t121 = true then (if (bt114.2.2.2 != t109) = true then (none) else ((laws_toByteS.f k l0).bind fun t122 => ((laws_eqByteS.f k t111 t122).bind fun t125 => (if t125 = true then ((laws_markByteS.f k t111 1).bind fun bt126 => (if bt126.1 < 0 then (none) else ((laws_eqPiece.f k bt114.1 bt114.2.1 bt114.2.2.1 t104 t105 t106).bind fun t128 => (if t128 = true then ((laws_markPiece.f k bt114.1 bt114.2.1 bt114.2.2.1 1).bind fun bt129 => ((laws_heldPiece.f k bt114.1 bt114.2.1 bt129.2 1).bind fun t131 => (if t131 < 0 then (none) else (if t131 = bt129.1 then ((laws_toByteS.f k l0).bind fun t132 => ((impl_DecodePiece.f t132).bind fun bt135 => ((laws_eqPiece.f k bt135.1 bt135.2.1 bt135.2.2.1 t104 t105 t106).bind fun t142 => (if t142 = true then (if (bt135.2.2.2 != t109) = true then (none) else ((laws_heldPiece.f k bt114.1 bt114.2.1 bt129.2 1).bind fun t143 => (if t143 < 0 then (none) else (if t143 = bt129.1 then (some true) else (none))))) else (none))))) else (none))))) else (none))))) else (none))))) else (none))))) = some r := H
    have A4 := Xam A40
    clear A40
    replace H := Option.bind_eq_some_iff.mp H
    obtain ⟨t111, A50, H⟩ := H
    replace H : ((impl_DecodePiece.f t111).bind fun bt114 => ((laws_eqPiece.f k bt114.1 bt114.2.1 bt114.2.2.1 t104 t105 t106).bind fun t121 => (if t121 = true then (if (bt114.2.2.2 != t109) = true then (none) else ((laws_toByteS.f k l0).bind fun t122 => ((laws_eqByteS.f k t111 t122).bind fun t125 => (if t125 = true then ((laws_markByteS.f k t111 1).bind fun bt126 => (if bt126.1 < 0 then (none) else ((laws_eqPiece.f k bt114.1 bt114.2.1 bt114.2.2.1 t104 t105 t106).bind fun t128 => (if t128 = true then ((laws_markPiece.f k bt114.1 bt114.2.1 bt114.2.2.1 1).bind fun bt129 => ((laws_heldPiece.f k bt114.1 bt114.2.1 bt129.2 1).bind fun t131 => (if t131 < 0 then (none) else (if t131 = bt129.1 then ((laws_toByteS.f k l0).bind fun t132 => ((impl_DecodePiece.f t132).bind fun bt135 => ((laws_eqPiece.f k bt135.1 bt135.2.1 bt135.2.2.1 t104 t105 t106).bind fun t142 => (if t142 = true then (if (bt135.2.2.2 != t109) = true then (none) else ((laws_heldPiece.f k bt114.1 bt114.2.1 bt129.2 1).bind fun t143 => (if t143 < 0 then (none) else (if t143 = bt129.1 then (some true) else (none))))) else (none))))) else (none))))) else (none))))) else (none))))) else (none)))) = some r := H
    have A5 := Xam A50
    clear A50
    replace H := Option.bind_eq_some_iff.mp H
    obtain ⟨⟨t114, t115, t116, t119⟩, A60, H⟩ := H
    replace H : ((laws_eqPiece.f k t114 t115 t116 t104 t105 t106).bind fun t121 => (if t121 = true then (if (t119 != t109) = true then (none) else ((laws_toByteS.f k l0).bind fun t122 => ((laws_eqByteS.f k t111 t122).bind fun t125 => (if t125 = true then ((laws_markByteS.f k t111 1).bind fun bt126 => (if bt126.1 < 0 then (none) else ((laws_eqPiece.f k t114 t115 t116 t104 t105 t106).bind fun t128 => (if t128 = true then ((laws_markPiece.f k t114 t115 t116 1).bind fun bt129 => ((laws_heldPiece.f k t114 t115 bt129.2 1).bind fun t131 => (if t131 < 0 then (none) else (if t131 = bt129.1 then ((laws_toByteS.f k l0).bind fun t132 => ((impl_DecodePiece.f t132).bind fun bt135 => ((laws_eqPiece.f k bt135.1 bt135.2.1 bt135.2.2.1 t104 t105 t106).bind fun t142 => (if t142 = true then (if (bt135.2.2.2 != t109) = true then (none) else ((laws_heldPiece.f k t114 t115 bt129.2 1).bind fun t143 => (if t143 < 0 then (none) else (if t143 = bt129.1 then (some true) else (none))))) else (none))))) else (none))))) else (none))))) else (none))))) else (none))) = some r := H
    have A6 := Xam A60
    clear A60
    replace H := Option.bind_eq_some_iff.mp H
    obtain ⟨t121, A70, H⟩ := H
    replace H : (if t121 = true then (if (t119 != t109) = true then (none) else ((laws_toByteS.f k l0).bind fun t122 => ((laws_eqByteS.f k t111 t122).bind fun t125 => (if t125 = true then ((laws_markByteS.f k t111 1).bind fun bt126 => (if bt126.1 < 0 then (none) else ((laws_eqPiece.f k t114 t115 t116 t104 t105 t106).bind fun t128 => (if t128 = true then ((laws_markPiece.f k t114 t115 t116 1).bind fun bt129 => ((laws_heldPiece.f k t114 t115 bt129.2 1).bind fun t131 => (if t131 < 0 then (none) else (if t131 = bt129.1 then ((laws_toByteS.f k l0).bind fun t132 => ((impl_DecodePiece.f t132).bind fun bt135 => ((laws_eqPiece.f k bt135.1 bt135.2.1 bt135.2.2.1 t104 t105 t106).bind fun t142 => (if t142 = true then (if (bt135.2.2.2 != t109) = true then (none) else ((laws_heldPiece.f k t114 t115 bt129.2 1).bind fun t143 => (if t143 < 0 then (none) else (if t143 = bt129.1 then (some true) else (none))))) else (none))))) else (none))))) else (none))))) else (none))))) else (none)) = some r := H
    have A7 := Xam A70
    clear A70
    by_cases c8 : t121 = true
    · subst c8
      have H1 : (if (t119 != t109) = true then (none) else ((laws_toByteS.f k l0).bind fun t122 => ((laws_eqByteS.f k t111 t122).bind fun t125 => (if t125 = true then ((laws_markByteS.f k t111 1).bind fun bt126 => (if bt126.1 < 0 then (none) else ((laws_eqPiece.f k t114 t115 t116 t104 t105 t106).bind fun t128 => (if t128 = true then ((laws_markPiece.f k t114 t115 t116 1).bind fun bt129 => ((laws_heldPiece.f k t114 t115 bt129.2 1).bind fun t131 => (if t131 < 0 then (none) else (if t131 = bt129.1 then ((laws_toByteS.f k l0).bind fun t132 => ((impl_DecodePiece.f t132).bind fun bt135 => ((laws_eqPiece.f k bt135.1 bt135.2.1 bt135.2.2.1 t104 t105 t106).bind fun t142 => (if t142 = true then (if (bt135.2.2.2 != t109) = true then (none) else ((laws_heldPiece.f k t114 t115 bt129.2 1).bind fun t143 => (if t143 < 0 then (none) else (if t143 = bt129.1 then (some true) else (none))))) else (none))))) else (none))))) else (none))))) else (none))))) = some r := by rw [if_pos rfl] at H; exact H
      clear H
      have H := H1
      clear H1
      by_cases c9 : (t119 != t109) = true
      · rw [if_pos c9] at H
        exact absurd H (by simp)
      · rw [if_neg c9] at H
        have c9b0 : (t119 != t109) = false := by simpa using c9
        (try (have c9b1 : decide (t119 = t109) = true := by simpa using c9))
        (try (have c9b2 : (t119 == t109) = true := by simpa using c9))
        clear c9
        replace H := Option.bind_eq_some_iff.mp H
        obtain ⟨t122, A100, H⟩ := H
        replace H : ((laws_eqByteS.f k t111 t122).bind fun t125 => (if t125 = true then ((laws_markByteS.f k t111 1).bind fun bt126 => (if bt126.1 < 0 then (none) else ((laws_eqPiece.f k t114 t115 t116 t104 t105 t106).bind fun t128 => (if t128 = true then ((laws_markPiece.f k t114 t115 t116 1).bind fun bt129 => ((laws_heldPiece.f k t114 t115 bt129.2 1).bind fun t131 => (if t131 < 0 then (none) else (if t131 = bt129.1 then ((laws_toByteS.f k l0).bind fun t132 => ((impl_DecodePiece.f t132).bind fun bt135 => ((laws_eqPiece.f k bt135.1 bt135.2.1 bt135.2.2.1 t104 t105 t106).bind fun t142 => (if t142 = true then (if (bt135.2.2.2 != t109) = true then (none) else ((laws_heldPiece.f k t114 t115 bt129.2 1).bind fun t143 => (if t143 < 0 then (none) else (if t143 = bt129.1 then (some true) else (none))))) else (none))))) else (none))))) else (none))))) else (none))) = some r := H
        have A10 := Xam A100
        clear A100
        replace H := Option.bind_eq_some_iff.mp H
        obtain ⟨t125, A110, H⟩ := H
        replace H : (if t125 = true then ((laws_markByteS.f k t111 1).bind fun bt126 => (if bt126.1 < 0 then (none) else ((laws_eqPiece.f k t114 t115 t116 t104 t105 t106).bind fun t128 => (if t128 = true then ((laws_markPiece.f k t114 t115 t116 1).bind fun bt129 => ((laws_heldPiece.f k t114 t115 bt129.2 1).bind fun t131 => (if t131 < 0 then (none) else (if t131 = bt129.1 then ((laws_toByteS.f k l0).bind fun t132 => ((impl_DecodePiece.f t132).bind fun bt135 => ((laws_eqPiece.f k bt135.1 bt135.2.1 bt135.2.2.1 t104 t105 t106).bind fun t142 => (if t142 = true then (if (bt135.2.2.2 != t109) = true then (none) else ((laws_heldPiece.f k t114 t115 bt129.2 1).bind fun t143 => (if t143 < 0 then (none) else (if t143 = bt129.1 then (some true) else (none))))) else (none))))) else (none))))) else (none))))) else (none)) = some r := H
        have A11 := Xam A110
        clear A110
        by_cases c12 : t125 = true
        · subst c12
          have H1 : ((laws_markByteS.f k t111 1).bind fun bt126 => (if bt126.1 < 0 then (none) else ((laws_eqPiece.f k t114 t115 t116 t104 t105 t106).bind fun t128 => (if t128 = true then ((laws_markPiece.f k t114 t115 t116 1).bind fun bt129 => ((laws_heldPiece.f k t114 t115 bt129.2 1).bind fun t131 => (if t131 < 0 then (none) else (if t131 = bt129.1 then ((laws_toByteS.f k l0).bind fun t132 => ((impl_DecodePiece.f t132).bind fun bt135 => ((laws_eqPiece.f k bt135.1 bt135.2.1 bt135.2.2.1 t104 t105 t106).bind fun t142 => (if t142 = true then (if (bt135.2.2.2 != t109) = true then (none) else ((laws_heldPiece.f k t114 t115 bt129.2 1).bind fun t143 => (if t143 < 0 then (none) else (if t143 = bt129.1 then (some true) else (none))))) else (none))))) else (none))))) else (none))))) = some r := by rw [if_pos rfl] at H; exact H
          clear H
          have H := H1
          clear H1
          replace H := Option.bind_eq_some_iff.mp H
          obtain ⟨⟨t126, t127⟩, A130, H⟩ := H
          replace H : (if t126 < 0 then (none) else ((laws_eqPiece.f k t114 t115 t116 t104 t105 t106).bind fun t128 => (if t128 = true then ((laws_markPiece.f k t114 t115 t116 1).bind fun bt129 => ((laws_heldPiece.f k t114 t115 bt129.2 1).bind fun t131 => (if t131 < 0 then (none) else (if t131 = bt129.1 then ((laws_toByteS.f k l0).bind fun t132 => ((impl_DecodePiece.f t132).bind fun bt135 => ((laws_eqPiece.f k bt135.1 bt135.2.1 bt135.2.2.1 t104 t105 t106).bind fun t142 => (if t142 = true then (if (bt135.2.2.2 != t109) = true then (none) else ((laws_heldPiece.f k t114 t115 bt129.2 1).bind fun t143 => (if t143 < 0 then (none) else (if t143 = bt129.1 then (some true) else (none))))) else (none))))) else (none))))) else (none)))) = some r := H
          have A13 := Xam A130
          clear A130
          by_cases c14 : t126 < 0
          · rw [if_pos c14] at H
            exact absurd H (by simp)
          · rw [if_neg c14] at H
            have c14b0 : decide (t126 < 0) = false := decide_eq_false c14
            clear c14
            replace H := Option.bind_eq_some_iff.mp H
            obtain ⟨t128, A150, H⟩ := H
            replace H : (if t128 = true then ((laws_markPiece.f k t114 t115 t116 1).bind fun bt129 => ((laws_heldPiece.f k t114 t115 bt129.2 1).bind fun t131 => (if t131 < 0 then (none) else (if t131 = bt129.1 then ((laws_toByteS.f k l0).bind fun t132 => ((impl_DecodePiece.f t132).bind fun bt135 => ((laws_eqPiece.f k bt135.1 bt135.2.1 bt135.2.2.1 t104 t105 t106).bind fun t142 => (if t142 = true then (if (bt135.2.2.2 != t109) = true then (none) else ((laws_heldPiece.f k t114 t115 bt129.2 1).bind fun t143 => (if t143 < 0 then (none) else (if t143 = bt129.1 then (some true) else (none))))) else (none))))) else (none))))) else (none)) = some r := H
            have A15 := Xam A150
            clear A150
            by_cases c16 : t128 = true
            · subst c16
              have H1 : ((laws_markPiece.f k t114 t115 t116 1).bind fun bt129 => ((laws_heldPiece.f k t114 t115 bt129.2 1).bind fun t131 => (if t131 < 0 then (none) else (if t131 = bt129.1 then ((laws_toByteS.f k l0).bind fun t132 => ((impl_DecodePiece.f t132).bind fun bt135 => ((laws_eqPiece.f k bt135.1 bt135.2.1 bt135.2.2.1 t104 t105 t106).bind fun t142 => (if t142 = true then (if (bt135.2.2.2 != t109) = true then (none) else ((laws_heldPiece.f k t114 t115 bt129.2 1).bind fun t143 => (if t143 < 0 then (none) else (if t143 = bt129.1 then (some true) else (none))))) else (none))))) else (none))))) = some r := by rw [if_pos rfl] at H; exact H
              clear H
              have H := H1
              clear H1
              replace H := Option.bind_eq_some_iff.mp H
              obtain ⟨⟨t129, t130⟩, A170, H⟩ := H
              replace H : ((laws_heldPiece.f k t114 t115 t130 1).bind fun t131 => (if t131 < 0 then (none) else (if t131 = t129 then ((laws_toByteS.f k l0).bind fun t132 => ((impl_DecodePiece.f t132).bind fun bt135 => ((laws_eqPiece.f k bt135.1 bt135.2.1 bt135.2.2.1 t104 t105 t106).bind fun t142 => (if t142 = true then (if (bt135.2.2.2 != t109) = true then (none) else ((laws_heldPiece.f k t114 t115 t130 1).bind fun t143 => (if t143 < 0 then (none) else (if t143 = t129 then (some true) else (none))))) else (none))))) else (none)))) = some r := H
              have A17 := Xam A170
              clear A170
              replace H := Option.bind_eq_some_iff.mp H
              obtain ⟨t131, A180, H⟩ := H
              replace H : (if t131 < 0 then (none) else (if t131 = t129 then ((laws_toByteS.f k l0).bind fun t132 => ((impl_DecodePiece.f t132).bind fun bt135 => ((laws_eqPiece.f k bt135.1 bt135.2.1 bt135.2.2.1 t104 t105 t106).bind fun t142 => (if t142 = true then (if (bt135.2.2.2 != t109) = true then (none) else ((laws_heldPiece.f k t114 t115 t130 1).bind fun t143 => (if t143 < 0 then (none) else (if t143 = t129 then (some true) else (none))))) else (none))))) else (none))) = some r := H
              have A18 := Xam A180
              clear A180
              by_cases c19 : t131 < 0
              · rw [if_pos c19] at H
                exact absurd H (by simp)
              · rw [if_neg c19] at H
                have c19b0 : decide (t131 < 0) = false := decide_eq_false c19
                clear c19
                by_cases c20 : t131 = t129
                · rw [if_pos c20] at H
                  have c20b0 : (t131 == t129) = true := beq_iff_eq.mpr c20
                  have c20b1 : (t131 != t129) = false := bne_eq_false_iff_eq.mpr c20
                  clear c20
                  replace H := Option.bind_eq_some_iff.mp H
                  obtain ⟨t132, A210, H⟩ := H
                  replace H : ((impl_DecodePiece.f t132).bind fun bt135 => ((laws_eqPiece.f k bt135.1 bt135.2.1 bt135.2.2.1 t104 t105 t106).bind fun t142 => (if t142 = true then (if (bt135.2.2.2 != t109) = true then (none) else ((laws_heldPiece.f k t114 t115 t130 1).bind fun t143 => (if t143 < 0 then (none) else (if t143 = t129 then (some true) else (none))))) else (none)))) = some r := H
                  have A21 := Xam A210
                  clear A210
                  replace H := Option.bind_eq_some_iff.mp H
                  obtain ⟨⟨t135, t136, t137, t140⟩, A220, H⟩ := H
                  replace H : ((laws_eqPiece.f k t135 t136 t137 t104 t105 t106).bind fun t142 => (if t142 = true then (if (t140 != t109) = true then (none) else ((laws_heldPiece.f k t114 t115 t130 1).bind fun t143 => (if t143 < 0 then (none) else (if t143 = t129 then (some true) else (none))))) else (none))) = some r := H
                  have A22 := Xam A220
                  clear A220
                  replace H := Option.bind_eq_some_iff.mp H
                  obtain ⟨t142, A230, H⟩ := H
                  replace H : (if t142 = true then (if (t140 != t109) = true then (none) else ((laws_heldPiece.f k t114 t115 t130 1).bind fun t143 => (if t143 < 0 then (none) else (if t143 = t129 then (some true) else (none))))) else (none)) = some r := H
                  have A23 := Xam A230
                  clear A230
                  by_cases c24 : t142 = true
                  · subst c24
                    have H1 : (if (t140 != t109) = true then (none) else ((laws_heldPiece.f k t114 t115 t130 1).bind fun t143 => (if t143 < 0 then (none) else (if t143 = t129 then (some true) else (none))))) = some r := by rw [if_pos rfl] at H; exact H
                    clear H
                    have H := H1
                    clear H1
                    by_cases c25 : (t140 != t109) = true
                    · rw [if_pos c25] at H
                      exact absurd H (by simp)
                    · rw [if_neg c25] at H
                      have c25b0 : (t140 != t109) = false := by simpa using c25
                      (try (have c25b1 : decide (t140 = t109) = true := by simpa using c25))
                      (try (have c25b2 : (t140 == t109) = true := by simpa using c25))
                      clear c25
                      replace H := Option.bind_eq_some_iff.mp H
                      obtain ⟨t143, A260, H⟩ := H
                      replace H : (if t143 < 0 then (none) else (if t143 = t129 then (some true) else (none))) = some r := H
                      have A26 := Xam A260
                      clear A260
                      by_cases c27 : t143 < 0
                      · rw [if_pos c27] at H
                        exact absurd H (by simp)
                      · rw [if_neg c27] at H
                        have c27b0 : decide (t143 < 0) = false := decide_eq_false c27
                        clear c27
                        by_cases c28 : t143 = t129
                        · rw [if_pos c28] at H
                          have c28b0 : (t143 == t129) = true := beq_iff_eq.mpr c28
                          have c28b1 : (t143 != t129) = false := bne_eq_false_iff_eq.mpr c28
                          clear c28
                          obtain rfl := Option.some.inj H
                          go_enter Try.func3, Try.ntmps3
                          go_wp2_with (first | ((with_reducible refine gate_callee (f := 16) rfl ?_); refine goesL_ (some 18) rfl rfl Try.func16 (by kernel_rfl) rfl #[.slice A0 l0.length c0] rfl (by (try simp only [List.map_toArray, List.map_cons, List.map_nil]); first | done | rfl | (simp only [List.length_drop, List.length_take]; rfl)) ?_; (with_reducible refine (laws_toByteS.calls k _ _ l0 t101 _ ?side1 ?side2 A3.out).mono ?_); (case side1 => repeat (first | exact HR0.out | (with_reducible refine Xca ?_ _) | (with_reducible refine Xcn ?_ _) | (with_reducible refine Xcd ?_))); (case side2 => exact HC0.out); rintro e w29 ⟨v102, rfl, ho0, hb⟩; refine ⟨_, rfl, ?_⟩; have n0_ := Xam (Kd.R_lower ho0 (Xbs (by repeat (first | (with_reducible first | exact HB.out | apply Xba | apply Xbn | apply Xbd) | exact HB.out)))); have n1_ := Xam (Xbt (by repeat (first | (with_reducible first | exact HB.out | apply Xba | apply Xbn | apply Xbd) | exact HB.out)) hb); clear HB; have HO103 := n0_; have HB := n1_; clear n0_ n1_; (try clear hb); (try clear hb2); (try clear hk); (try clear hi); (try clear ho0); obtain ⟨Ao30, co30, eo30⟩ := Kd.R_slice HO103.out; subst eo30) | ((with_reducible refine gate_callee (f := 15) rfl ?_); refine goesL_ (some 19) rfl rfl Try.func15 (by kernel_rfl) rfl #[.slice Ao30 t101.length co30] rfl (by (try simp only [List.map_toArray, List.map_cons, List.map_nil]); first | done | rfl | (simp only [List.length_drop, List.length_take]; rfl)) ?_; (with_reducible refine (spec_DecodePiece.calls _ _ t101 t104 t105 t106 t109 _ ?side1 ?side2 A4.out).mono ?_); (case side1 => repeat (first | exact (Kd.R_reads' HO103.out).2.2 | (with_reducible refine Xca ?_ _) | (with_reducible refine Xcn ?_ _) | (with_reducible refine Xcd ?_))); (case side2 => exact (Kd.R_reads' HO103.out).2.1); rintro e w31 ⟨v107, rfl, ho0, hb⟩; refine ⟨_, rfl, ?_⟩; have n0_ := Xam (Kd.R_elder' (by (with_reducible repeat (first | apply Xra | apply Xrn | apply Xrd)); exact HO103.out) (Kd.R_base ho0) hb); have n1_ := Xam (Kd.R_lower (Kd.R_new' ho0 (Kd.R_lt (by (with_reducible repeat (first | apply Xra | apply Xrn | apply Xrd)); exact HO103.out))) (Xbs (by repeat (first | (with_reducible first | exact HB.out | apply Xba | apply Xbn | apply Xbd) | exact HB.out)))); have n2_ := Xam (Xbt (by repeat (first | (with_reducible first | exact HB.out | apply Xba | apply Xbn | apply Xbd) | exact HB.out)) hb); clear HO103; clear HB; have HO103 := n0_; have HO108 := n1_; have HB := n2_; clear n0_ n1_ n2_; (try clear hb); (try clear hb2); (try clear hk); (try clear hi); (try clear ho0)) | ((with_reducible refine gate_dst (N := 3) rfl ?_); refine box_event ?hg (N := 3) ?hd (cs := #[.int .i64 0, .int .i64 0, .slice none 0 0]) (t := 24) ?hr ?_; (case hd => rfl); (case hg => rfl); (case hr => first | (go_simp; done) | (go_simp; rfl)); intro gb110 hg w32 hbox hb; have n0_ := Xam (Kd.R_below (by (with_reducible repeat (first | apply Xra | apply Xrn | apply Xrd)); exact HO103.out) hb); have n1_ := Xam (Kd.R_below (by (with_reducible repeat (first | apply Xra | apply Xrn | apply Xrd)); exact HO108.out) hb); have n2_ := Xam (Xbt (by repeat (first | (with_reducible first | exact HB.out | apply Xba | apply Xbn | apply Xbd) | exact HB.out)) hb); have n3_ := Xam (hbox); have n4_ := Xam ((by rw [hg]; exact (Xbs (by repeat (first | (with_reducible first | exact HB.out | apply Xba | apply Xbn | apply Xbd) | exact HB.out))) : w.heap.size ≤ gb110)); have n5_ := Xam ((by rw [hg]; exact (Xbs (by repeat (first | (with_reducible first | exact HB.out | apply Xba | apply Xbn | apply Xbd) | exact HB.out))) : w.heap.size ≤ gb110)); clear HO103; clear HO108; clear HB; have HO103 := n0_; have HO108 := n1_; have HB := n2_; have BK110 := n3_; have GW110 := n4_; have GE110 := n5_; clear n0_ n1_ n2_ n3_ n4_ n5_; clear hb hbox hg; have hcz33_0 : w32.cell? ⟨gb110, 0, none⟩ = some (.int .i64 0) := (Xbc BK110.out 0).trans rfl; have hcz33_1 : w32.cell? ⟨gb110, 1, none⟩ = some (.int .i64 0) := (Xbc BK110.out 1).trans rfl; have hcz33_2 : w32.cell? ⟨gb110, 2, none⟩ = some (.slice none 0 0) := (Xbc BK110.out 2).trans rfl; have hfz33_0 := Xbf BK110.out 0; have hfz33_1 := Xbf BK110.out 1; have hfz33_2 := Xbf BK110.out 2; obtain ⟨Ao34, co34, eo34⟩ := Kd.R_slice HO108.out; subst eo34) | ((with_reducible refine gate_callee (f := 16) rfl ?_); refine goesL_ (some 23) rfl rfl Try.func16 (by kernel_rfl) rfl #[.slice A0 l0.length c0] rfl (by (try simp only [List.map_toArray, List.map_cons, List.map_nil]); first | done | rfl | (simp only [List.length_drop, List.length_take]; rfl)) ?_; (with_reducible refine (laws_toByteS.calls k _ _ l0 t111 _ ?side1 ?side2 A5.out).mono ?_); (case side1 => exact Kd.C_below HR0.out (by repeat (first | (with_reducible first | exact HB.out | apply Xba | apply Xbn | apply Xbd | refine Xbe ?_ GE110.out) | exact HB.out))); (case side2 => exact HC0.out); rintro e w35 ⟨v112, rfl, ho0, hb⟩; refine ⟨_, rfl, ?_⟩; have n0_ := Xam (Kd.R_elder' (by (with_reducible repeat (first | apply Xra | apply Xrn | apply Xrd)); exact (Kd.R_mono (Kd.R_far (p := ⟨gb110, 2, none⟩) (Kd.R_far (p := ⟨gb110, 1, none⟩) (Kd.R_far (p := ⟨gb110, 0, none⟩) (Kd.R_types HO103.out BK110.out (by decide)) (fun _ hk => by first | exact hk.2 | grind) (.int .i64 t104)) (fun _ hk => by first | exact hk.2 | grind) (.int .i64 t105)) (fun _ hk => by first | exact hk.2 | grind) (.slice Ao34 t106.length co34)) (fun _ h_ => h_.1))) (Kd.R_base ho0) hb); have n1_ := Xam (Kd.R_elder' (by (with_reducible repeat (first | apply Xra | apply Xrn | apply Xrd)); exact (Kd.R_mono (Kd.R_far (p := ⟨gb110, 2, none⟩) (Kd.R_far (p := ⟨gb110, 1, none⟩) (Kd.R_far (p := ⟨gb110, 0, none⟩) (Kd.R_types HO108.out BK110.out (by decide)) (fun _ hk => by first | exact hk.2 | grind) (.int .i64 t104)) (fun _ hk => by first | exact hk.2 | grind) (.int .i64 t105)) (fun _ hk => by first | exact hk.2 | grind) (.slice Ao34 t106.length co34)) (fun _ h_ => h_.1))) (Kd.R_base ho0) hb); have n2_ := Xam (Kd.R_lower (Kd.R_new' (Kd.R_new' ho0 (Kd.R_lt (by (with_reducible repeat (first | apply Xra | apply Xrn | apply Xrd)); exact (Kd.R_mono (Kd.R_far (p := ⟨gb110, 2, none⟩) (Kd.R_far (p := ⟨gb110, 1, none⟩) (Kd.R_far (p := ⟨gb110, 0, none⟩) (Kd.R_types HO103.out BK110.out (by decide)) (fun _ hk => by first | exact hk.2 | grind) (.int .i64 t104)) (fun _ hk => by first | exact hk.2 | grind) (.int .i64 t105)) (fun _ hk => by first | exact hk.2 | grind) (.slice Ao34 t106.length co34)) (fun _ h_ => h_.1))))) (Kd.R_lt (by (with_reducible repeat (first | apply Xra | apply Xrn | apply Xrd)); exact (Kd.R_mono (Kd.R_far (p := ⟨gb110, 2, none⟩) (Kd.R_far (p := ⟨gb110, 1, none⟩) (Kd.R_far (p := ⟨gb110, 0, none⟩) (Kd.R_types HO108.out BK110.out (by decide)) (fun _ hk => by first | exact hk.2 | grind) (.int .i64 t104)) (fun _ hk => by first | exact hk.2 | grind) (.int .i64 t105)) (fun _ hk => by first | exact hk.2 | grind) (.slice Ao34 t106.length co34)) (fun _ h_ => h_.1))))) (Xbs (by repeat (first | (with_reducible first | exact HB.out | apply Xba | apply Xbn | apply Xbd | refine Xbe ?_ GE110.out) | exact HB.out)))); have n3_ := Xam (Xbb (g := gb110) (o := .cells #[.int .i64 t104, .int .i64 t105, .slice Ao34 t106.length co34] 24 (0, 0)) (by (with_reducible repeat (first | refine Xkn ?_ _ | refine Xkd ?_ | refine Xka ?_ _)); refine blk_put (cs := #[.int .i64 t104, .int .i64 t105, .slice none 0 0]) ?_ 2 _ rfl; (with_reducible repeat (first | refine Xkn ?_ _ | refine Xkd ?_ | refine Xka ?_ _)); refine blk_put (cs := #[.int .i64 t104, .int .i64 0, .slice none 0 0]) ?_ 1 _ rfl; (with_reducible repeat (first | refine Xkn ?_ _ | refine Xkd ?_ | refine Xka ?_ _)); refine blk_put (cs := #[.int .i64 0, .int .i64 0, .slice none 0 0]) ?_ 0 _ rfl; (with_reducible repeat (first | refine Xkn ?_ _ | refine Xkd ?_ | refine Xka ?_ _)); exact BK110.out) hb); have n4_ := Xam (Xbt (by repeat (first | (with_reducible first | exact HB.out | apply Xba | apply Xbn | apply Xbd | refine Xbe ?_ GE110.out) | exact HB.out)) hb); clear HO103; clear HO108; clear BK110; clear HB; have HO103 := n0_; have HO108 := n1_; have HO113 := n2_; have BK110 := n3_; have HB := n4_; clear n0_ n1_ n2_ n3_ n4_; (try clear hb); (try clear hb2); (try clear hk); (try clear hi); (try clear ho0); obtain ⟨Ao36, co36, eo36⟩ := Kd.R_slice HO113.out; subst eo36) | ((with_reducible refine gate_callee (f := 17) rfl ?_); refine goesL_ (some 26) rfl rfl Try.func17 (by kernel_rfl) rfl #[.slice Ao36 t111.length co36] rfl (by (try simp only [List.map_toArray, List.map_cons, List.map_nil]); first | done | rfl | (simp only [List.length_drop, List.length_take]; rfl)) ?_; (with_reducible refine (impl_DecodePiece.calls _ _ t111 t114 t115 t116 t119 _ ?side1 ?side2 A6.out).mono ?_); (case side1 => repeat (first | exact (Kd.R_reads' HO113.out).2.2 | (with_reducible refine Xca ?_ _) | (with_reducible refine Xcn ?_ _) | (with_reducible refine Xcd ?_))); (case side2 => exact (Kd.R_reads' HO113.out).2.1); rintro e w37 ⟨v117, rfl, ho0, hb⟩; refine ⟨_, rfl, ?_⟩; have n0_ := Xam (Kd.R_elder' (by (with_reducible repeat (first | apply Xra | apply Xrn | apply Xrd)); exact HO103.out) (Kd.R_base ho0) hb); have n1_ := Xam (Kd.R_elder' (by (with_reducible repeat (first | apply Xra | apply Xrn | apply Xrd)); exact HO108.out) (Kd.R_base ho0) hb); have n2_ := Xam (Kd.R_elder' (by (with_reducible repeat (first | apply Xra | apply Xrn | apply Xrd)); exact HO113.out) (Kd.R_base ho0) hb); have n3_ := Xam (Kd.R_lower (Kd.R_new' (Kd.R_new' (Kd.R_new' ho0 (Kd.R_lt (by (with_reducible repeat (first | apply Xra | apply Xrn | apply Xrd)); exact HO103.out))) (Kd.R_lt (by (with_reducible repeat (first | apply Xra | apply Xrn | apply Xrd)); exact HO108.out))) (Kd.R_lt (by (with_reducible repeat (first | apply Xra | apply Xrn | apply Xrd)); exact HO113.out))) (Xbs (by repeat (first | (with_reducible first | exact HB.out | apply Xba | apply Xbn | apply Xbd | refine Xbe ?_ GE110.out) | exact HB.out)))); have n4_ := Xam (Xbb (g := gb110) (o := .cells #[.int .i64 t104, .int .i64 t105, .slice Ao34 t106.length co34] 24 (0, 0)) (by (with_reducible repeat (first | refine Xkn ?_ _ | refine Xkd ?_ | refine Xka ?_ _)); exact BK110.out) hb); have n5_ := Xam (Xbt (by repeat (first | (with_reducible first | exact HB.out | apply Xba | apply Xbn | apply Xbd | refine Xbe ?_ GE110.out) | exact HB.out)) hb); clear HO103; clear HO108; clear HO113; clear BK110; clear HB; have HO103 := n0_; have HO108 := n1_; have HO113 := n2_; have HO118 := n3_; have BK110 := n4_; have HB := n5_; clear n0_ n1_ n2_ n3_ n4_ n5_; (try clear hb); (try clear hb2); (try clear hk); (try clear hi); (try clear ho0)) | ((with_reducible refine gate_dst (N := 6) rfl ?_); refine box_event ?hg (N := 6) ?hd (cs := #[.int .i64 0, .int .i64 0, .slice none 0 0]) (t := 24) ?hr ?_; (case hd => rfl); (case hg => rfl); (case hr => first | (go_simp; done) | (go_simp; rfl)); intro gb120 hg w38 hbox hb; have n0_ := Xam (Kd.R_below (by (with_reducible repeat (first | apply Xra | apply Xrn | apply Xrd)); exact HO103.out) hb); have n1_ := Xam (Kd.R_below (by (with_reducible repeat (first | apply Xra | apply Xrn | apply Xrd)); exact HO108.out) hb); have n2_ := Xam (Kd.R_below (by (with_reducible repeat (first | apply Xra | apply Xrn | apply Xrd)); exact HO113.out) hb); have n3_ := Xam (Kd.R_below (by (with_reducible repeat (first | apply Xra | apply Xrn | apply Xrd)); exact HO118.out) hb); have n4_ := Xam (Xbb (g := gb110) (o := .cells #[.int .i64 t104, .int .i64 t105, .slice Ao34 t106.length co34] 24 (0, 0)) (by (with_reducible repeat (first | refine Xkn ?_ _ | refine Xkd ?_ | refine Xka ?_ _)); exact BK110.out) hb); have n5_ := Xam (Xbt (by repeat (first | (with_reducible first | exact HB.out | apply Xba | apply Xbn | apply Xbd | refine Xbe ?_ GE110.out) | exact HB.out)) hb); have n6_ := Xam (hbox); have n7_ := Xam ((by rw [hg]; exact (Xbs (by repeat (first | (with_reducible first | exact HB.out | apply Xba | apply Xbn | apply Xbd | refine Xbe ?_ GE110.out) | exact HB.out))) : w.heap.size ≤ gb120)); have n8_ := Xam ((by rw [hg]; exact (Xbs (by repeat (first | (with_reducible first | exact HB.out | apply Xba | apply Xbn | apply Xbd | refine Xbe ?_ GE110.out) | exact HB.out))) : w.heap.size ≤ gb120)); have n9_ := Xam ((by rw [hg]; exact Nat.ne_of_lt (Xbl (g := gb110) (o := .cells #[.int .i64 t104, .int .i64 t105, .slice Ao34 t106.length co34] 24 (0, 0)) (by (with_reducible repeat (first | refine Xkn ?_ _ | refine Xkd ?_ | refine Xka ?_ _)); exact BK110.out)) : gb110 ≠ gb120)); have n10_ := Xam ((by rw [hg]; exact Nat.ne_of_gt (Xbl (g := gb110) (o := .cells #[.int .i64 t104, .int .i64 t105, .slice Ao34 t106.length co34] 24 (0, 0)) (by (with_reducible repeat (first | refine Xkn ?_ _ | refine Xkd ?_ | refine Xka ?_ _)); exact BK110.out)) : gb120 ≠ gb110)); clear HO103; clear HO108; clear HO113; clear HO118; clear BK110; clear HB; have HO103 := n0_; have HO108 := n1_; have HO113 := n2_; have HO118 := n3_; have BK110 := n4_; have HB := n5_; have BK120 := n6_; have GW120 := n7_; have GE120 := n8_; have NB110_120 := n9_; have NB120_110 := n10_; clear n0_ n1_ n2_ n3_ n4_ n5_ n6_ n7_ n8_ n9_ n10_; clear hb hbox hg; have hnb39 := NB120_110.out; have hnc39 := NB110_120.out; have hcz40_0 : w38.cell? ⟨gb120, 0, none⟩ = some (.int .i64 0) := (Xbc BK120.out 0).trans rfl; have hcz40_1 : w38.cell? ⟨gb120, 1, none⟩ = some (.int .i64 0) := (Xbc BK120.out 1).trans rfl; have hcz40_2 : w38.cell? ⟨gb120, 2, none⟩ = some (.slice none 0 0) := (Xbc BK120.out 2).trans rfl; have hfz40_0 := Xbf BK120.out 0; have hfz40_1 := Xbf BK120.out 1; have hfz40_2 := Xbf BK120.out 2; obtain ⟨Ao41, co41, eo41⟩ := Kd.R_slice HO118.out; subst eo41; have hcz42_0 : w38.cell? ⟨gb110, 0, none⟩ = some (.int .i64 t104) := (Xbc BK110.out 0).trans rfl; have hcz42_1 : w38.cell? ⟨gb110, 1, none⟩ = some (.int .i64 t105) := (Xbc BK110.out 1).trans rfl; have hcz42_2 : w38.cell? ⟨gb110, 2, none⟩ = some (.slice Ao34 t106.length co34) := (Xbc BK110.out 2).trans rfl; have hfz42_0 := Xbf BK110.out 0; have hfz42_1 := Xbf BK110.out 1; have hfz42_2 := Xbf BK110.out 2) | ((with_reducible refine gate_callee (f := 18) rfl ?_); refine goesL_ (some 31) rfl rfl Try.func18 (by kernel_rfl) rfl #[.agg #[.int .i64 t114, .int .i64 t115, .slice Ao41 t116.length co41], .agg #[.int .i64 t104, .int .i64 t105, .slice Ao34 t106.length co34]] rfl (by (try simp only [List.map_toArray, List.map_cons, List.map_nil]); first | done | rfl | (simp only [List.length_drop, List.length_take]; rfl)) ?_; (with_reducible refine (laws_eqPiece.calls k t114 t115 _ _ t116 t104 t105 _ _ t106 true _ ?side1 ?side2 ?side3 ?side4 A7.out).mono ?_); (case side1 => refine (Kd.R_reads' (e := 5) (base := w.heap.size) (ok := fun k_ => (((True ∧ some k_ ≠ (.slice Ao30 t101.length co30 : Value).ownBlock) ∧ some k_ ≠ (.slice Ao34 t106.length co34 : Value).ownBlock) ∧ some k_ ≠ (.slice Ao36 t111.length co36 : Value).ownBlock)) (n := t116.length) (c := co41) ?_).2.2; exact (by (with_reducible repeat (first | apply Xra | apply Xrn | apply Xrd)); exact (Kd.R_mono (Kd.R_far (p := ⟨gb120, 2, none⟩) (Kd.R_far (p := ⟨gb120, 1, none⟩) (Kd.R_far (p := ⟨gb120, 0, none⟩) (Kd.R_types HO118.out BK120.out (by decide)) (fun _ hk => by first | exact hk.2 | grind) (.int .i64 t114)) (fun _ hk => by first | exact hk.2 | grind) (.int .i64 t115)) (fun _ hk => by first | exact hk.2 | grind) (.slice Ao41 t116.length co41)) (fun _ h_ => h_.1)))); (case side2 => exact (Kd.R_reads' HO118.out).2.1); (case side3 => refine (Kd.R_reads' (e := 5) (base := w.heap.size) (ok := fun k_ => (((True ∧ some k_ ≠ (.slice Ao30 t101.length co30 : Value).ownBlock) ∧ some k_ ≠ (.slice Ao36 t111.length co36 : Value).ownBlock) ∧ some k_ ≠ (.slice Ao41 t116.length co41 : Value).ownBlock)) (n := t106.length) (c := co34) ?_).2.2; exact (by (with_reducible repeat (first | apply Xra | apply Xrn | apply Xrd)); exact (Kd.R_mono (Kd.R_far (p := ⟨gb120, 2, none⟩) (Kd.R_far (p := ⟨gb120, 1, none⟩) (Kd.R_far (p := ⟨gb120, 0, none⟩) (Kd.R_types HO108.out BK120.out (by decide)) (fun _ hk => by first | exact hk.2 | grind) (.int .i64 t114)) (fun _ hk => by first | exact hk.2 | grind) (.int .i64 t115)) (fun _ hk => by first | exact hk.2 | grind) (.slice Ao41 t116.length co41)) (fun _ h_ => h_.1)))); (case side4 => exact (Kd.R_reads' HO108.out).2.1); rintro e w43 ⟨rfl, hb⟩; refine ⟨_, rfl, ?_⟩; have n0_ := Xam (Kd.R_below (by (with_reducible repeat (first | apply Xra | apply Xrn | apply Xrd)); exact (Kd.R_mono (Kd.R_far (p := ⟨gb120, 2, none⟩) (Kd.R_far (p := ⟨gb120, 1, none⟩) (Kd.R_far (p := ⟨gb120, 0, none⟩) (Kd.R_types HO103.out BK120.out (by decide)) (fun _ hk => by first | exact hk.2 | grind) (.int .i64 t114)) (fun _ hk => by first | exact hk.2 | grind) (.int .i64 t115)) (fun _ hk => by first | exact hk.2 | grind) (.slice Ao41 t116.length co41)) (fun _ h_ => h_.1))) hb); have n1_ := Xam (Kd.R_below (by (with_reducible repeat (first | apply Xra | apply Xrn | apply Xrd)); exact (Kd.R_mono (Kd.R_far (p := ⟨gb120, 2, none⟩) (Kd.R_far (p := ⟨gb120, 1, none⟩) (Kd.R_far (p := ⟨gb120, 0, none⟩) (Kd.R_types HO108.out BK120.out (by decide)) (fun _ hk => by first | exact hk.2 | grind) (.int .i64 t114)) (fun _ hk => by first | exact hk.2 | grind) (.int .i64 t115)) (fun _ hk => by first | exact hk.2 | grind) (.slice Ao41 t116.length co41)) (fun _ h_ => h_.1))) hb); have n2_ := Xam (Kd.R_below (by (with_reducible repeat (first | apply Xra | apply Xrn | apply Xrd)); exact (Kd.R_mono (Kd.R_far (p := ⟨gb120, 2, none⟩) (Kd.R_far (p := ⟨gb120, 1, none⟩) (Kd.R_far (p := ⟨gb120, 0, none⟩) (Kd.R_types HO113.out BK120.out (by decide)) (fun _ hk => by first | exact hk.2 | grind) (.int .i64 t114)) (fun _ hk => by first | exact hk.2 | grind) (.int .i64 t115)) (fun _ hk => by first | exact hk.2 | grind) (.slice Ao41 t116.length co41)) (fun _ h_ => h_.1))) hb); have n3_ := Xam (Kd.R_below (by (with_reducible repeat (first | apply Xra | apply Xrn | apply Xrd)); exact (Kd.R_mono (Kd.R_far (p := ⟨gb120, 2, none⟩) (Kd.R_far (p := ⟨gb120, 1, none⟩) (Kd.R_far (p := ⟨gb120, 0, none⟩) (Kd.R_types HO118.out BK120.out (by decide)) (fun _ hk => by first | exact hk.2 | grind) (.int .i64 t114)) (fun _ hk => by first | exact hk.2 | grind) (.int .i64 t115)) (fun _ hk => by first | exact hk.2 | grind) (.slice Ao41 t116.length co41)) (fun _ h_ => h_.1))) hb); have n4_ := Xam (Xbb (g := gb110) (o := .cells #[.int .i64 t104, .int .i64 t105, .slice Ao34 t106.length co34] 24 (0, 0)) (by (with_reducible repeat (first | refine Xkn ?_ _ | refine Xkd ?_ | refine Xka ?_ _)); refine blk_far ?_ NB110_120.out _; (with_reducible repeat (first | refine Xkn ?_ _ | refine Xkd ?_ | refine Xka ?_ _)); refine blk_far ?_ NB110_120.out _; (with_reducible repeat (first | refine Xkn ?_ _ | refine Xkd ?_ | refine Xka ?_ _)); refine blk_far ?_ NB110_120.out _; (with_reducible repeat (first | refine Xkn ?_ _ | refine Xkd ?_ | refine Xka ?_ _)); exact BK110.out) hb); have n5_ := Xam (Xbb (g := gb120) (o := .cells #[.int .i64 t114, .int .i64 t115, .slice Ao41 t116.length co41] 24 (0, 0)) (by (with_reducible repeat (first | refine Xkn ?_ _ | refine Xkd ?_ | refine Xka ?_ _)); refine blk_put (cs := #[.int .i64 t114, .int .i64 t115, .slice none 0 0]) ?_ 2 _ rfl; (with_reducible repeat (first | refine Xkn ?_ _ | refine Xkd ?_ | refine Xka ?_ _)); refine blk_put (cs := #[.int .i64 t114, .int .i64 0, .slice none 0 0]) ?_ 1 _ rfl; (with_reducible repeat (first | refine Xkn ?_ _ | refine Xkd ?_ | refine Xka ?_ _)); refine blk_put (cs := #[.int .i64 0, .int .i64 0, .slice none 0 0]) ?_ 0 _ rfl; (with_reducible repeat (first | refine Xkn ?_ _ | refine Xkd ?_ | refine Xka ?_ _)); exact BK120.out) hb); have n6_ := Xam (Xbt (by repeat (first | (with_reducible first | exact HB.out | apply Xba | apply Xbn | apply Xbd | refine Xbe ?_ GE110.out | refine Xbe ?_ GE120.out) | exact HB.out)) hb); clear HO103; clear HO108; clear HO113; clear HO118; clear BK110; clear BK120; clear HB; have HO103 := n0_; have HO108 := n1_; have HO113 := n2_; have HO118 := n3_; have BK110 := n4_; have BK120 := n5_; have HB := n6_; clear n0_ n1_ n2_ n3_ n4_ n5_ n6_; (try clear hb); (try clear hb2); (try clear hk); (try clear hi)) | ((with_reducible refine gate_callee (f := 16) rfl ?_); refine goesL_ (some 40) rfl rfl Try.func16 (by kernel_rfl) rfl #[.slice A0 l0.length c0] rfl (by (try simp only [List.map_toArray, List.map_cons, List.map_nil]); first | done | rfl | (simp only [List.length_drop, List.length_take]; rfl)) ?_; (with_reducible refine (laws_toByteS.calls k _ _ l0 t122 _ ?side1 ?side2 A10.out).mono ?_); (case side1 => repeat (first | exact (Kd.C_below HR0.out HB.out) | (with_reducible refine Xca ?_ _) | (with_reducible refine Xcn ?_ _) | (with_reducible refine Xcd ?_))); (case side2 => exact HC0.out); rintro e w44 ⟨v123, rfl, ho0, hb⟩; refine ⟨_, rfl, ?_⟩; have n0_ := Xam (Kd.R_elder' (by (with_reducible repeat (first | apply Xra | apply Xrn | apply Xrd)); exact HO103.out) (Kd.R_base ho0) hb); have n1_ := Xam (Kd.R_elder' (by (with_reducible repeat (first | apply Xra | apply Xrn | apply Xrd)); exact HO108.out) (Kd.R_base ho0) hb); have n2_ := Xam (Kd.R_elder' (by (with_reducible repeat (first | apply Xra | apply Xrn | apply Xrd)); exact HO113.out) (Kd.R_base ho0) hb); have n3_ := Xam (Kd.R_elder' (by (with_reducible repeat (first | apply Xra | apply Xrn | apply Xrd)); exact HO118.out) (Kd.R_base ho0) hb); have n4_ := Xam (Kd.R_lower (Kd.R_new' (Kd.R_new' (Kd.R_new' (Kd.R_new' ho0 (Kd.R_lt (by (with_reducible repeat (first | apply Xra | apply Xrn | apply Xrd)); exact HO103.out))) (Kd.R_lt (by (with_reducible repeat (first | apply Xra | apply Xrn | apply Xrd)); exact HO108.out))) (Kd.R_lt (by (with_reducible repeat (first | apply Xra | apply Xrn | apply Xrd)); exact HO113.out))) (Kd.R_lt (by (with_reducible repeat (first | apply Xra | apply Xrn | apply Xrd)); exact HO118.out))) (Xbs (by repeat (first | (with_reducible first | exact HB.out | apply Xba | apply Xbn | apply Xbd | refine Xbe ?_ GE110.out | refine Xbe ?_ GE120.out) | exact HB.out)))); have n5_ := Xam (Xbb (g := gb110) (o := .cells #[.int .i64 t104, .int .i64 t105, .slice Ao34 t106.length co34] 24 (0, 0)) (by (with_reducible repeat (first | refine Xkn ?_ _ | refine Xkd ?_ | refine Xka ?_ _)); exact BK110.out) hb); have n6_ := Xam (Xbb (g := gb120) (o := .cells #[.int .i64 t114, .int .i64 t115, .slice Ao41 t116.length co41] 24 (0, 0)) (by (with_reducible repeat (first | refine Xkn ?_ _ | refine Xkd ?_ | refine Xka ?_ _)); exact BK120.out) hb); have n7_ := Xam (Xbt (by repeat (first | (with_reducible first | exact HB.out | apply Xba | apply Xbn | apply Xbd | refine Xbe ?_ GE110.out | refine Xbe ?_ GE120.out) | exact HB.out)) hb); clear HO103; clear HO108; clear HO113; clear HO118; clear BK110; clear BK120; clear HB; have HO103 := n0_; have HO108 := n1_; have HO113 := n2_; have HO118 := n3_; have HO124 := n4_; have BK110 := n5_; have BK120 := n6_; have HB := n7_; clear n0_ n1_ n2_ n3_ n4_ n5_ n6_ n7_; (try clear hb); (try clear hb2); (try clear hk); (try clear hi); (try clear ho0); obtain ⟨Ao45, co45, eo45⟩ := Kd.R_slice HO124.out; subst eo45) | ((with_reducible refine gate_callee (f := 19) rfl ?_); refine goesL_ (some 41) rfl rfl Try.func19 (by kernel_rfl) rfl #[.slice Ao36 t111.length co36, .slice Ao45 t122.length co45] rfl (by (try simp only [List.map_toArray, List.map_cons, List.map_nil]); first | done | rfl | (simp only [List.length_drop, List.length_take]; rfl)) ?_; (with_reducible refine (laws_eqByteS.calls k _ _ t111 _ _ t122 true _ ?side1 ?side2 ?side3 ?side4 A11.out).mono ?_); (case side1 => repeat (first | exact (Kd.R_reads' HO113.out).2.2 | (with_reducible refine Xca ?_ _) | (with_reducible refine Xcn ?_ _) | (with_reducible refine Xcd ?_))); (case side2 => exact (Kd.R_reads' HO113.out).2.1); (case side3 => repeat (first | exact (Kd.R_reads' HO124.out).2.2 | (with_reducible refine Xca ?_ _) | (with_reducible refine Xcn ?_ _) | (with_reducible refine Xcd ?_))); (case side4 => exact (Kd.R_reads' HO124.out).2.1); rintro e w' ⟨rfl, ⟨nd, rfl⟩⟩; refine ⟨_, rfl, ?_⟩; (try (rw [drewN_self w44]; generalize hq_ : World.drewN w44 _ = w44; have n0_ : Aside0 (Kd.R (Kd.int .u8) 5 w44 w.heap.size (fun k_ => some k_ ≠ (.slice Ao34 t106.length co34 : Value).ownBlock ∧ some k_ ≠ (.slice Ao36 t111.length co36 : Value).ownBlock ∧ some k_ ≠ (.slice Ao41 t116.length co41 : Value).ownBlock ∧ some k_ ≠ (.slice Ao45 t122.length co45 : Value).ownBlock) (.slice Ao30 t101.length co30) t101) := ⟨by rw [← hq_]; exact (by (with_reducible repeat (first | apply Xra | apply Xrn | apply Xrd)); exact Kd.R_mono HO103.out (fun _ hk => by first | exact ⟨hk.1.1.1.2, ⟨hk.1.1.2, ⟨hk.1.2, hk.2⟩⟩⟩ | grind))⟩; have n1_ : Aside0 (Kd.R (Kd.int .u8) 5 w44 w.heap.size (fun k_ => some k_ ≠ (.slice Ao30 t101.length co30 : Value).ownBlock ∧ some k_ ≠ (.slice Ao36 t111.length co36 : Value).ownBlock ∧ some k_ ≠ (.slice Ao41 t116.length co41 : Value).ownBlock ∧ some k_ ≠ (.slice Ao45 t122.length co45 : Value).ownBlock) (.slice Ao34 t106.length co34) t106) := ⟨by rw [← hq_]; exact (by (with_reducible repeat (first | apply Xra | apply Xrn | apply Xrd)); exact Kd.R_mono HO108.out (fun _ hk => by first | exact ⟨hk.1.1.1.2, ⟨hk.1.1.2, ⟨hk.1.2, hk.2⟩⟩⟩ | grind))⟩; have n2_ : Aside0 (Kd.R (Kd.int .u8) 5 w44 w.heap.size (fun k_ => some k_ ≠ (.slice Ao30 t101.length co30 : Value).ownBlock ∧ some k_ ≠ (.slice Ao34 t106.length co34 : Value).ownBlock ∧ some k_ ≠ (.slice Ao41 t116.length co41 : Value).ownBlock ∧ some k_ ≠ (.slice Ao45 t122.length co45 : Value).ownBlock) (.slice Ao36 t111.length co36) t111) := ⟨by rw [← hq_]; exact (by (with_reducible repeat (first | apply Xra | apply Xrn | apply Xrd)); exact Kd.R_mono HO113.out (fun _ hk => by first | exact ⟨hk.1.1.1.2, ⟨hk.1.1.2, ⟨hk.1.2, hk.2⟩⟩⟩ | grind))⟩; have n3_ : Aside0 (Kd.R (Kd.int .u8) 5 w44 w.heap.size (fun k_ => some k_ ≠ (.slice Ao30 t101.length co30 : Value).ownBlock ∧ some k_ ≠ (.slice Ao34 t106.length co34 : Value).ownBlock ∧ some k_ ≠ (.slice Ao36 t111.length co36 : Value).ownBlock ∧ some k_ ≠ (.slice Ao45 t122.length co45 : Value).ownBlock) (.slice Ao41 t116.length co41) t116) := ⟨by rw [← hq_]; exact (by (with_reducible repeat (first | apply Xra | apply Xrn | apply Xrd)); exact Kd.R_mono HO118.out (fun _ hk => by first | exact ⟨hk.1.1.1.2, ⟨hk.1.1.2, ⟨hk.1.2, hk.2⟩⟩⟩ | grind))⟩; have n4_ : Aside0 (Kd.R (Kd.int .u8) 5 w44 w.heap.size (fun k_ => some k_ ≠ (.slice Ao30 t101.length co30 : Value).ownBlock ∧ some k_ ≠ (.slice Ao34 t106.length co34 : Value).ownBlock ∧ some k_ ≠ (.slice Ao36 t111.length co36 : Value).ownBlock ∧ some k_ ≠ (.slice Ao41 t116.length co41 : Value).ownBlock) (.slice Ao45 t122.length co45) t122) := ⟨by rw [← hq_]; exact (by (with_reducible repeat (first | apply Xra | apply Xrn | apply Xrd)); exact Kd.R_mono HO124.out (fun _ hk => by first | exact ⟨hk.1.1.1.2, ⟨hk.1.1.2, ⟨hk.1.2, hk.2⟩⟩⟩ | grind))⟩; have n5_ : Aside0 (w44.heap[gb110]? = some (.cells #[.int .i64 t104, .int .i64 t105, .slice Ao34 t106.length co34] 24 (0, 0))) := ⟨by rw [← hq_]; exact (by (with_reducible repeat (first | refine Xkn ?_ _ | refine Xkd ?_ | refine Xka ?_ _)); exact BK110.out)⟩; have n6_ : Aside0 (w44.heap[gb120]? = some (.cells #[.int .i64 t114, .int .i64 t115, .slice Ao41 t116.length co41] 24 (0, 0))) := ⟨by rw [← hq_]; exact (by (with_reducible repeat (first | refine Xkn ?_ _ | refine Xkd ?_ | refine Xka ?_ _)); exact BK120.out)⟩; have n7_ : Aside0 (Below w.heap.size w w44) := ⟨by rw [← hq_]; exact (by repeat (first | (with_reducible first | exact HB.out | apply Xba | apply Xbn | apply Xbd | refine Xbe ?_ GE110.out | refine Xbe ?_ GE120.out) | exact HB.out))⟩; clear HO103 HO108 HO113 HO118 HO124 BK110 BK120 HB hq_; have HO103 := n0_; have HO108 := n1_; have HO113 := n2_; have HO118 := n3_; have HO124 := n4_; have BK110 := n5_; have BK120 := n6_; have HB := n7_; clear n0_ n1_ n2_ n3_ n4_ n5_ n6_ n7_))) | ((with_reducible refine gate_callee (f := 20) rfl ?_); refine goesL_ (some 45) rfl rfl Try.func20 (by kernel_rfl) rfl #[.slice Ao36 t111.length co36, .int .i64 1] rfl (by (try simp only [List.map_toArray, List.map_cons, List.map_nil]); first | done | rfl | (simp only [List.length_drop, List.length_take]; rfl)) ?_; (with_reducible refine (laws_markByteS.calls k (fun k_ => some k_ = (.slice Ao36 t111.length co36 : Value).ownBlock) (.slice Ao36 t111.length co36) t111 1 t126 t127 w _ ?side1 ?side2 A13.out).mono ?_); (case side1 => repeat (first | (with_reducible first | exact HB.out | apply Xba | apply Xbn | apply Xbd | refine Xbe ?_ GE110.out | refine Xbe ?_ GE120.out) | exact HB.out)); (case side2 => exact Kd.R_tight rfl HO113.out); rintro e w46 ⟨rfl, hy0, hb, hkp⟩; refine ⟨_, rfl, ?_⟩; have n0_ := Xam (Kd.R_mono (ok' := fun k_ => some k_ ≠ (.slice Ao34 t106.length co34 : Value).ownBlock ∧ some k_ ≠ (.slice Ao36 t111.length co36 : Value).ownBlock ∧ some k_ ≠ (.slice Ao41 t116.length co41 : Value).ownBlock ∧ some k_ ≠ (.slice Ao45 t122.length co45 : Value).ownBlock) (Kd.R_keptB (HO103.out) hkp (fun k_ hk_ hs_ => by first | exact (hk_.1.1.2) hs_ | grind)) (fun k_ hk_ => by first | exact ⟨hk_.1.1.1.1.2, hk_.1.1.1.2, hk_.1.1.2, hk_.1.2⟩ | grind)); have n1_ := Xam (Kd.R_mono (ok' := fun k_ => some k_ ≠ (.slice Ao30 t101.length co30 : Value).ownBlock ∧ some k_ ≠ (.slice Ao36 t111.length co36 : Value).ownBlock ∧ some k_ ≠ (.slice Ao41 t116.length co41 : Value).ownBlock ∧ some k_ ≠ (.slice Ao45 t122.length co45 : Value).ownBlock) (Kd.R_keptB (HO108.out) hkp (fun k_ hk_ hs_ => by first | exact (hk_.1.1.2) hs_ | grind)) (fun k_ hk_ => by first | exact ⟨hk_.1.1.1.1.2, hk_.1.1.1.2, hk_.1.1.2, hk_.1.2⟩ | grind)); have n2_ := Xam (blk_kept (by (with_reducible repeat (first | refine Xkn ?_ _ | refine Xkd ?_ | refine Xka ?_ _)); exact BK110.out) hkp (fun hs_ => (fun e_ => (Kd.R_ne HO113.out BK110.out (by decide)) e_) hs_)); have n3_ := Xam (Kd.R_reok rfl hy0 (fun k_ e_ => HO113.out.1 k_ e_)); have n4_ := Xam (Kd.R_mono (ok' := fun k_ => some k_ ≠ (.slice Ao30 t101.length co30 : Value).ownBlock ∧ some k_ ≠ (.slice Ao34 t106.length co34 : Value).ownBlock ∧ some k_ ≠ (.slice Ao36 t111.length co36 : Value).ownBlock ∧ some k_ ≠ (.slice Ao45 t122.length co45 : Value).ownBlock) (Kd.R_keptB (HO118.out) hkp (fun k_ hk_ hs_ => by first | exact (hk_.1.2) hs_ | grind)) (fun k_ hk_ => by first | exact ⟨hk_.1.1.1.1.2, hk_.1.1.1.2, hk_.1.1.2, hk_.1.2⟩ | grind)); have n5_ := Xam (blk_kept (by (with_reducible repeat (first | refine Xkn ?_ _ | refine Xkd ?_ | refine Xka ?_ _)); exact BK120.out) hkp (fun hs_ => (fun e_ => (Kd.R_ne HO113.out BK120.out (by decide)) e_) hs_)); have n6_ := Xam (Kd.R_mono (ok' := fun k_ => some k_ ≠ (.slice Ao30 t101.length co30 : Value).ownBlock ∧ some k_ ≠ (.slice Ao34 t106.length co34 : Value).ownBlock ∧ some k_ ≠ (.slice Ao36 t111.length co36 : Value).ownBlock ∧ some k_ ≠ (.slice Ao41 t116.length co41 : Value).ownBlock) (Kd.R_keptB (HO124.out) hkp (fun k_ hk_ hs_ => by first | exact (hk_.1.2) hs_ | grind)) (fun k_ hk_ => by first | exact ⟨hk_.1.1.1.1.2, hk_.1.1.1.2, hk_.1.1.2, hk_.1.2⟩ | grind)); have n7_ := Xam (hb); clear HO103; clear HO108; clear BK110; clear HO113; clear HO118; clear BK120; clear HO124; clear HB; have HO103 := n0_; have HO108 := n1_; have BK110 := n2_; have HO113 := n3_; have HO118 := n4_; have BK120 := n5_; have HO124 := n6_; have HB := n7_; clear n0_ n1_ n2_ n3_ n4_ n5_ n6_ n7_; (try clear hb); (try clear hkp); (try clear hy0); have hcz47_0 : w46.cell? ⟨gb120, 0, none⟩ = some (.int .i64 t114) := (Xbc BK120.out 0).trans rfl; have hcz47_1 : w46.cell? ⟨gb120, 1, none⟩ = some (.int .i64 t115) := (Xbc BK120.out 1).trans rfl; have hcz47_2 : w46.cell? ⟨gb120, 2, none⟩ = some (.slice Ao41 t116.length co41) := (Xbc BK120.out 2).trans rfl; have hfz47_0 := Xbf BK120.out 0; have hfz47_1 := Xbf BK120.out 1; have hfz47_2 := Xbf BK120.out 2; have hcz48_0 : w46.cell? ⟨gb110, 0, none⟩ = some (.int .i64 t104) := (Xbc BK110.out 0).trans rfl; have hcz48_1 : w46.cell? ⟨gb110, 1, none⟩ = some (.int .i64 t105) := (Xbc BK110.out 1).trans rfl; have hcz48_2 : w46.cell? ⟨gb110, 2, none⟩ = some (.slice Ao34 t106.length co34) := (Xbc BK110.out 2).trans rfl; have hfz48_0 := Xbf BK110.out 0; have hfz48_1 := Xbf BK110.out 1; have hfz48_2 := Xbf BK110.out 2) | (go_at_call 18; (with_reducible refine (laws_eqPiece.calls k t114 t115 _ _ t116 t104 t105 _ _ t106 true _ ?side1 ?side2 ?side3 ?side4 A15.out).mono ?_); (case side1 => repeat (first | exact (Kd.R_reads' HO118.out).2.2 | (with_reducible refine Xca ?_ _) | (with_reducible refine Xcn ?_ _) | (with_reducible refine Xcd ?_))); (case side2 => exact (Kd.R_reads' HO118.out).2.1); (case side3 => repeat (first | exact (Kd.R_reads' HO108.out).2.2 | (with_reducible refine Xca ?_ _) | (with_reducible refine Xcn ?_ _) | (with_reducible refine Xcd ?_))); (case side4 => exact (Kd.R_reads' HO108.out).2.1); rintro e w49 ⟨rfl, hb⟩; have n0_ := Xam (Kd.R_below (by (with_reducible repeat (first | apply Xra | apply Xrn | apply Xrd)); exact HO103.out) hb); have n1_ := Xam (Kd.R_below (by (with_reducible repeat (first | apply Xra | apply Xrn | apply Xrd)); exact HO108.out) hb); have n2_ := Xam (Kd.R_below (by (with_reducible repeat (first | apply Xra | apply Xrn | apply Xrd)); exact HO113.out) hb); have n3_ := Xam (Kd.R_below (by (with_reducible repeat (first | apply Xra | apply Xrn | apply Xrd)); exact HO118.out) hb); have n4_ := Xam (Kd.R_below (by (with_reducible repeat (first | apply Xra | apply Xrn | apply Xrd)); exact HO124.out) hb); have n5_ := Xam (Xbb (g := gb110) (o := .cells #[.int .i64 t104, .int .i64 t105, .slice Ao34 t106.length co34] 24 (0, 0)) (by (with_reducible repeat (first | refine Xkn ?_ _ | refine Xkd ?_ | refine Xka ?_ _)); exact BK110.out) hb); have n6_ := Xam (Xbb (g := gb120) (o := .cells #[.int .i64 t114, .int .i64 t115, .slice Ao41 t116.length co41] 24 (0, 0)) (by (with_reducible repeat (first | refine Xkn ?_ _ | refine Xkd ?_ | refine Xka ?_ _)); exact BK120.out) hb); have n7_ := Xam (Xbt (by repeat (first | (with_reducible first | exact HB.out | apply Xba | apply Xbn | apply Xbd | refine Xbe ?_ GE110.out | refine Xbe ?_ GE120.out) | exact HB.out)) hb); clear HO103; clear HO108; clear HO113; clear HO118; clear HO124; clear BK110; clear BK120; clear HB; have HO103 := n0_; have HO108 := n1_; have HO113 := n2_; have HO118 := n3_; have HO124 := n4_; have BK110 := n5_; have BK120 := n6_; have HB := n7_; clear n0_ n1_ n2_ n3_ n4_ n5_ n6_ n7_; (try clear hb); (try clear hb2); (try clear hk); (try clear hi); have hcz50_0 : w49.cell? ⟨gb120, 0, none⟩ = some (.int .i64 t114) := (Xbc BK120.out 0).trans rfl; have hcz50_1 : w49.cell? ⟨gb120, 1, none⟩ = some (.int .i64 t115) := (Xbc BK120.out 1).trans rfl; have hcz50_2 : w49.cell? ⟨gb120, 2, none⟩ = some (.slice Ao41 t116.length co41) := (Xbc BK120.out 2).trans rfl; have hfz50_0 := Xbf BK120.out 0; have hfz50_1 := Xbf BK120.out 1; have hfz50_2 := Xbf BK120.out 2) | ((with_reducible refine gate_callee (f := 21) rfl ?_); refine goesL_ (some 61) rfl rfl Try.func21 (by kernel_rfl) rfl #[.agg #[.int .i64 t114, .int .i64 t115, .slice Ao41 t116.length co41], .int .i64 1] rfl (by (try simp only [List.map_toArray, List.map_cons, List.map_nil]); first | done | rfl | (simp only [List.length_drop, List.length_take]; rfl)) ?_; (with_reducible refine (laws_markPiece.calls k t114 t115 (fun k_ => some k_ = (.slice Ao41 t116.length co41 : Value).ownBlock) (.slice Ao41 t116.length co41) t116 1 t129 t130 w _ ?side1 ?side2 A17.out).mono ?_); (case side1 => repeat (first | (with_reducible first | exact HB.out | apply Xba | apply Xbn | apply Xbd | refine Xbe ?_ GE110.out | refine Xbe ?_ GE120.out) | exact HB.out)); (case side2 => exact Kd.R_tight rfl HO118.out); rintro e w51 ⟨rfl, hy0, hb, hkp⟩; refine ⟨_, rfl, ?_⟩; have n0_ := Xam (Kd.R_mono (ok' := fun k_ => some k_ ≠ (.slice Ao34 t106.length co34 : Value).ownBlock ∧ some k_ ≠ (.slice Ao36 t111.length co36 : Value).ownBlock ∧ some k_ ≠ (.slice Ao41 t116.length co41 : Value).ownBlock ∧ some k_ ≠ (.slice Ao45 t122.length co45 : Value).ownBlock) (Kd.R_keptB (HO103.out) hkp (fun k_ hk_ hs_ => by first | exact (hk_.2.2.1) hs_ | grind)) (fun k_ hk_ => by first | exact ⟨hk_.1.1, hk_.1.2.1, hk_.1.2.2.1, hk_.1.2.2.2⟩ | grind)); have n1_ := Xam (Kd.R_mono (ok' := fun k_ => some k_ ≠ (.slice Ao30 t101.length co30 : Value).ownBlock ∧ some k_ ≠ (.slice Ao36 t111.length co36 : Value).ownBlock ∧ some k_ ≠ (.slice Ao41 t116.length co41 : Value).ownBlock ∧ some k_ ≠ (.slice Ao45 t122.length co45 : Value).ownBlock) (Kd.R_keptB (HO108.out) hkp (fun k_ hk_ hs_ => by first | exact (hk_.2.2.1) hs_ | grind)) (fun k_ hk_ => by first | exact ⟨hk_.1.1, hk_.1.2.1, hk_.1.2.2.1, hk_.1.2.2.2⟩ | grind)); have n2_ := Xam (blk_kept (by (with_reducible repeat (first | refine Xkn ?_ _ | refine Xkd ?_ | refine Xka ?_ _)); exact BK110.out) hkp (fun hs_ => (fun e_ => (Kd.R_ne HO118.out BK110.out (by decide)) e_) hs_)); have n3_ := Xam (Kd.R_mono (ok' := fun k_ => some k_ ≠ (.slice Ao30 t101.length co30 : Value).ownBlock ∧ some k_ ≠ (.slice Ao34 t106.length co34 : Value).ownBlock ∧ some k_ ≠ (.slice Ao41 t116.length co41 : Value).ownBlock ∧ some k_ ≠ (.slice Ao45 t122.length co45 : Value).ownBlock) (Kd.R_keptB (HO113.out) hkp (fun k_ hk_ hs_ => by first | exact (hk_.1.2) hs_ | grind)) (fun k_ hk_ => by first | exact ⟨hk_.1.1.1.1.2, hk_.1.1.1.2, hk_.1.1.2, hk_.1.2⟩ | grind)); have n4_ := Xam (Kd.R_reok rfl hy0 (fun k_ e_ => HO118.out.1 k_ e_)); have n5_ := Xam (blk_kept (by (with_reducible repeat (first | refine Xkn ?_ _ | refine Xkd ?_ | refine Xka ?_ _)); exact BK120.out) hkp (fun hs_ => (fun e_ => (Kd.R_ne HO118.out BK120.out (by decide)) e_) hs_)); have n6_ := Xam (Kd.R_mono (ok' := fun k_ => some k_ ≠ (.slice Ao30 t101.length co30 : Value).ownBlock ∧ some k_ ≠ (.slice Ao34 t106.length co34 : Value).ownBlock ∧ some k_ ≠ (.slice Ao36 t111.length co36 : Value).ownBlock ∧ some k_ ≠ (.slice Ao41 t116.length co41 : Value).ownBlock) (Kd.R_keptB (HO124.out) hkp (fun k_ hk_ hs_ => by first | exact (hk_.2.2.2) hs_ | grind)) (fun k_ hk_ => by first | exact ⟨hk_.1.1, hk_.1.2.1, hk_.1.2.2.1, hk_.1.2.2.2⟩ | grind)); have n7_ := Xam (hb); clear HO103; clear HO108; clear BK110; clear HO113; clear HO118; clear BK120; clear HO124; clear HB; have HO103 := n0_; have HO108 := n1_; have BK110 := n2_; have HO113 := n3_; have HO118 := n4_; have BK120 := n5_; have HO124 := n6_; have HB := n7_; clear n0_ n1_ n2_ n3_ n4_ n5_ n6_ n7_; (try clear hb); (try clear hkp); (try clear hy0); have hcz52_0 : w51.cell? ⟨gb120, 0, none⟩ = some (.int .i64 t114) := (Xbc BK120.out 0).trans rfl; have hcz52_1 : w51.cell? ⟨gb120, 1, none⟩ = some (.int .i64 t115) := (Xbc BK120.out 1).trans rfl; have hcz52_2 : w51.cell? ⟨gb120, 2, none⟩ = some (.slice Ao41 t116.length co41) := (Xbc BK120.out 2).trans rfl; have hfz52_0 := Xbf BK120.out 0; have hfz52_1 := Xbf BK120.out 1; have hfz52_2 := Xbf BK120.out 2) | ((with_reducible refine gate_callee (f := 22) rfl ?_); refine goesL_ (some 64) rfl rfl Try.func22 (by kernel_rfl) rfl #[.agg #[.int .i64 t114, .int .i64 t115, .slice Ao41 t130.length co41], .int .i64 1] rfl (by (try simp only [List.map_toArray, List.map_cons, List.map_nil]); first | done | (rw [show t130.length = t116.length from (Kd.R_reads' HO118.out).1.symm] <;> rfl) | rfl | (simp only [List.length_drop, List.length_take]; rfl)) ?_; (with_reducible refine (laws_heldPiece.calls k t114 t115 _ _ t130 1 t131 _ ?side1 ?side2 A18.out).mono ?_); (case side1 => repeat (first | exact (Kd.R_reads' HO118.out).2.2 | (with_reducible refine Xca ?_ _) | (with_reducible refine Xcn ?_ _) | (with_reducible refine Xcd ?_))); (case side2 => rw [show t130.length = t116.length from (Kd.R_reads' HO118.out).1.symm]; exact (Kd.R_reads' HO118.out).2.1); rintro e w53 ⟨rfl, hb⟩; refine ⟨_, rfl, ?_⟩; have n0_ := Xam (Kd.R_below (by (with_reducible repeat (first | apply Xra | apply Xrn | apply Xrd)); exact HO103.out) hb); have n1_ := Xam (Kd.R_below (by (with_reducible repeat (first | apply Xra | apply Xrn | apply Xrd)); exact HO108.out) hb); have n2_ := Xam (Kd.R_below (by (with_reducible repeat (first | apply Xra | apply Xrn | apply Xrd)); exact HO113.out) hb); have n3_ := Xam (Kd.R_below (by (with_reducible repeat (first | apply Xra | apply Xrn | apply Xrd)); exact HO118.out) hb); have n4_ := Xam (Kd.R_below (by (with_reducible repeat (first | apply Xra | apply Xrn | apply Xrd)); exact HO124.out) hb); have n5_ := Xam (Xbb (g := gb110) (o := .cells #[.int .i64 t104, .int .i64 t105, .slice Ao34 t106.length co34] 24 (0, 0)) (by (with_reducible repeat (first | refine Xkn ?_ _ | refine Xkd ?_ | refine Xka ?_ _)); exact BK110.out) hb); have n6_ := Xam (Xbb (g := gb120) (o := .cells #[.int .i64 t114, .int .i64 t115, .slice Ao41 t116.length co41] 24 (0, 0)) (by (with_reducible repeat (first | refine Xkn ?_ _ | refine Xkd ?_ | refine Xka ?_ _)); exact BK120.out) hb); have n7_ := Xam (Xbt (by repeat (first | (with_reducible first | exact HB.out | apply Xba | apply Xbn | apply Xbd | refine Xbe ?_ GE110.out | refine Xbe ?_ GE120.out) | exact HB.out)) hb); clear HO103; clear HO108; clear HO113; clear HO118; clear HO124; clear BK110; clear BK120; clear HB; have HO103 := n0_; have HO108 := n1_; have HO113 := n2_; have HO118 := n3_; have HO124 := n4_; have BK110 := n5_; have BK120 := n6_; have HB := n7_; clear n0_ n1_ n2_ n3_ n4_ n5_ n6_ n7_; (try clear hb); (try clear hb2); (try clear hk); (try clear hi)) | ((with_reducible refine gate_callee (f := 16) rfl ?_); refine goesL_ (some 72) rfl rfl Try.func16 (by kernel_rfl) rfl #[.slice A0 l0.length c0] rfl (by (try simp only [List.map_toArray, List.map_cons, List.map_nil]); first | done | rfl | (simp only [List.length_drop, List.length_take]; rfl)) ?_; (with_reducible refine (laws_toByteS.calls k _ _ l0 t132 _ ?side1 ?side2 A21.out).mono ?_); (case side1 => repeat (first | exact (Kd.C_below HR0.out HB.out) | (with_reducible refine Xca ?_ _) | (with_reducible refine Xcn ?_ _) | (with_reducible refine Xcd ?_))); (case side2 => exact HC0.out); rintro e w54 ⟨v133, rfl, ho0, hb⟩; refine ⟨_, rfl, ?_⟩; have n0_ := Xam (Kd.R_elder' (by (with_reducible repeat (first | apply Xra | apply Xrn | apply Xrd)); exact HO103.out) (Kd.R_base ho0) hb); have n1_ := Xam (Kd.R_elder' (by (with_reducible repeat (first | apply Xra | apply Xrn | apply Xrd)); exact HO108.out) (Kd.R_base ho0) hb); have n2_ := Xam (Kd.R_elder' (by (with_reducible repeat (first | apply Xra | apply Xrn | apply Xrd)); exact HO113.out) (Kd.R_base ho0) hb); have n3_ := Xam (Kd.R_elder' (by (with_reducible repeat (first | apply Xra | apply Xrn | apply Xrd)); exact HO118.out) (Kd.R_base ho0) hb); have n4_ := Xam (Kd.R_elder' (by (with_reducible repeat (first | apply Xra | apply Xrn | apply Xrd)); exact HO124.out) (Kd.R_base ho0) hb); have n5_ := Xam (Kd.R_lower (Kd.R_new' (Kd.R_new' (Kd.R_new' (Kd.R_new' (Kd.R_new' ho0 (Kd.R_lt (by (with_reducible repeat (first | apply Xra | apply Xrn | apply Xrd)); exact HO103.out))) (Kd.R_lt (by (with_reducible repeat (first | apply Xra | apply Xrn | apply Xrd)); exact HO108.out))) (Kd.R_lt (by (with_reducible repeat (first | apply Xra | apply Xrn | apply Xrd)); exact HO113.out))) (Kd.R_lt (by (with_reducible repeat (first | apply Xra | apply Xrn | apply Xrd)); exact HO118.out))) (Kd.R_lt (by (with_reducible repeat (first | apply Xra | apply Xrn | apply Xrd)); exact HO124.out))) (Xbs (by repeat (first | (with_reducible first | exact HB.out | apply Xba | apply Xbn | apply Xbd | refine Xbe ?_ GE110.out | refine Xbe ?_ GE120.out) | exact HB.out)))); have n6_ := Xam (Xbb (g := gb110) (o := .cells #[.int .i64 t104, .int .i64 t105, .slice Ao34 t106.length co34] 24 (0, 0)) (by (with_reducible repeat (first | refine Xkn ?_ _ | refine Xkd ?_ | refine Xka ?_ _)); exact BK110.out) hb); have n7_ := Xam (Xbb (g := gb120) (o := .cells #[.int .i64 t114, .int .i64 t115, .slice Ao41 t116.length co41] 24 (0, 0)) (by (with_reducible repeat (first | refine Xkn ?_ _ | refine Xkd ?_ | refine Xka ?_ _)); exact BK120.out) hb); have n8_ := Xam (Xbt (by repeat (first | (with_reducible first | exact HB.out | apply Xba | apply Xbn | apply Xbd | refine Xbe ?_ GE110.out | refine Xbe ?_ GE120.out) | exact HB.out)) hb); clear HO103; clear HO108; clear HO113; clear HO118; clear HO124; clear BK110; clear BK120; clear HB; have HO103 := n0_; have HO108 := n1_; have HO113 := n2_; have HO118 := n3_; have HO124 := n4_; have HO134 := n5_; have BK110 := n6_; have BK120 := n7_; have HB := n8_; clear n0_ n1_ n2_ n3_ n4_ n5_ n6_ n7_ n8_; (try clear hb); (try clear hb2); (try clear hk); (try clear hi); (try clear ho0); obtain ⟨Ao55, co55, eo55⟩ := Kd.R_slice HO134.out; subst eo55) | ((with_reducible refine gate_callee (f := 17) rfl ?_); refine goesL_ (some 73) rfl rfl Try.func17 (by kernel_rfl) rfl #[.slice Ao55 t132.length co55] rfl (by (try simp only [List.map_toArray, List.map_cons, List.map_nil]); first | done | rfl | (simp only [List.length_drop, List.length_take]; rfl)) ?_; (with_reducible refine (impl_DecodePiece.calls _ _ t132 t135 t136 t137 t140 _ ?side1 ?side2 A22.out).mono ?_); (case side1 => repeat (first | exact (Kd.R_reads' HO134.out).2.2 | (with_reducible refine Xca ?_ _) | (with_reducible refine Xcn ?_ _) | (with_reducible refine Xcd ?_))); (case side2 => exact (Kd.R_reads' HO134.out).2.1); rintro e w56 ⟨v138, rfl, ho0, hb⟩; refine ⟨_, rfl, ?_⟩; have n0_ := Xam (Kd.R_elder' (by (with_reducible repeat (first | apply Xra | apply Xrn | apply Xrd)); exact HO103.out) (Kd.R_base ho0) hb); have n1_ := Xam (Kd.R_elder' (by (with_reducible repeat (first | apply Xra | apply Xrn | apply Xrd)); exact HO108.out) (Kd.R_base ho0) hb); have n2_ := Xam (Kd.R_elder' (by (with_reducible repeat (first | apply Xra | apply Xrn | apply Xrd)); exact HO113.out) (Kd.R_base ho0) hb); have n3_ := Xam (Kd.R_elder' (by (with_reducible repeat (first | apply Xra | apply Xrn | apply Xrd)); exact HO118.out) (Kd.R_base ho0) hb); have n4_ := Xam (Kd.R_elder' (by (with_reducible repeat (first | apply Xra | apply Xrn | apply Xrd)); exact HO124.out) (Kd.R_base ho0) hb); have n5_ := Xam (Kd.R_elder' (by (with_reducible repeat (first | apply Xra | apply Xrn | apply Xrd)); exact HO134.out) (Kd.R_base ho0) hb); have n6_ := Xam (Kd.R_lower (Kd.R_new' (Kd.R_new' (Kd.R_new' (Kd.R_new' (Kd.R_new' (Kd.R_new' ho0 (Kd.R_lt (by (with_reducible repeat (first | apply Xra | apply Xrn | apply Xrd)); exact HO103.out))) (Kd.R_lt (by (with_reducible repeat (first | apply Xra | apply Xrn | apply Xrd)); exact HO108.out))) (Kd.R_lt (by (with_reducible repeat (first | apply Xra | apply Xrn | apply Xrd)); exact HO113.out))) (Kd.R_lt (by (with_reducible repeat (first | apply Xra | apply Xrn | apply Xrd)); exact HO118.out))) (Kd.R_lt (by (with_reducible repeat (first | apply Xra | apply Xrn | apply Xrd)); exact HO124.out))) (Kd.R_lt (by (with_reducible repeat (first | apply Xra | apply Xrn | apply Xrd)); exact HO134.out))) (Xbs (by repeat (first | (with_reducible first | exact HB.out | apply Xba | apply Xbn | apply Xbd | refine Xbe ?_ GE110.out | refine Xbe ?_ GE120.out) | exact HB.out)))); have n7_ := Xam (Xbb (g := gb110) (o := .cells #[.int .i64 t104, .int .i64 t105, .slice Ao34 t106.length co34] 24 (0, 0)) (by (with_reducible repeat (first | refine Xkn ?_ _ | refine Xkd ?_ | refine Xka ?_ _)); exact BK110.out) hb); have n8_ := Xam (Xbb (g := gb120) (o := .cells #[.int .i64 t114, .int .i64 t115, .slice Ao41 t116.length co41] 24 (0, 0)) (by (with_reducible repeat (first | refine Xkn ?_ _ | refine Xkd ?_ | refine Xka ?_ _)); exact BK120.out) hb); have n9_ := Xam (Xbt (by repeat (first | (with_reducible first | exact HB.out | apply Xba | apply Xbn | apply Xbd | refine Xbe ?_ GE110.out | refine Xbe ?_ GE120.out) | exact HB.out)) hb); clear HO103; clear HO108; clear HO113; clear HO118; clear HO124; clear HO134; clear BK110; clear BK120; clear HB; have HO103 := n0_; have HO108 := n1_; have HO113 := n2_; have HO118 := n3_; have HO124 := n4_; have HO134 := n5_; have HO139 := n6_; have BK110 := n7_; have BK120 := n8_; have HB := n9_; clear n0_ n1_ n2_ n3_ n4_ n5_ n6_ n7_ n8_ n9_; (try clear hb); (try clear hb2); (try clear hk); (try clear hi); (try clear ho0)) | ((with_reducible refine gate_dst (N := 11) rfl ?_); refine box_event ?hg (N := 11) ?hd (cs := #[.int .i64 0, .int .i64 0, .slice none 0 0]) (t := 24) ?hr ?_; (case hd => rfl); (case hg => rfl); (case hr => first | (go_simp; done) | (go_simp; rfl)); intro gb141 hg w57 hbox hb; have n0_ := Xam (Kd.R_below (by (with_reducible repeat (first | apply Xra | apply Xrn | apply Xrd)); exact HO103.out) hb); have n1_ := Xam (Kd.R_below (by (with_reducible repeat (first | apply Xra | apply Xrn | apply Xrd)); exact HO108.out) hb); have n2_ := Xam (Kd.R_below (by (with_reducible repeat (first | apply Xra | apply Xrn | apply Xrd)); exact HO113.out) hb); have n3_ := Xam (Kd.R_below (by (with_reducible repeat (first | apply Xra | apply Xrn | apply Xrd)); exact HO118.out) hb); have n4_ := Xam (Kd.R_below (by (with_reducible repeat (first | apply Xra | apply Xrn | apply Xrd)); exact HO124.out) hb); have n5_ := Xam (Kd.R_below (by (with_reducible repeat (first | apply Xra | apply Xrn | apply Xrd)); exact HO134.out) hb); have n6_ := Xam (Kd.R_below (by (with_reducible repeat (first | apply Xra | apply Xrn | apply Xrd)); exact HO139.out) hb); have n7_ := Xam (Xbb (g := gb110) (o := .cells #[.int .i64 t104, .int .i64 t105, .slice Ao34 t106.length co34] 24 (0, 0)) (by (with_reducible repeat (first | refine Xkn ?_ _ | refine Xkd ?_ | refine Xka ?_ _)); exact BK110.out) hb); have n8_ := Xam (Xbb (g := gb120) (o := .cells #[.int .i64 t114, .int .i64 t115, .slice Ao41 t116.length co41] 24 (0, 0)) (by (with_reducible repeat (first | refine Xkn ?_ _ | refine Xkd ?_ | refine Xka ?_ _)); exact BK120.out) hb); have n9_ := Xam (Xbt (by repeat (first | (with_reducible first | exact HB.out | apply Xba | apply Xbn | apply Xbd | refine Xbe ?_ GE110.out | refine Xbe ?_ GE120.out) | exact HB.out)) hb); have n10_ := Xam (hbox); have n11_ := Xam ((by rw [hg]; exact (Xbs (by repeat (first | (with_reducible first | exact HB.out | apply Xba | apply Xbn | apply Xbd | refine Xbe ?_ GE110.out | refine Xbe ?_ GE120.out) | exact HB.out))) : w.heap.size ≤ gb141)); have n12_ := Xam ((by rw [hg]; exact (Xbs (by repeat (first | (with_reducible first | exact HB.out | apply Xba | apply Xbn | apply Xbd | refine Xbe ?_ GE110.out | refine Xbe ?_ GE120.out) | exact HB.out))) : w.heap.size ≤ gb141)); have n13_ := Xam ((by rw [hg]; exact Nat.ne_of_lt (Xbl (g := gb110) (o := .cells #[.int .i64 t104, .int .i64 t105, .slice Ao34 t106.length co34] 24 (0, 0)) (by (with_reducible repeat (first | refine Xkn ?_ _ | refine Xkd ?_ | refine Xka ?_ _)); exact BK110.out)) : gb110 ≠ gb141)); have n14_ := Xam ((by rw [hg]; exact Nat.ne_of_gt (Xbl (g := gb110) (o := .cells #[.int .i64 t104, .int .i64 t105, .slice Ao34 t106.length co34] 24 (0, 0)) (by (with_reducible repeat (first | refine Xkn ?_ _ | refine Xkd ?_ | refine Xka ?_ _)); exact BK110.out)) : gb141 ≠ gb110)); have n15_ := Xam ((by rw [hg]; exact Nat.ne_of_lt (Xbl (g := gb120) (o := .cells #[.int .i64 t114, .int .i64 t115, .slice Ao41 t116.length co41] 24 (0, 0)) (by (with_reducible repeat (first | refine Xkn ?_ _ | refine Xkd ?_ | refine Xka ?_ _)); exact BK120.out)) : gb120 ≠ gb141)); have n16_ := Xam ((by rw [hg]; exact Nat.ne_of_gt (Xbl (g := gb120) (o := .cells #[.int .i64 t114, .int .i64 t115, .slice Ao41 t116.length co41] 24 (0, 0)) (by (with_reducible repeat (first | refine Xkn ?_ _ | refine Xkd ?_ | refine Xka ?_ _)); exact BK120.out)) : gb141 ≠ gb120)); clear HO103; clear HO108; clear HO113; clear HO118; clear HO124; clear HO134; clear HO139; clear BK110; clear BK120; clear HB; have HO103 := n0_; have HO108 := n1_; have HO113 := n2_; have HO118 := n3_; have HO124 := n4_; have HO134 := n5_; have HO139 := n6_; have BK110 := n7_; have BK120 := n8_; have HB := n9_; have BK141 := n10_; have GW141 := n11_; have GE141 := n12_; have NB110_141 := n13_; have NB141_110 := n14_; have NB120_141 := n15_; have NB141_120 := n16_; clear n0_ n1_ n2_ n3_ n4_ n5_ n6_ n7_ n8_ n9_ n10_ n11_ n12_ n13_ n14_ n15_ n16_; clear hb hbox hg; have hnb58 := NB141_110.out; have hnc58 := NB110_141.out; have hnb59 := NB141_120.out; have hnc59 := NB120_141.out; have hcz60_0 : w57.cell? ⟨gb141, 0, none⟩ = some (.int .i64 0) := (Xbc BK141.out 0).trans rfl; have hcz60_1 : w57.cell? ⟨gb141, 1, none⟩ = some (.int .i64 0) := (Xbc BK141.out 1).trans rfl; have hcz60_2 : w57.cell? ⟨gb141, 2, none⟩ = some (.slice none 0 0) := (Xbc BK141.out 2).trans rfl; have hfz60_0 := Xbf BK141.out 0; have hfz60_1 := Xbf BK141.out 1; have hfz60_2 := Xbf BK141.out 2; obtain ⟨Ao61, co61, eo61⟩ := Kd.R_slice HO139.out; subst eo61; have hcz62_0 : w57.cell? ⟨gb110, 0, none⟩ = some (.int .i64 t104) := (Xbc BK110.out 0).trans rfl; have hcz62_1 : w57.cell? ⟨gb110, 1, none⟩ = some (.int .i64 t105) := (Xbc BK110.out 1).trans rfl; have hcz62_2 : w57.cell? ⟨gb110, 2, none⟩ = some (.slice Ao34 t106.length co34) := (Xbc BK110.out 2).trans rfl; have hfz62_0 := Xbf BK110.out 0; have hfz62_1 := Xbf BK110.out 1; have hfz62_2 := Xbf BK110.out 2) | ((with_reducible refine gate_callee (f := 18) rfl ?_); refine goesL_ (some 78) rfl rfl Try.func18 (by kernel_rfl) rfl #[.agg #[.int .i64 t135, .int .i64 t136, .slice Ao61 t137.length co61], .agg #[.int .i64 t104, .int .i64 t105, .slice Ao34 t106.length co34]] rfl (by (try simp only [List.map_toArray, List.map_cons, List.map_nil]); first | done | rfl | (simp only [List.length_drop, List.length_take]; rfl)) ?_; (with_reducible refine (laws_eqPiece.calls k t135 t136 _ _ t137 t104 t105 _ _ t106 true _ ?side1 ?side2 ?side3 ?side4 A23.out).mono ?_); (case side1 => refine (Kd.R_reads' (e := 5) (base := w.heap.size) (ok := fun k_ => ((((((True ∧ some k_ ≠ (.slice Ao30 t101.length co30 : Value).ownBlock) ∧ some k_ ≠ (.slice Ao34 t106.length co34 : Value).ownBlock) ∧ some k_ ≠ (.slice Ao36 t111.length co36 : Value).ownBlock) ∧ some k_ ≠ (.slice Ao41 t116.length co41 : Value).ownBlock) ∧ some k_ ≠ (.slice Ao45 t122.length co45 : Value).ownBlock) ∧ some k_ ≠ (.slice Ao55 t132.length co55 : Value).ownBlock)) (n := t137.length) (c := co61) ?_).2.2; exact (by (with_reducible repeat (first | apply Xra | apply Xrn | apply Xrd)); exact (Kd.R_mono (Kd.R_far (p := ⟨gb141, 2, none⟩) (Kd.R_far (p := ⟨gb141, 1, none⟩) (Kd.R_far (p := ⟨gb141, 0, none⟩) (Kd.R_types HO139.out BK141.out (by decide)) (fun _ hk => by first | exact hk.2 | grind) (.int .i64 t135)) (fun _ hk => by first | exact hk.2 | grind) (.int .i64 t136)) (fun _ hk => by first | exact hk.2 | grind) (.slice Ao61 t137.length co61)) (fun _ h_ => h_.1)))); (case side2 => exact (Kd.R_reads' HO139.out).2.1); (case side3 => refine (Kd.R_reads' (e := 5) (base := w.heap.size) (ok := fun k_ => (((some k_ ≠ (.slice Ao30 t101.length co30 : Value).ownBlock ∧ (some k_ ≠ (.slice Ao36 t111.length co36 : Value).ownBlock ∧ (some k_ ≠ (.slice Ao41 t116.length co41 : Value).ownBlock ∧ some k_ ≠ (.slice Ao45 t122.length co45 : Value).ownBlock))) ∧ some k_ ≠ (.slice Ao55 t132.length co55 : Value).ownBlock) ∧ some k_ ≠ (.slice Ao61 t137.length co61 : Value).ownBlock)) (n := t106.length) (c := co34) ?_).2.2; exact (by (with_reducible repeat (first | apply Xra | apply Xrn | apply Xrd)); exact (Kd.R_mono (Kd.R_far (p := ⟨gb141, 2, none⟩) (Kd.R_far (p := ⟨gb141, 1, none⟩) (Kd.R_far (p := ⟨gb141, 0, none⟩) (Kd.R_types HO108.out BK141.out (by decide)) (fun _ hk => by first | exact hk.2 | grind) (.int .i64 t135)) (fun _ hk => by first | exact hk.2 | grind) (.int .i64 t136)) (fun _ hk => by first | exact hk.2 | grind) (.slice Ao61 t137.length co61)) (fun _ h_ => h_.1)))); (case side4 => exact (Kd.R_reads' HO108.out).2.1); rintro e w63 ⟨rfl, hb⟩; refine ⟨_, rfl, ?_⟩; have n0_ := Xam (Kd.R_below (by (with_reducible repeat (first | apply Xra | apply Xrn | apply Xrd)); exact (Kd.R_mono (Kd.R_far (p := ⟨gb141, 2, none⟩) (Kd.R_far (p := ⟨gb141, 1, none⟩) (Kd.R_far (p := ⟨gb141, 0, none⟩) (Kd.R_types HO103.out BK141.out (by decide)) (fun _ hk => by first | exact hk.2 | grind) (.int .i64 t135)) (fun _ hk => by first | exact hk.2 | grind) (.int .i64 t136)) (fun _ hk => by first | exact hk.2 | grind) (.slice Ao61 t137.length co61)) (fun _ h_ => h_.1))) hb); have n1_ := Xam (Kd.R_below (by (with_reducible repeat (first | apply Xra | apply Xrn | apply Xrd)); exact (Kd.R_mono (Kd.R_far (p := ⟨gb141, 2, none⟩) (Kd.R_far (p := ⟨gb141, 1, none⟩) (Kd.R_far (p := ⟨gb141, 0, none⟩) (Kd.R_types HO108.out BK141.out (by decide)) (fun _ hk => by first | exact hk.2 | grind) (.int .i64 t135)) (fun _ hk => by first | exact hk.2 | grind) (.int .i64 t136)) (fun _ hk => by first | exact hk.2 | grind) (.slice Ao61 t137.length co61)) (fun _ h_ => h_.1))) hb); have n2_ := Xam (Kd.R_below (by (with_reducible repeat (first | apply Xra | apply Xrn | apply Xrd)); exact (Kd.R_mono (Kd.R_far (p := ⟨gb141, 2, none⟩) (Kd.R_far (p := ⟨gb141, 1, none⟩) (Kd.R_far (p := ⟨gb141, 0, none⟩) (Kd.R_types HO113.out BK141.out (by decide)) (fun _ hk => by first | exact hk.2 | grind) (.int .i64 t135)) (fun _ hk => by first | exact hk.2 | grind) (.int .i64 t136)) (fun _ hk => by first | exact hk.2 | grind) (.slice Ao61 t137.length co61)) (fun _ h_ => h_.1))) hb); have n3_ := Xam (Kd.R_below (by (with_reducible repeat (first | apply Xra | apply Xrn | apply Xrd)); exact (Kd.R_mono (Kd.R_far (p := ⟨gb141, 2, none⟩) (Kd.R_far (p := ⟨gb141, 1, none⟩) (Kd.R_far (p := ⟨gb141, 0, none⟩) (Kd.R_types HO118.out BK141.out (by decide)) (fun _ hk => by first | exact hk.2 | grind) (.int .i64 t135)) (fun _ hk => by first | exact hk.2 | grind) (.int .i64 t136)) (fun _ hk => by first | exact hk.2 | grind) (.slice Ao61 t137.length co61)) (fun _ h_ => h_.1))) hb); have n4_ := Xam (Kd.R_below (by (with_reducible repeat (first | apply Xra | apply Xrn | apply Xrd)); exact (Kd.R_mono (Kd.R_far (p := ⟨gb141, 2, none⟩) (Kd.R_far (p := ⟨gb141, 1, none⟩) (Kd.R_far (p := ⟨gb141, 0, none⟩) (Kd.R_types HO124.out BK141.out (by decide)) (fun _ hk => by first | exact hk.2 | grind) (.int .i64 t135)) (fun _ hk => by first | exact hk.2 | grind) (.int .i64 t136)) (fun _ hk => by first | exact hk.2 | grind) (.slice Ao61 t137.length co61)) (fun _ h_ => h_.1))) hb); have n5_ := Xam (Kd.R_below (by (with_reducible repeat (first | apply Xra | apply Xrn | apply Xrd)); exact (Kd.R_mono (Kd.R_far (p := ⟨gb141, 2, none⟩) (Kd.R_far (p := ⟨gb141, 1, none⟩) (Kd.R_far (p := ⟨gb141, 0, none⟩) (Kd.R_types HO134.out BK141.out (by decide)) (fun _ hk => by first | exact hk.2 | grind) (.int .i64 t135)) (fun _ hk => by first | exact hk.2 | grind) (.int .i64 t136)) (fun _ hk => by first | exact hk.2 | grind) (.slice Ao61 t137.length co61)) (fun _ h_ => h_.1))) hb); have n6_ := Xam (Kd.R_below (by (with_reducible repeat (first | apply Xra | apply Xrn | apply Xrd)); exact (Kd.R_mono (Kd.R_far (p := ⟨gb141, 2, none⟩) (Kd.R_far (p := ⟨gb141, 1, none⟩) (Kd.R_far (p := ⟨gb141, 0, none⟩) (Kd.R_types HO139.out BK141.out (by decide)) (fun _ hk => by first | exact hk.2 | grind) (.int .i64 t135)) (fun _ hk => by first | exact hk.2 | grind) (.int .i64 t136)) (fun _ hk => by first | exact hk.2 | grind) (.slice Ao61 t137.length co61)) (fun _ h_ => h_.1))) hb); have n7_ := Xam (Xbb (g := gb110) (o := .cells #[.int .i64 t104, .int .i64 t105, .slice Ao34 t106.length co34] 24 (0, 0)) (by (with_reducible repeat (first | refine Xkn ?_ _ | refine Xkd ?_ | refine Xka ?_ _)); refine blk_far ?_ NB110_141.out _; (with_reducible repeat (first | refine Xkn ?_ _ | refine Xkd ?_ | refine Xka ?_ _)); refine blk_far ?_ NB110_141.out _; (with_reducible repeat (first | refine Xkn ?_ _ | refine Xkd ?_ | refine Xka ?_ _)); refine blk_far ?_ NB110_141.out _; (with_reducible repeat (first | refine Xkn ?_ _ | refine Xkd ?_ | refine Xka ?_ _)); exact BK110.out) hb); have n8_ := Xam (Xbb (g := gb120) (o := .cells #[.int .i64 t114, .int .i64 t115, .slice Ao41 t116.length co41] 24 (0, 0)) (by (with_reducible repeat (first | refine Xkn ?_ _ | refine Xkd ?_ | refine Xka ?_ _)); refine blk_far ?_ NB120_141.out _; (with_reducible repeat (first | refine Xkn ?_ _ | refine Xkd ?_ | refine Xka ?_ _)); refine blk_far ?_ NB120_141.out _; (with_reducible repeat (first | refine Xkn ?_ _ | refine Xkd ?_ | refine Xka ?_ _)); refine blk_far ?_ NB120_141.out _; (with_reducible repeat (first | refine Xkn ?_ _ | refine Xkd ?_ | refine Xka ?_ _)); exact BK120.out) hb); have n9_ := Xam (Xbb (g := gb141) (o := .cells #[.int .i64 t135, .int .i64 t136, .slice Ao61 t137.length co61] 24 (0, 0)) (by (with_reducible repeat (first | refine Xkn ?_ _ | refine Xkd ?_ | refine Xka ?_ _)); refine blk_put (cs := #[.int .i64 t135, .int .i64 t136, .slice none 0 0]) ?_ 2 _ rfl; (with_reducible repeat (first | refine Xkn ?_ _ | refine Xkd ?_ | refine Xka ?_ _)); refine blk_put (cs := #[.int .i64 t135, .int .i64 0, .slice none 0 0]) ?_ 1 _ rfl; (with_reducible repeat (first | refine Xkn ?_ _ | refine Xkd ?_ | refine Xka ?_ _)); refine blk_put (cs := #[.int .i64 0, .int .i64 0, .slice none 0 0]) ?_ 0 _ rfl; (with_reducible repeat (first | refine Xkn ?_ _ | refine Xkd ?_ | refine Xka ?_ _)); exact BK141.out) hb); have n10_ := Xam (Xbt (by repeat (first | (with_reducible first | exact HB.out | apply Xba | apply Xbn | apply Xbd | refine Xbe ?_ GE110.out | refine Xbe ?_ GE120.out | refine Xbe ?_ GE141.out) | exact HB.out)) hb); clear HO103; clear HO108; clear HO113; clear HO118; clear HO124; clear HO134; clear HO139; clear BK110; clear BK120; clear BK141; clear HB; have HO103 := n0_; have HO108 := n1_; have HO113 := n2_; have HO118 := n3_; have HO124 := n4_; have HO134 := n5_; have HO139 := n6_; have BK110 := n7_; have BK120 := n8_; have BK141 := n9_; have HB := n10_; clear n0_ n1_ n2_ n3_ n4_ n5_ n6_ n7_ n8_ n9_ n10_; (try clear hb); (try clear hb2); (try clear hk); (try clear hi); have hcz64_0 : w63.cell? ⟨gb120, 0, none⟩ = some (.int .i64 t114) := (Xbc BK120.out 0).trans rfl; have hcz64_1 : w63.cell? ⟨gb120, 1, none⟩ = some (.int .i64 t115) := (Xbc BK120.out 1).trans rfl; have hcz64_2 : w63.cell? ⟨gb120, 2, none⟩ = some (.slice Ao41 t116.length co41) := (Xbc BK120.out 2).trans rfl; have hfz64_0 := Xbf BK120.out 0; have hfz64_1 := Xbf BK120.out 1; have hfz64_2 := Xbf BK120.out 2) | ((with_reducible refine gate_callee (f := 22) rfl ?_); refine goesL_ (some 87) rfl rfl Try.func22 (by kernel_rfl) rfl #[.agg #[.int .i64 t114, .int .i64 t115, .slice Ao41 t130.length co41], .int .i64 1] rfl (by (try simp only [List.map_toArray, List.map_cons, List.map_nil]); first | done | (rw [show t130.length = t116.length from (Kd.R_reads' HO118.out).1.symm] <;> rfl) | rfl | (simp only [List.length_drop, List.length_take]; rfl)) ?_; (with_reducible refine (laws_heldPiece.calls k t114 t115 _ _ t130 1 t143 _ ?side1 ?side2 A26.out).mono ?_); (case side1 => repeat (first | exact (Kd.R_reads' HO118.out).2.2 | (with_reducible refine Xca ?_ _) | (with_reducible refine Xcn ?_ _) | (with_reducible refine Xcd ?_))); (case side2 => rw [show t130.length = t116.length from (Kd.R_reads' HO118.out).1.symm]; exact (Kd.R_reads' HO118.out).2.1); rintro e w65 ⟨rfl, hb⟩; refine ⟨_, rfl, ?_⟩; have n0_ := Xam (Kd.R_below (by (with_reducible repeat (first | apply Xra | apply Xrn | apply Xrd)); exact HO103.out) hb); have n1_ := Xam (Kd.R_below (by (with_reducible repeat (first | apply Xra | apply Xrn | apply Xrd)); exact HO108.out) hb); have n2_ := Xam (Kd.R_below (by (with_reducible repeat (first | apply Xra | apply Xrn | apply Xrd)); exact HO113.out) hb); have n3_ := Xam (Kd.R_below (by (with_reducible repeat (first | apply Xra | apply Xrn | apply Xrd)); exact HO118.out) hb); have n4_ := Xam (Kd.R_below (by (with_reducible repeat (first | apply Xra | apply Xrn | apply Xrd)); exact HO124.out) hb); have n5_ := Xam (Kd.R_below (by (with_reducible repeat (first | apply Xra | apply Xrn | apply Xrd)); exact HO134.out) hb); have n6_ := Xam (Kd.R_below (by (with_reducible repeat (first | apply Xra | apply Xrn | apply Xrd)); exact HO139.out) hb); have n7_ := Xam (Xbb (g := gb110) (o := .cells #[.int .i64 t104, .int .i64 t105, .slice Ao34 t106.length co34] 24 (0, 0)) (by (with_reducible repeat (first | refine Xkn ?_ _ | refine Xkd ?_ | refine Xka ?_ _)); exact BK110.out) hb); have n8_ := Xam (Xbb (g := gb120) (o := .cells #[.int .i64 t114, .int .i64 t115, .slice Ao41 t116.length co41] 24 (0, 0)) (by (with_reducible repeat (first | refine Xkn ?_ _ | refine Xkd ?_ | refine Xka ?_ _)); exact BK120.out) hb); have n9_ := Xam (Xbb (g := gb141) (o := .cells #[.int .i64 t135, .int .i64 t136, .slice Ao61 t137.length co61] 24 (0, 0)) (by (with_reducible repeat (first | refine Xkn ?_ _ | refine Xkd ?_ | refine Xka ?_ _)); exact BK141.out) hb); have n10_ := Xam (Xbt (by repeat (first | (with_reducible first | exact HB.out | apply Xba | apply Xbn | apply Xbd | refine Xbe ?_ GE110.out | refine Xbe ?_ GE120.out | refine Xbe ?_ GE141.out) | exact HB.out)) hb); clear HO103; clear HO108; clear HO113; clear HO118; clear HO124; clear HO134; clear HO139; clear BK110; clear BK120; clear BK141; clear HB; have HO103 := n0_; have HO108 := n1_; have HO113 := n2_; have HO118 := n3_; have HO124 := n4_; have HO134 := n5_; have HO139 := n6_; have BK110 := n7_; have BK120 := n8_; have BK141 := n9_; have HB := n10_; clear n0_ n1_ n2_ n3_ n4_ n5_ n6_ n7_ n8_ n9_ n10_; (try clear hb); (try clear hb2); (try clear hk); (try clear hi)))
                          go_ret
                          exact ⟨by first | rfl | (simp [errW_none, errW_some] <;> rfl) | (simp [*, errW_none, errW_some] <;> rfl), by repeat (first | (with_reducible first | exact HB.out | apply Xba | apply Xbn | apply Xbd | refine Xbe ?_ GE110.out | refine Xbe ?_ GE120.out | refine Xbe ?_ GE141.out) | exact HB.out)⟩
                        · rw [if_neg c28] at H
                          exact absurd H (by simp)
                  · replace c24 := Bool.eq_false_iff.mpr c24
                    subst c24
                    have H1 : (none) = some r := by rw [if_neg (show ¬ (false = true) by decide)] at H; exact H
                    clear H
                    have H := H1
                    clear H1
                    exact absurd H (by simp)
                · rw [if_neg c20] at H
                  exact absurd H (by simp)
            · replace c16 := Bool.eq_false_iff.mpr c16
              subst c16
              have H1 : (none) = some r := by rw [if_neg (show ¬ (false = true) by decide)] at H; exact H
              clear H
              have H := H1
              clear H1
              exact absurd H (by simp)
        · replace c12 := Bool.eq_false_iff.mpr c12
          subst c12
          have H1 : (none) = some r := by rw [if_neg (show ¬ (false = true) by decide)] at H; exact H
          clear H
          have H := H1
          clear H1
          exact absurd H (by simp)
    · replace c8 := Bool.eq_false_iff.mpr c8
      subst c8
      have H1 : (none) = some r := by rw [if_neg (show ¬ (false = true) by decide)] at H; exact H
      clear H
      have H := H1
      clear H1
      exact absurd H (by simp)

/-- THE ONE PURE STATEMENT of laws_FnExactDecodePiece. -/
def laws_FnExactDecodePiece.Pure : Prop := ∀ (l0 : List Int), (l0.length ≤ maxLen ∧ ∀ z144 ∈ l0, (Lit.int .u8 z144).wf = true) → ∃ k, laws_FnExactDecodePiece.f k l0 = some true

end Go.Proofs.Ytcdaiclfomekhaa.Q
