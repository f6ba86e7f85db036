-- written by a program of this session (qprint.py) over the kit's print.py
import Derived.Test.YtofkfagfdeohmaaQx0
import Derived.Test.YtofkfagfdeohmaaQxBMOJEM
import Derived.Test.YtofkfagfdeohmaaQxHANGBF
import Derived.Test.YtofkfagfdeohmaaQxLNCNHI
namespace Go.Proofs.Ytofkfagfdeohmaa.Q
open Go.RowKit Go.Proofs.YtofkfagfdeohmaaW.PrintWords Go.Proofs.YtofkfagfdeohmaaW.PrintLast Go.Proofs.YtofkfagfdeohmaaW.PrintMore Go.Proofs.YtofkfagfdeohmaaW.PrintWords Go.Proofs.YtofkfagfdeohmaaW.PrintWords.QPW
attribute [local go_sem] max2_int min2_int max_two min_two max_three min_three max_four min_four   -- for this text's walks alone
set_option linter.unusedVariables false
set_option linter.unusedSimpArgs false

/-! ### spec_DatabaseDigest: function 148 -/
def spec_DatabaseDigest.l0 : Nat → List Int → Int → List (List Int) → Option (Int)
  | 0, _, _, _ => none
  | k + 1, x3, x4, x102000 => if x4 < (x102000.length : Int) then (if 0 ≤ x4 then ((spec_BytesToInts.f k (rd_L1 x102000 x4)).bind fun t106 => (if x3.length + t106.length < 17592186044416 then (spec_DatabaseDigest.l0 k (x3 ++ t106) (wrap64 (x4 + 1)) x102000) else (none))) else (none)) else ((spec_Hash.f k x3).bind fun t112 => (some t112))
def spec_DatabaseDigest.f (k : Nat) (l0_0 : List (List Int)) : Option (Int) := spec_DatabaseDigest.l0 k (([(l0_0.length : Int)] : List Int)) 0 l0_0
theorem spec_DatabaseDigest.mono_l : ∀ k, (∀ y0 y1 y2, LeO (spec_DatabaseDigest.l0 k y0 y1 y2) (spec_DatabaseDigest.l0 (k + 1) y0 y1 y2))
  | 0 => fun _ _ _ r h => by simp [spec_DatabaseDigest.l0] at h
  | k + 1 => by
    have ih0 := spec_DatabaseDigest.mono_l k
    · intro y0 y1 y2
      unfold spec_DatabaseDigest.l0
      repeat' first
      | (with_reducible exact ih0 _ _ _)
      | (with_reducible exact spec_BytesToInts.mono _ _)
      | (with_reducible exact spec_Hash.mono _ _)
      | (with_reducible exact LeO.refl _)
      | (with_reducible exact LeO.none _)
      | (with_reducible refine LeO.ite ?_ ?_)
      | (with_reducible refine LeO.bind ?_ (fun _ => ?_))
      | exact ih0 _ _ _
      | exact spec_BytesToInts.mono _ _
      | exact spec_Hash.mono _ _
      | exact LeO.none _
      | refine LeO.ite ?_ ?_
      | refine LeO.bind ?_ (fun _ => ?_)
theorem spec_DatabaseDigest.mono : ∀ a0 k, LeO (spec_DatabaseDigest.f k a0) (spec_DatabaseDigest.f (k + 1) a0) := by
  intro a0 k
  have ih0 := spec_DatabaseDigest.mono_l k
  unfold spec_DatabaseDigest.f
  repeat' first
      | (with_reducible exact ih0 _ _ _)
      | (with_reducible exact spec_BytesToInts.mono _ _)
      | (with_reducible exact spec_Hash.mono _ _)
      | (with_reducible exact LeO.refl _)
      | (with_reducible exact LeO.none _)
      | (with_reducible refine LeO.ite ?_ ?_)
      | (with_reducible refine LeO.bind ?_ (fun _ => ?_))
      | exact ih0 _ _ _
      | exact spec_BytesToInts.mono _ _
      | exact spec_Hash.mono _ _
      | exact LeO.none _
      | refine LeO.ite ?_ ?_
      | refine LeO.bind ?_ (fun _ => ?_)
set_option maxHeartbeats 8000000 in
set_option maxRecDepth 100000 in
theorem spec_DatabaseDigest.calls (k : Nat) (A0_0 : Option Addr) (c0_0 : Nat) (l0_0 : List (List Int)) (r : Int) (w : World) (hr0_0 : Kd.C (Kd.slice 5 (Kd.int .u8)) w A0_0 l0_0.length l0_0) (hc0_0 : l0_0.length ≤ c0_0) (h : spec_DatabaseDigest.f k l0_0 = some r) :
    Calls Try.prog 148 #[.agg #[.slice A0_0 l0_0.length c0_0]] w fun e w' => e = .returned (.int .i64 r) ∧ Below w.heap.size w w' := by
  have hu31 := Try.underlying31
  have HR0_0 := Xam hr0_0
  have HC0_0 := Xam hc0_0
  clear hr0_0 hc0_0
  have HB := Xam (Below.refl w.heap.size w)
  have H : (spec_DatabaseDigest.l0 k (([(l0_0.length : Int)] : List Int)) 0 l0_0) = some r := h
  clear h
  obtain ⟨y102, hy102⟩ : ∃ y_ : List Int, y_ = (([(l0_0.length : Int)] : List Int)) := ⟨_, rfl⟩
  replace H : (spec_DatabaseDigest.l0 k y102 0 l0_0) = some r := by first | (rw [hy102]; with_reducible exact H) | (have H2_ := (Option.bind_some _ _).symm.trans H; rw [hy102]; with_reducible exact H2_) | (have H2_ := (Option.bind_some _ _).symm.trans H; with_reducible exact H2_) | with_reducible exact H | (rw [hy102]; exact H) | exact H
  have Ny102 := Xam hy102
  clear hy102
  have H' := Xam H
  clear H
  go_enter Try.func148, Try.ntmps148
  go_wp2_with (first | ((with_reducible refine gate_dst (N := 1) rfl ?_); refine box_event ?hg (N := 1) ?hd (cs := #[.slice A0_0 l0_0.length c0_0]) (t := 31) ?hr ?_; (case hd => rfl); (case hg => rfl); (case hr => first | (go_simp; done) | (go_simp; rfl)); intro gb101 hg w2 hbox hb; have n0_ := Xam (Xbt (by repeat (first | (with_reducible first | exact HB.out | apply Xba | apply Xbn | apply Xbd) | exact HB.out)) hb); have n1_ := Xam (hbox); have n2_ := Xam ((by rw [hg]; exact (Xbs (by repeat (first | (with_reducible first | exact HB.out | apply Xba | apply Xbn | apply Xbd) | exact HB.out))) : w.heap.size ≤ gb101)); have n3_ := Xam ((by rw [hg]; exact (Xbs (by repeat (first | (with_reducible first | exact HB.out | apply Xba | apply Xbn | apply Xbd) | exact HB.out))) : w.heap.size ≤ gb101)); clear HB; have HB := n0_; have BK101 := n1_; have GW101 := n2_; have GE101 := n3_; clear n0_ n1_ n2_ n3_; clear hb hbox hg; have hcz3_0 : w2.cell? ⟨gb101, 0, none⟩ = some (.slice A0_0 l0_0.length c0_0) := (Xbc BK101.out 0).trans rfl; have hfz3_0 := Xbf BK101.out 0) | ((with_reducible refine gate_dst (N := 8) rfl ?_); refine Kd.R_lit (Kd.int .i64) _ 3 ?hg (N := 8) ?hd (xs := ([(l0_0.length : Int)] : List Int)) (inner := [.int .i64 (l0_0.length : Int)]) (ok := fun _ => True) (okp := fun _ => True) ?hr ?hp (fun _ hk => hk) trivial (Below.refl _ _) (Nat.le_refl _) (by simp) ?_; (case hd => rfl); (case hg => rfl); (case hr => first | (go_simp; done) | (go_simp; rfl)); (case hp => exact (Reps.one (show Kd.M (Kd.int .i64) _ _ _ (l0_0.length : Int) [.int .i64 (l0_0.length : Int)] from rfl) (Reps.none _ _))); intro v103 w4 ho5 hb hg_ hnew_; clear hg_ hnew_; (first | rw [← Ny102.out] at ho5 | (simp only [Int.reduceToNat] at ho5; rw [← Ny102.out] at ho5)); have n0_ := Xam (Kd.R_lower ho5 (Xbs (by repeat (first | (with_reducible first | exact HB.out | apply Xba | apply Xbn | apply Xbd | refine Xbe ?_ GE101.out) | exact HB.out)))); have n1_ := Xam (Xbb (g := gb101) (o := .cells #[.slice A0_0 l0_0.length c0_0] 31 (0, 0)) (by (with_reducible repeat (first | refine Xkn ?_ _ | refine Xkd ?_ | refine Xka ?_ _)); exact BK101.out) hb); have n2_ := Xam (Xbt (by repeat (first | (with_reducible first | exact HB.out | apply Xba | apply Xbn | apply Xbd | refine Xbe ?_ GE101.out) | exact HB.out)) hb); clear BK101; clear HB; have HO104 := n0_; have BK101 := n1_; have HB := n2_; clear n0_ n1_ n2_; clear hb ho5))
  go_loopg [3, 4] k (fun kq v3 v4 w' => ∃ (x3_1 : List Int) (x4_1 : Int), v4 = .int .i64 x4_1 ∧ Aside0 (spec_DatabaseDigest.l0 kq x3_1 x4_1 l0_0 = some r) ∧ Aside0 (kq ≤ k) ∧ Aside0 (Kd.R (Kd.int .i64) 3 w' w.heap.size (fun _ => True) v3 x3_1) ∧ Aside0 (w'.heap[gb101]? = some (.cells #[(.slice A0_0 l0_0.length c0_0)] 31 (0, 0))) ∧ Aside0 (Below w.heap.size w w'))
  case atStart => exact ⟨(y102), (0), (by first | rfl | (simp; done) | (simp [*]; done)), H', ⟨Nat.le_refl _⟩, ⟨by (with_reducible repeat (first | apply Xra | apply Xrn | apply Xrd)); exact HO104.out⟩, ⟨by (with_reducible repeat (first | refine Xkn ?_ _ | refine Xkd ?_ | refine Xka ?_ _)); exact BK101.out⟩, ⟨by repeat (first | (with_reducible first | exact HB.out | apply Xba | apply Xbn | apply Xbd | refine Xbe ?_ GE101.out) | exact HB.out)⟩⟩
  case round =>
    clear H'
    try clear c1
    try clear p2
    try clear hcz3_0
    try clear hfz3_0
    obtain ⟨x3_1, x4_1, rfl, HA, HK1, HO_3, BK101, HB⟩ := hrel
    cases gk with
    | zero => exact absurd HA.out (by simp [spec_DatabaseDigest.l0])
    | succ k1 =>
      have H := HA.out
      clear HA
      simp only [spec_DatabaseDigest.l0] at H
      by_cases c6 : x4_1 < (l0_0.length : Int)
      · rw [if_pos c6] at H
        have c6b0 : decide (x4_1 < (l0_0.length : Int)) = true := decide_eq_true c6
        clear c6
        by_cases c7 : 0 ≤ x4_1
        · rw [if_pos c7] at H
          have c7b0 : decide (0 ≤ x4_1) = true := decide_eq_true c7
          clear c7
          replace H := Option.bind_eq_some_iff.mp H
          obtain ⟨t106, A80, H⟩ := H
          replace H : (if x3_1.length + t106.length < 17592186044416 then (spec_DatabaseDigest.l0 k1 (x3_1 ++ t106) (wrap64 (x4_1 + 1)) l0_0) else (none)) = some r := H
          have A8 := Xam A80
          clear A80
          by_cases c9 : x3_1.length + t106.length < 17592186044416
          · rw [if_pos c9] at H
            have LMc9 := Xam c9
            clear c9
            obtain ⟨y109, hy109⟩ : ∃ y_ : List Int, y_ = (x3_1 ++ t106) := ⟨_, rfl⟩
            replace H : (spec_DatabaseDigest.l0 k1 y109 (wrap64 (x4_1 + 1)) l0_0) = some r := by first | (rw [hy109]; with_reducible exact H) | (have H2_ := (Option.bind_some _ _).symm.trans H; rw [hy109]; with_reducible exact H2_) | (have H2_ := (Option.bind_some _ _).symm.trans H; with_reducible exact H2_) | with_reducible exact H | (rw [hy109]; exact H) | exact H
            have Ny109 := Xam hy109
            clear hy109
            have H' := Xam H
            clear H
            have hcz10_0 : wr.cell? ⟨gb101, 0, none⟩ = some (.slice A0_0 l0_0.length c0_0) := (Xbc BK101.out 0).trans rfl
            have hfz10_0 := Xbf BK101.out 0
            have p105 : 0 ≤ (x4_1 : Int) := of_decide_eq_true (by first | (with_reducible assumption) | assumption)
            have q105 : x4_1 < (l0_0.length : Int) := of_decide_eq_true (by first | (with_reducible assumption) | assumption)
            obtain ⟨ad105, A105_0, c105_0, e105, hx105_0, hl105_0, hi105_0⟩ := at_L1 HR0_0.out x4_1 p105 q105
            cases e105
            replace hx105_0 := (HB.out.cell (World.block_lt_of_cell? w _ hx105_0)).trans hx105_0
            have HR105_0 := Xam hi105_0
            have HC105_0 := Xam hl105_0
            clear hi105_0 hl105_0
            replace p105 := eq_true p105
            replace q105 := eq_true q105
            go_wp2_with (first | ((with_reducible refine gate_callee (f := 93) rfl ?_); refine goesL_ (some 22) rfl rfl Try.func93 (by kernel_rfl) rfl #[.slice A105_0 (rd_L1 l0_0 x4_1).length c105_0] rfl (by (try simp only [List.map_toArray, List.map_cons, List.map_nil]); first | done | rfl | (simp only [List.length_drop, List.length_take]; rfl)) ?_; (with_reducible refine (spec_BytesToInts.calls k1 _ _ (rd_L1 l0_0 x4_1) t106 _ ?side1 ?side2 A8.out).mono ?_); (case side1 => repeat (first | exact (Kd.C_below HR105_0.out HB.out) | (with_reducible refine Xca ?_ _) | (with_reducible refine Xcn ?_ _) | (with_reducible refine Xcd ?_))); (case side2 => exact HC105_0.out); rintro e w11 ⟨v107, rfl, ho0, hb⟩; refine ⟨_, rfl, ?_⟩; have n0_ := Xam (Kd.R_elder' (by (with_reducible repeat (first | apply Xra | apply Xrn | apply Xrd)); exact HO_3.out) (Kd.R_base ho0) hb); have n1_ := Xam (Kd.R_lower (Kd.R_new' ho0 (Kd.R_lt (by (with_reducible repeat (first | apply Xra | apply Xrn | apply Xrd)); exact HO_3.out))) (Xbs (by repeat (first | (with_reducible first | exact HB.out | apply Xba | apply Xbn | apply Xbd | refine Xbe ?_ GE101.out) | exact HB.out)))); have n2_ := Xam (Xbb (g := gb101) (o := .cells #[.slice (some ad105) l0_0.length c0_0] 31 (0, 0)) (by (with_reducible repeat (first | refine Xkn ?_ _ | refine Xkd ?_ | refine Xka ?_ _)); exact BK101.out) hb); have n3_ := Xam (Xbt (by repeat (first | (with_reducible first | exact HB.out | apply Xba | apply Xbn | apply Xbd | refine Xbe ?_ GE101.out) | exact HB.out)) hb); clear HO_3; clear BK101; clear HB; have HO_3 := n0_; have HO108 := n1_; have BK101 := n2_; have HB := n3_; clear n0_ n1_ n2_ n3_; (try clear hb); (try clear hb2); (try clear hk); (try clear hi); (try clear ho0); obtain ⟨Ao13, co13, eo13⟩ := Kd.R_slice HO108.out; subst eo13) | ((with_reducible refine gate_builtin (b := .append) (xs := #[.tmp 16, .tmp 22]) rfl ?_); at_builtin; refine Kd.R_append_rows (Kd.int .i64) (w0 := w) w.heap.size rfl (.tmp 16) (.tmp 22) 35 3 (.int .i64 0) 8 rfl Try.underlying35 info3 rfl (by decide) (by omega) u3 x3_1 t106 _ _ _ (fun k_ => some k_ ≠ (.slice Ao13 t106.length co13 : Value).ownBlock) (fun _ => False) rfl rfl ?aO ?aR (fun _ _ h => h) (fun _ h => h.elim) ?aF ?aB ?aS ?aL ?_; (case aR => repeat (first | exact (Kd.R_reads' HO108.out).2.2 | (with_reducible refine Xca ?_ _) | (with_reducible refine Xcn ?_ _) | (with_reducible refine Xcd ?_))); (case aB => exact (by repeat (first | (with_reducible first | exact HB.out | apply Xba | apply Xbn | apply Xbd | refine Xbe ?_ GE101.out) | exact HB.out))); (case aF => exact (fun k_ hk => Kd.fresh' (Kd.R_lt (by (with_reducible repeat (first | apply Xra | apply Xrn | apply Xrd)); exact HO108.out)) k_ hk)); (case aO => exact (by (with_reducible repeat (first | apply Xra | apply Xrn | apply Xrd)); exact Kd.R_mono HO_3.out (fun _ hk => hk.2))); (case aS => exact (Xbs (by repeat (first | (with_reducible first | exact HB.out | apply Xba | apply Xbn | apply Xbd | refine Xbe ?_ GE101.out) | exact HB.out)))); (case aL => have := LMc9.out; omega); intro v110 w12 ho hb hg hat; rw [← Ny109.out] at ho; have n0_ := Xam (blk_grown (g := gb101) (o := .cells #[.slice (some ad105) l0_0.length c0_0] 31 (0, 0)) (by (with_reducible repeat (first | refine Xkn ?_ _ | refine Xkd ?_ | refine Xka ?_ _)); exact BK101.out) hg (Kd.R_ne HO_3.out BK101.out (by decide))); have n1_ := Xam (Kd.R_after (ok := (fun _ => True)) (by (with_reducible repeat (first | apply Xra | apply Xrn | apply Xrd)); exact HO108.out) hg hat); have n2_ := Xam (hb); have n3_ := Xam (ho); clear BK101; clear HO108; clear HB; clear HO_3; have BK101 := n0_; have HO108 := n1_; have HB := n2_; have HO111 := n3_; clear n0_ n1_ n2_ n3_; clear ho hb hg hat))
            go_roundg k1
            case measure => have := HK1.out; omega
            case rel => exact ⟨(y109), (wrap64 (x4_1 + 1)), (by first | rfl | (simp; done) | (simp [*]; done)), H', ⟨by have := HK1.out; omega⟩, ⟨by (with_reducible repeat (first | apply Xra | apply Xrn | apply Xrd)); exact Kd.R_mono HO111.out (fun _ hk => trivial)⟩, ⟨by (with_reducible repeat (first | refine Xkn ?_ _ | refine Xkd ?_ | refine Xka ?_ _)); exact BK101.out⟩, ⟨by repeat (first | (with_reducible first | exact HB.out | apply Xba | apply Xbn | apply Xbd | refine Xbe ?_ GE101.out) | exact HB.out)⟩⟩
          · rw [if_neg c9] at H
            exact absurd H (by simp)
        · rw [if_neg c7] at H
          exact absurd H (by simp)
      · rw [if_neg c6] at H
        have c6b0 : decide (x4_1 < (l0_0.length : Int)) = false := decide_eq_false c6
        clear c6
        replace H := Option.bind_eq_some_iff.mp H
        obtain ⟨t112, A140, H⟩ := H
        replace H : (some t112) = some r := H
        have A14 := Xam A140
        clear A140
        obtain rfl := Option.some.inj H
        have hcz15_0 : wr.cell? ⟨gb101, 0, none⟩ = some (.slice A0_0 l0_0.length c0_0) := (Xbc BK101.out 0).trans rfl
        have hfz15_0 := Xbf BK101.out 0
        obtain ⟨Ao16, co16, eo16⟩ := Kd.R_slice HO_3.out
        subst eo16
        go_wp2_with (first | ((with_reducible refine gate_callee (f := 147) rfl ?_); refine goesL_ (some 25) rfl rfl Try.func147 (by kernel_rfl) rfl #[.slice Ao16 x3_1.length co16] rfl (by (try simp only [List.map_toArray, List.map_cons, List.map_nil]); first | done | rfl | (simp only [List.length_drop, List.length_take]; rfl)) ?_; (with_reducible refine (spec_Hash.calls k1 _ _ x3_1 t112 _ ?side1 ?side2 A14.out).mono ?_); (case side1 => repeat (first | exact (Kd.R_reads' HO_3.out).2.2 | (with_reducible refine Xca ?_ _) | (with_reducible refine Xcn ?_ _) | (with_reducible refine Xcd ?_))); (case side2 => exact (Kd.R_reads' HO_3.out).2.1); rintro e w' ⟨rfl, ⟨nd, rfl⟩⟩; refine ⟨_, rfl, ?_⟩))
        go_ret
        exact ⟨by first | rfl | (simp [errW_none, errW_some] <;> rfl) | (simp [*, errW_none, errW_some] <;> rfl), by repeat (first | (with_reducible first | exact HB.out | apply Xba | apply Xbn | apply Xbd | refine Xbe ?_ GE101.out) | exact HB.out)⟩

/-! ### spec_ShareDigest: function 76 -/
def spec_ShareDigest.f (k : Nat) (a0 : Int) (a1 : Int) (l2_0 : List (List Int)) : Option (Int) := (spec_DatabaseDigest.f k l2_0).bind fun t102 => ((spec_Hash.f k (([179, a0, a1, t102] : List Int))).bind fun t106 => (some t106))
theorem spec_ShareDigest.mono : ∀ a0 a1 a2 k, LeO (spec_ShareDigest.f k a0 a1 a2) (spec_ShareDigest.f (k + 1) a0 a1 a2) := by
  intro a0 a1 a2 k
  unfold spec_ShareDigest.f
  repeat' first
      | (with_reducible exact spec_DatabaseDigest.mono _ _)
      | (with_reducible exact spec_Hash.mono _ _)
      | (with_reducible exact LeO.refl _)
      | (with_reducible exact LeO.none _)
      | (with_reducible refine LeO.ite ?_ ?_)
      | (with_reducible refine LeO.bind ?_ (fun _ => ?_))
      | exact spec_DatabaseDigest.mono _ _
      | exact spec_Hash.mono _ _
      | exact LeO.none _
      | refine LeO.ite ?_ ?_
      | refine LeO.bind ?_ (fun _ => ?_)
set_option maxHeartbeats 8000000 in
set_option maxRecDepth 100000 in
theorem spec_ShareDigest.calls (k : Nat) (a0 : Int) (a1 : Int) (A2_0 : Option Addr) (c2_0 : Nat) (l2_0 : List (List Int)) (r : Int) (w : World) (hr2_0 : Kd.C (Kd.slice 5 (Kd.int .u8)) w A2_0 l2_0.length l2_0) (hc2_0 : l2_0.length ≤ c2_0) (h : spec_ShareDigest.f k a0 a1 l2_0 = some r) :
    Calls Try.prog 76 #[.int .i64 a0, .int .i64 a1, .agg #[.slice A2_0 l2_0.length c2_0]] w fun e w' => e = .returned (.int .i64 r) ∧ Below w.heap.size w w' := by
  have hu31 := Try.underlying31
  have HR2_0 := Xam hr2_0
  have HC2_0 := Xam hc2_0
  clear hr2_0 hc2_0
  have HB := Xam (Below.refl w.heap.size w)
  have H : ((spec_DatabaseDigest.f k l2_0).bind fun t102 => ((spec_Hash.f k (([179, a0, a1, t102] : List Int))).bind fun t106 => (some t106))) = some r := h
  clear h
  replace H := Option.bind_eq_some_iff.mp H
  obtain ⟨t102, A40, H⟩ := H
  replace H : ((spec_Hash.f k (([179, a0, a1, t102] : List Int))).bind fun t106 => (some t106)) = some r := H
  have A4 := Xam A40
  clear A40
  obtain ⟨y103, hy103⟩ : ∃ y_ : List Int, y_ = (([179, a0, a1, t102] : List Int)) := ⟨_, rfl⟩
  replace H : ((spec_Hash.f k y103).bind fun t106 => (some t106)) = some r := by first | (rw [hy103]; with_reducible exact H) | (have H2_ := (Option.bind_some _ _).symm.trans H; rw [hy103]; with_reducible exact H2_) | (have H2_ := (Option.bind_some _ _).symm.trans H; with_reducible exact H2_) | with_reducible exact H | (rw [hy103]; exact H) | exact H
  have Ny103 := Xam hy103
  clear hy103
  replace H := Option.bind_eq_some_iff.mp H
  obtain ⟨t106, A50, H⟩ := H
  replace H : (some t106) = some r := H
  have A5 := Xam A50
  clear A50
  obtain rfl := Option.some.inj H
  go_enter Try.func76, Try.ntmps76
  go_wp2_with (first | ((with_reducible refine gate_dst (N := 5) rfl ?_); refine box_event ?hg (N := 5) ?hd (cs := #[.slice A2_0 l2_0.length c2_0]) (t := 31) ?hr ?_; (case hd => rfl); (case hg => rfl); (case hr => first | (go_simp; done) | (go_simp; rfl)); intro gb101 hg w6 hbox hb; have n0_ := Xam (Xbt (by repeat (first | (with_reducible first | exact HB.out | apply Xba | apply Xbn | apply Xbd) | exact HB.out)) hb); have n1_ := Xam (hbox); have n2_ := Xam ((by rw [hg]; exact (Xbs (by repeat (first | (with_reducible first | exact HB.out | apply Xba | apply Xbn | apply Xbd) | exact HB.out))) : w.heap.size ≤ gb101)); have n3_ := Xam ((by rw [hg]; exact (Xbs (by repeat (first | (with_reducible first | exact HB.out | apply Xba | apply Xbn | apply Xbd) | exact HB.out))) : w.heap.size ≤ gb101)); clear HB; have HB := n0_; have BK101 := n1_; have GW101 := n2_; have GE101 := n3_; clear n0_ n1_ n2_ n3_; clear hb hbox hg; have hcz7_0 : w6.cell? ⟨gb101, 0, none⟩ = some (.slice A2_0 l2_0.length c2_0) := (Xbc BK101.out 0).trans rfl; have hfz7_0 := Xbf BK101.out 0) | ((with_reducible refine gate_callee (f := 148) rfl ?_); refine goesL_ (some 10) rfl rfl Try.func148 (by kernel_rfl) rfl #[.agg #[.slice A2_0 l2_0.length c2_0]] rfl (by (try simp only [List.map_toArray, List.map_cons, List.map_nil]); first | done | rfl | (simp only [List.length_drop, List.length_take]; rfl)) ?_; (with_reducible refine (spec_DatabaseDigest.calls k _ _ l2_0 t102 _ ?side1 ?side2 A4.out).mono ?_); (case side1 => repeat (first | exact (Kd.C_below HR2_0.out HB.out) | (with_reducible refine Xca ?_ _) | (with_reducible refine Xcn ?_ _) | (with_reducible refine Xcd ?_))); (case side2 => exact HC2_0.out); rintro e w8 ⟨rfl, hb⟩; refine ⟨_, rfl, ?_⟩; have n0_ := Xam (Xbb (g := gb101) (o := .cells #[.slice A2_0 l2_0.length c2_0] 31 (0, 0)) (by (with_reducible repeat (first | refine Xkn ?_ _ | refine Xkd ?_ | refine Xka ?_ _)); exact BK101.out) hb); have n1_ := Xam (Xbt (by repeat (first | (with_reducible first | exact HB.out | apply Xba | apply Xbn | apply Xbd | refine Xbe ?_ GE101.out) | exact HB.out)) hb); clear BK101; clear HB; have BK101 := n0_; have HB := n1_; clear n0_ n1_; (try clear hb); (try clear hb2); (try clear hk); (try clear hi)) | ((with_reducible refine gate_dst (N := 11) rfl ?_); refine Kd.R_lit (Kd.int .i64) _ 3 ?hg (N := 11) ?hd (xs := ([179, a0, a1, t102] : List Int)) (inner := [.int .i64 179, .int .i64 a0, .int .i64 a1, .int .i64 t102]) (ok := fun _ => True) (okp := fun _ => True) ?hr ?hp (fun _ hk => hk) trivial (Below.refl _ _) (Nat.le_refl _) (by simp) ?_; (case hd => rfl); (case hg => rfl); (case hr => first | (go_simp; done) | (go_simp; rfl)); (case hp => exact (Reps.one (show Kd.M (Kd.int .i64) _ _ _ 179 [.int .i64 179] from rfl) (Reps.one (show Kd.M (Kd.int .i64) _ _ _ a0 [.int .i64 a0] from rfl) (Reps.one (show Kd.M (Kd.int .i64) _ _ _ a1 [.int .i64 a1] from rfl) (Reps.one (show Kd.M (Kd.int .i64) _ _ _ t102 [.int .i64 t102] from rfl) (Reps.none _ _)))))); intro v104 w9 ho10 hb hg_ hnew_; clear hg_ hnew_; (first | rw [← Ny103.out] at ho10 | (simp only [Int.reduceToNat] at ho10; rw [← Ny103.out] at ho10)); have n0_ := Xam (Kd.R_lower ho10 (Xbs (by repeat (first | (with_reducible first | exact HB.out | apply Xba | apply Xbn | apply Xbd | refine Xbe ?_ GE101.out) | exact HB.out)))); have n1_ := Xam (Xbb (g := gb101) (o := .cells #[.slice A2_0 l2_0.length c2_0] 31 (0, 0)) (by (with_reducible repeat (first | refine Xkn ?_ _ | refine Xkd ?_ | refine Xka ?_ _)); exact BK101.out) hb); have n2_ := Xam (Xbt (by repeat (first | (with_reducible first | exact HB.out | apply Xba | apply Xbn | apply Xbd | refine Xbe ?_ GE101.out) | exact HB.out)) hb); clear BK101; clear HB; have HO105 := n0_; have BK101 := n1_; have HB := n2_; clear n0_ n1_ n2_; clear hb ho10; obtain ⟨Ao11, co11, eo11⟩ := Kd.R_slice HO105.out; subst eo11) | ((with_reducible refine gate_callee (f := 147) rfl ?_); refine goesL_ (some 12) rfl rfl Try.func147 (by kernel_rfl) rfl #[.slice Ao11 y103.length co11] rfl (by (try simp only [List.map_toArray, List.map_cons, List.map_nil]); first | done | rfl | (simp only [List.length_drop, List.length_take]; rfl)) ?_; (with_reducible refine (spec_Hash.calls k _ _ y103 t106 _ ?side1 ?side2 A5.out).mono ?_); (case side1 => repeat (first | exact (Kd.R_reads' HO105.out).2.2 | (with_reducible refine Xca ?_ _) | (with_reducible refine Xcn ?_ _) | (with_reducible refine Xcd ?_))); (case side2 => exact (Kd.R_reads' HO105.out).2.1); rintro e w' ⟨rfl, ⟨nd, rfl⟩⟩; refine ⟨_, rfl, ?_⟩))
  go_ret
  exact ⟨by first | rfl | (simp [errW_none, errW_some] <;> rfl) | (simp [*, errW_none, errW_some] <;> rfl), by repeat (first | (with_reducible first | exact HB.out | apply Xba | apply Xbn | apply Xbd | refine Xbe ?_ GE101.out) | exact HB.out)⟩

/-! ### impl_DatabaseDigest: function 150 -/
def impl_DatabaseDigest.l0 : Nat → List Int → List (List Int) → Int → Int → Option (Int)
  | 0, _, _, _, _ => none
  | k + 1, x3, x11, x12, x13 => if x13 < x12 then (if 0 ≤ x13 then (if x13 < (x11.length : Int) then ((impl_BytesToInts.f k (rd_L1 x11 x13)).bind fun t106 => (if x3.length + t106.length < 17592186044416 then (impl_DatabaseDigest.l0 k (x3 ++ t106) x11 x12 (wrap64 (x13 + 1))) else (none))) else (none)) else (none)) else ((impl_Hash.f k x3).bind fun t112 => (some t112))
def impl_DatabaseDigest.f (k : Nat) (l0_0 : List (List Int)) : Option (Int) := impl_DatabaseDigest.l0 k (([(l0_0.length : Int)] : List Int)) l0_0 (l0_0.length : Int) 0
theorem impl_DatabaseDigest.mono_l : ∀ k, (∀ y0 y1 y2 y3, LeO (impl_DatabaseDigest.l0 k y0 y1 y2 y3) (impl_DatabaseDigest.l0 (k + 1) y0 y1 y2 y3))
  | 0 => fun _ _ _ _ r h => by simp [impl_DatabaseDigest.l0] at h
  | k + 1 => by
    have ih0 := impl_DatabaseDigest.mono_l k
    · intro y0 y1 y2 y3
      unfold impl_DatabaseDigest.l0
      repeat' first
      | (with_reducible exact ih0 _ _ _ _)
      | (with_reducible exact impl_BytesToInts.mono _ _)
      | (with_reducible exact impl_Hash.mono _ _)
      | (with_reducible exact LeO.refl _)
      | (with_reducible exact LeO.none _)
      | (with_reducible refine LeO.ite ?_ ?_)
      | (with_reducible refine LeO.bind ?_ (fun _ => ?_))
      | exact ih0 _ _ _ _
      | exact impl_BytesToInts.mono _ _
      | exact impl_Hash.mono _ _
      | exact LeO.none _
      | refine LeO.ite ?_ ?_
      | refine LeO.bind ?_ (fun _ => ?_)
theorem impl_DatabaseDigest.mono : ∀ a0 k, LeO (impl_DatabaseDigest.f k a0) (impl_DatabaseDigest.f (k + 1) a0) := by
  intro a0 k
  have ih0 := impl_DatabaseDigest.mono_l k
  unfold impl_DatabaseDigest.f
  repeat' first
      | (with_reducible exact ih0 _ _ _ _)
      | (with_reducible exact impl_BytesToInts.mono _ _)
      | (with_reducible exact impl_Hash.mono _ _)
      | (with_reducible exact LeO.refl _)
      | (with_reducible exact LeO.none _)
      | (with_reducible refine LeO.ite ?_ ?_)
      | (with_reducible refine LeO.bind ?_ (fun _ => ?_))
      | exact ih0 _ _ _ _
      | exact impl_BytesToInts.mono _ _
      | exact impl_Hash.mono _ _
      | exact LeO.none _
      | refine LeO.ite ?_ ?_
      | refine LeO.bind ?_ (fun _ => ?_)
set_option maxHeartbeats 8000000 in
set_option maxRecDepth 100000 in
theorem impl_DatabaseDigest.calls (k : Nat) (A0_0 : Option Addr) (c0_0 : Nat) (l0_0 : List (List Int)) (r : Int) (w : World) (hr0_0 : Kd.C (Kd.slice 5 (Kd.int .u8)) w A0_0 l0_0.length l0_0) (hc0_0 : l0_0.length ≤ c0_0) (h : impl_DatabaseDigest.f k l0_0 = some r) :
    Calls Try.prog 150 #[.agg #[.slice A0_0 l0_0.length c0_0]] w fun e w' => e = .returned (.int .i64 r) ∧ Below w.heap.size w w' := by
  have hu31 := Try.underlying31
  have HR0_0 := Xam hr0_0
  have HC0_0 := Xam hc0_0
  clear hr0_0 hc0_0
  have HB := Xam (Below.refl w.heap.size w)
  have H : (impl_DatabaseDigest.l0 k (([(l0_0.length : Int)] : List Int)) l0_0 (l0_0.length : Int) 0) = some r := h
  clear h
  obtain ⟨y102, hy102⟩ : ∃ y_ : List Int, y_ = (([(l0_0.length : Int)] : List Int)) := ⟨_, rfl⟩
  replace H : (impl_DatabaseDigest.l0 k y102 l0_0 (l0_0.length : Int) 0) = some r := by first | (rw [hy102]; with_reducible exact H) | (have H2_ := (Option.bind_some _ _).symm.trans H; rw [hy102]; with_reducible exact H2_) | (have H2_ := (Option.bind_some _ _).symm.trans H; with_reducible exact H2_) | with_reducible exact H | (rw [hy102]; exact H) | exact H
  have Ny102 := Xam hy102
  clear hy102
  have H' := Xam H
  clear H
  go_enter Try.func150, Try.ntmps150
  go_wp2_with (first | ((with_reducible refine gate_dst (N := 1) rfl ?_); refine box_event ?hg (N := 1) ?hd (cs := #[.slice A0_0 l0_0.length c0_0]) (t := 31) ?hr ?_; (case hd => rfl); (case hg => rfl); (case hr => first | (go_simp; done) | (go_simp; rfl)); intro gb101 hg w2 hbox hb; have n0_ := Xam (Xbt (by repeat (first | (with_reducible first | exact HB.out | apply Xba | apply Xbn | apply Xbd) | exact HB.out)) hb); have n1_ := Xam (hbox); have n2_ := Xam ((by rw [hg]; exact (Xbs (by repeat (first | (with_reducible first | exact HB.out | apply Xba | apply Xbn | apply Xbd) | exact HB.out))) : w.heap.size ≤ gb101)); have n3_ := Xam ((by rw [hg]; exact (Xbs (by repeat (first | (with_reducible first | exact HB.out | apply Xba | apply Xbn | apply Xbd) | exact HB.out))) : w.heap.size ≤ gb101)); clear HB; have HB := n0_; have BK101 := n1_; have GW101 := n2_; have GE101 := n3_; clear n0_ n1_ n2_ n3_; clear hb hbox hg; have hcz3_0 : w2.cell? ⟨gb101, 0, none⟩ = some (.slice A0_0 l0_0.length c0_0) := (Xbc BK101.out 0).trans rfl; have hfz3_0 := Xbf BK101.out 0) | ((with_reducible refine gate_dst (N := 9) rfl ?_); refine Kd.R_lit (Kd.int .i64) _ 3 ?hg (N := 9) ?hd (xs := ([(l0_0.length : Int)] : List Int)) (inner := [.int .i64 (l0_0.length : Int)]) (ok := fun _ => True) (okp := fun _ => True) ?hr ?hp (fun _ hk => hk) trivial (Below.refl _ _) (Nat.le_refl _) (by simp) ?_; (case hd => rfl); (case hg => rfl); (case hr => first | (go_simp; done) | (go_simp; rfl)); (case hp => exact (Reps.one (show Kd.M (Kd.int .i64) _ _ _ (l0_0.length : Int) [.int .i64 (l0_0.length : Int)] from rfl) (Reps.none _ _))); intro v103 w4 ho5 hb hg_ hnew_; clear hg_ hnew_; (first | rw [← Ny102.out] at ho5 | (simp only [Int.reduceToNat] at ho5; rw [← Ny102.out] at ho5)); have n0_ := Xam (Kd.R_lower ho5 (Xbs (by repeat (first | (with_reducible first | exact HB.out | apply Xba | apply Xbn | apply Xbd | refine Xbe ?_ GE101.out) | exact HB.out)))); have n1_ := Xam (Xbb (g := gb101) (o := .cells #[.slice A0_0 l0_0.length c0_0] 31 (0, 0)) (by (with_reducible repeat (first | refine Xkn ?_ _ | refine Xkd ?_ | refine Xka ?_ _)); exact BK101.out) hb); have n2_ := Xam (Xbt (by repeat (first | (with_reducible first | exact HB.out | apply Xba | apply Xbn | apply Xbd | refine Xbe ?_ GE101.out) | exact HB.out)) hb); clear BK101; clear HB; have HO104 := n0_; have BK101 := n1_; have HB := n2_; clear n0_ n1_ n2_; clear hb ho5; have hcz6_0 : w4.cell? ⟨gb101, 0, none⟩ = some (.slice A0_0 l0_0.length c0_0) := (Xbc BK101.out 0).trans rfl; have hfz6_0 := Xbf BK101.out 0))
  go_loopg [3, 13] k (fun kq v3 v13 w' => ∃ (x3_1 : List Int) (x13_1 : Int), v13 = .int .i64 x13_1 ∧ Aside0 (impl_DatabaseDigest.l0 kq x3_1 l0_0 (l0_0.length : Int) x13_1 = some r) ∧ Aside0 (kq ≤ k) ∧ Aside0 (Kd.R (Kd.int .i64) 3 w' w.heap.size (fun _ => True) v3 x3_1) ∧ Aside0 (w'.heap[gb101]? = some (.cells #[(.slice A0_0 l0_0.length c0_0)] 31 (0, 0))) ∧ Aside0 (Below w.heap.size w w'))
  case atStart => exact ⟨(y102), (0), (by first | rfl | (simp; done) | (simp [*]; done)), H', ⟨Nat.le_refl _⟩, ⟨by (with_reducible repeat (first | apply Xra | apply Xrn | apply Xrd)); exact HO104.out⟩, ⟨by (with_reducible repeat (first | refine Xkn ?_ _ | refine Xkd ?_ | refine Xka ?_ _)); exact BK101.out⟩, ⟨by repeat (first | (with_reducible first | exact HB.out | apply Xba | apply Xbn | apply Xbd | refine Xbe ?_ GE101.out) | exact HB.out)⟩⟩
  case round =>
    clear H'
    try clear c1
    try clear p2
    try clear hcz3_0
    try clear hcz6_0
    try clear hfz3_0
    try clear hfz6_0
    obtain ⟨x3_1, x13_1, rfl, HA, HK1, HO_3, BK101, HB⟩ := hrel
    cases gk with
    | zero => exact absurd HA.out (by simp [impl_DatabaseDigest.l0])
    | succ k1 =>
      have H := HA.out
      clear HA
      simp only [impl_DatabaseDigest.l0] at H
      by_cases c7 : x13_1 < (l0_0.length : Int)
      · rw [if_pos c7] at H
        have c7b0 : decide (x13_1 < (l0_0.length : Int)) = true := decide_eq_true c7
        clear c7
        by_cases c8 : 0 ≤ x13_1
        · rw [if_pos c8] at H
          have c8b0 : decide (0 ≤ x13_1) = true := decide_eq_true c8
          clear c8
          by_cases c9 : x13_1 < (l0_0.length : Int)
          · rw [if_pos c9] at H
            have c9b0 : decide (x13_1 < (l0_0.length : Int)) = true := decide_eq_true c9
            clear c9
            replace H := Option.bind_eq_some_iff.mp H
            obtain ⟨t106, A100, H⟩ := H
            replace H : (if x3_1.length + t106.length < 17592186044416 then (impl_DatabaseDigest.l0 k1 (x3_1 ++ t106) l0_0 (l0_0.length : Int) (wrap64 (x13_1 + 1))) else (none)) = some r := H
            have A10 := Xam A100
            clear A100
            by_cases c11 : x3_1.length + t106.length < 17592186044416
            · rw [if_pos c11] at H
              have LMc11 := Xam c11
              clear c11
              obtain ⟨y109, hy109⟩ : ∃ y_ : List Int, y_ = (x3_1 ++ t106) := ⟨_, rfl⟩
              replace H : (impl_DatabaseDigest.l0 k1 y109 l0_0 (l0_0.length : Int) (wrap64 (x13_1 + 1))) = some r := by first | (rw [hy109]; with_reducible exact H) | (have H2_ := (Option.bind_some _ _).symm.trans H; rw [hy109]; with_reducible exact H2_) | (have H2_ := (Option.bind_some _ _).symm.trans H; with_reducible exact H2_) | with_reducible exact H | (rw [hy109]; exact H) | exact H
              have Ny109 := Xam hy109
              clear hy109
              have H' := Xam H
              clear H
              have p105 : 0 ≤ (x13_1 : Int) := of_decide_eq_true (by first | (with_reducible assumption) | assumption)
              have q105 : x13_1 < (l0_0.length : Int) := of_decide_eq_true (by first | (with_reducible assumption) | assumption)
              obtain ⟨ad105, A105_0, c105_0, e105, hx105_0, hl105_0, hi105_0⟩ := at_L1 HR0_0.out x13_1 p105 q105
              cases e105
              replace hx105_0 := (HB.out.cell (World.block_lt_of_cell? w _ hx105_0)).trans hx105_0
              have HR105_0 := Xam hi105_0
              have HC105_0 := Xam hl105_0
              clear hi105_0 hl105_0
              replace p105 := eq_true p105
              replace q105 := eq_true q105
              go_wp2_with (first | ((with_reducible refine gate_callee (f := 96) rfl ?_); refine goesL_ (some 19) rfl rfl Try.func96 (by kernel_rfl) rfl #[.slice A105_0 (rd_L1 l0_0 x13_1).length c105_0] rfl (by (try simp only [List.map_toArray, List.map_cons, List.map_nil]); first | done | rfl | (simp only [List.length_drop, List.length_take]; rfl)) ?_; (with_reducible refine (impl_BytesToInts.calls k1 _ _ (rd_L1 l0_0 x13_1) t106 _ ?side1 ?side2 A10.out).mono ?_); (case side1 => repeat (first | exact (Kd.C_below HR105_0.out HB.out) | (with_reducible refine Xca ?_ _) | (with_reducible refine Xcn ?_ _) | (with_reducible refine Xcd ?_))); (case side2 => exact HC105_0.out); rintro e w12 ⟨v107, rfl, ho0, hb⟩; refine ⟨_, rfl, ?_⟩; have n0_ := Xam (Kd.R_elder' (by (with_reducible repeat (first | apply Xra | apply Xrn | apply Xrd)); exact HO_3.out) (Kd.R_base ho0) hb); have n1_ := Xam (Kd.R_lower (Kd.R_new' ho0 (Kd.R_lt (by (with_reducible repeat (first | apply Xra | apply Xrn | apply Xrd)); exact HO_3.out))) (Xbs (by repeat (first | (with_reducible first | exact HB.out | apply Xba | apply Xbn | apply Xbd | refine Xbe ?_ GE101.out) | exact HB.out)))); have n2_ := Xam (Xbb (g := gb101) (o := .cells #[.slice (some ad105) l0_0.length c0_0] 31 (0, 0)) (by (with_reducible repeat (first | refine Xkn ?_ _ | refine Xkd ?_ | refine Xka ?_ _)); exact BK101.out) hb); have n3_ := Xam (Xbt (by repeat (first | (with_reducible first | exact HB.out | apply Xba | apply Xbn | apply Xbd | refine Xbe ?_ GE101.out) | exact HB.out)) hb); clear HO_3; clear BK101; clear HB; have HO_3 := n0_; have HO108 := n1_; have BK101 := n2_; have HB := n3_; clear n0_ n1_ n2_ n3_; (try clear hb); (try clear hb2); (try clear hk); (try clear hi); (try clear ho0); obtain ⟨Ao14, co14, eo14⟩ := Kd.R_slice HO108.out; subst eo14) | ((with_reducible refine gate_builtin (b := .append) (xs := #[.tmp 17, .tmp 19]) rfl ?_); at_builtin; refine Kd.R_append_rows (Kd.int .i64) (w0 := w) w.heap.size rfl (.tmp 17) (.tmp 19) 35 3 (.int .i64 0) 8 rfl Try.underlying35 info3 rfl (by decide) (by omega) u3 x3_1 t106 _ _ _ (fun k_ => some k_ ≠ (.slice Ao14 t106.length co14 : Value).ownBlock) (fun _ => False) rfl rfl ?aO ?aR (fun _ _ h => h) (fun _ h => h.elim) ?aF ?aB ?aS ?aL ?_; (case aR => repeat (first | exact (Kd.R_reads' HO108.out).2.2 | (with_reducible refine Xca ?_ _) | (with_reducible refine Xcn ?_ _) | (with_reducible refine Xcd ?_))); (case aB => exact (by repeat (first | (with_reducible first | exact HB.out | apply Xba | apply Xbn | apply Xbd | refine Xbe ?_ GE101.out) | exact HB.out))); (case aF => exact (fun k_ hk => Kd.fresh' (Kd.R_lt (by (with_reducible repeat (first | apply Xra | apply Xrn | apply Xrd)); exact HO108.out)) k_ hk)); (case aO => exact (by (with_reducible repeat (first | apply Xra | apply Xrn | apply Xrd)); exact Kd.R_mono HO_3.out (fun _ hk => hk.2))); (case aS => exact (Xbs (by repeat (first | (with_reducible first | exact HB.out | apply Xba | apply Xbn | apply Xbd | refine Xbe ?_ GE101.out) | exact HB.out)))); (case aL => have := LMc11.out; omega); intro v110 w13 ho hb hg hat; rw [← Ny109.out] at ho; have n0_ := Xam (blk_grown (g := gb101) (o := .cells #[.slice (some ad105) l0_0.length c0_0] 31 (0, 0)) (by (with_reducible repeat (first | refine Xkn ?_ _ | refine Xkd ?_ | refine Xka ?_ _)); exact BK101.out) hg (Kd.R_ne HO_3.out BK101.out (by decide))); have n1_ := Xam (Kd.R_after (ok := (fun _ => True)) (by (with_reducible repeat (first | apply Xra | apply Xrn | apply Xrd)); exact HO108.out) hg hat); have n2_ := Xam (hb); have n3_ := Xam (ho); clear BK101; clear HO108; clear HB; clear HO_3; have BK101 := n0_; have HO108 := n1_; have HB := n2_; have HO111 := n3_; clear n0_ n1_ n2_ n3_; clear ho hb hg hat))
              go_roundg k1
              case measure => have := HK1.out; omega
              case rel => exact ⟨(y109), (wrap64 (x13_1 + 1)), (by first | rfl | (simp; done) | (simp [*]; done)), H', ⟨by have := HK1.out; omega⟩, ⟨by (with_reducible repeat (first | apply Xra | apply Xrn | apply Xrd)); exact Kd.R_mono HO111.out (fun _ hk => trivial)⟩, ⟨by (with_reducible repeat (first | refine Xkn ?_ _ | refine Xkd ?_ | refine Xka ?_ _)); exact BK101.out⟩, ⟨by repeat (first | (with_reducible first | exact HB.out | apply Xba | apply Xbn | apply Xbd | refine Xbe ?_ GE101.out) | exact HB.out)⟩⟩
            · rw [if_neg c11] at H
              exact absurd H (by simp)
          · rw [if_neg c9] at H
            exact absurd H (by simp)
        · rw [if_neg c8] at H
          exact absurd H (by simp)
      · rw [if_neg c7] at H
        have c7b0 : decide (x13_1 < (l0_0.length : Int)) = false := decide_eq_false c7
        clear c7
        replace H := Option.bind_eq_some_iff.mp H
        obtain ⟨t112, A150, H⟩ := H
        replace H : (some t112) = some r := H
        have A15 := Xam A150
        clear A150
        obtain rfl := Option.some.inj H
        obtain ⟨Ao16, co16, eo16⟩ := Kd.R_slice HO_3.out
        subst eo16
        go_wp2_with (first | ((with_reducible refine gate_callee (f := 149) rfl ?_); refine goesL_ (some 23) rfl rfl Try.func149 (by kernel_rfl) rfl #[.slice Ao16 x3_1.length co16] rfl (by (try simp only [List.map_toArray, List.map_cons, List.map_nil]); first | done | rfl | (simp only [List.length_drop, List.length_take]; rfl)) ?_; (with_reducible refine (impl_Hash.calls k1 _ _ x3_1 t112 _ ?side1 ?side2 A15.out).mono ?_); (case side1 => repeat (first | exact (Kd.R_reads' HO_3.out).2.2 | (with_reducible refine Xca ?_ _) | (with_reducible refine Xcn ?_ _) | (with_reducible refine Xcd ?_))); (case side2 => exact (Kd.R_reads' HO_3.out).2.1); rintro e w' ⟨rfl, ⟨nd, rfl⟩⟩; refine ⟨_, rfl, ?_⟩))
        go_ret
        exact ⟨by first | rfl | (simp [errW_none, errW_some] <;> rfl) | (simp [*, errW_none, errW_some] <;> rfl), by repeat (first | (with_reducible first | exact HB.out | apply Xba | apply Xbn | apply Xbd | refine Xbe ?_ GE101.out) | exact HB.out)⟩

/-! ### impl_ShareDigest: function 78 -/
def impl_ShareDigest.f (k : Nat) (a0 : Int) (a1 : Int) (l2_0 : List (List Int)) : Option (Int) := (impl_DatabaseDigest.f k l2_0).bind fun t102 => ((impl_Hash.f k (([179, a0, a1, t102] : List Int))).bind fun t106 => (some t106))
theorem impl_ShareDigest.mono : ∀ a0 a1 a2 k, LeO (impl_ShareDigest.f k a0 a1 a2) (impl_ShareDigest.f (k + 1) a0 a1 a2) := by
  intro a0 a1 a2 k
  unfold impl_ShareDigest.f
  repeat' first
      | (with_reducible exact impl_DatabaseDigest.mono _ _)
      | (with_reducible exact impl_Hash.mono _ _)
      | (with_reducible exact LeO.refl _)
      | (with_reducible exact LeO.none _)
      | (with_reducible refine LeO.ite ?_ ?_)
      | (with_reducible refine LeO.bind ?_ (fun _ => ?_))
      | exact impl_DatabaseDigest.mono _ _
      | exact impl_Hash.mono _ _
      | exact LeO.none _
      | refine LeO.ite ?_ ?_
      | refine LeO.bind ?_ (fun _ => ?_)
set_option maxHeartbeats 8000000 in
set_option maxRecDepth 100000 in
theorem impl_ShareDigest.calls (k : Nat) (a0 : Int) (a1 : Int) (A2_0 : Option Addr) (c2_0 : Nat) (l2_0 : List (List Int)) (r : Int) (w : World) (hr2_0 : Kd.C (Kd.slice 5 (Kd.int .u8)) w A2_0 l2_0.length l2_0) (hc2_0 : l2_0.length ≤ c2_0) (h : impl_ShareDigest.f k a0 a1 l2_0 = some r) :
    Calls Try.prog 78 #[.int .i64 a0, .int .i64 a1, .agg #[.slice A2_0 l2_0.length c2_0]] w fun e w' => e = .returned (.int .i64 r) ∧ Below w.heap.size w w' := by
  have hu31 := Try.underlying31
  have HR2_0 := Xam hr2_0
  have HC2_0 := Xam hc2_0
  clear hr2_0 hc2_0
  have HB := Xam (Below.refl w.heap.size w)
  have H : ((impl_DatabaseDigest.f k l2_0).bind fun t102 => ((impl_Hash.f k (([179, a0, a1, t102] : List Int))).bind fun t106 => (some t106))) = some r := h
  clear h
  replace H := Option.bind_eq_some_iff.mp H
  obtain ⟨t102, A40, H⟩ := H
  replace H : ((impl_Hash.f k (([179, a0, a1, t102] : List Int))).bind fun t106 => (some t106)) = some r := H
  have A4 := Xam A40
  clear A40
  obtain ⟨y103, hy103⟩ : ∃ y_ : List Int, y_ = (([179, a0, a1, t102] : List Int)) := ⟨_, rfl⟩
  replace H : ((impl_Hash.f k y103).bind fun t106 => (some t106)) = some r := by first | (rw [hy103]; with_reducible exact H) | (have H2_ := (Option.bind_some _ _).symm.trans H; rw [hy103]; with_reducible exact H2_) | (have H2_ := (Option.bind_some _ _).symm.trans H; with_reducible exact H2_) | with_reducible exact H | (rw [hy103]; exact H) | exact H
  have Ny103 := Xam hy103
  clear hy103
  replace H := Option.bind_eq_some_iff.mp H
  obtain ⟨t106, A50, H⟩ := H
  replace H : (some t106) = some r := H
  have A5 := Xam A50
  clear A50
  obtain rfl := Option.some.inj H
  go_enter Try.func78, Try.ntmps78
  go_wp2_with (first | ((with_reducible refine gate_dst (N := 5) rfl ?_); refine box_event ?hg (N := 5) ?hd (cs := #[.slice A2_0 l2_0.length c2_0]) (t := 31) ?hr ?_; (case hd => rfl); (case hg => rfl); (case hr => first | (go_simp; done) | (go_simp; rfl)); intro gb101 hg w6 hbox hb; have n0_ := Xam (Xbt (by repeat (first | (with_reducible first | exact HB.out | apply Xba | apply Xbn | apply Xbd) | exact HB.out)) hb); have n1_ := Xam (hbox); have n2_ := Xam ((by rw [hg]; exact (Xbs (by repeat (first | (with_reducible first | exact HB.out | apply Xba | apply Xbn | apply Xbd) | exact HB.out))) : w.heap.size ≤ gb101)); have n3_ := Xam ((by rw [hg]; exact (Xbs (by repeat (first | (with_reducible first | exact HB.out | apply Xba | apply Xbn | apply Xbd) | exact HB.out))) : w.heap.size ≤ gb101)); clear HB; have HB := n0_; have BK101 := n1_; have GW101 := n2_; have GE101 := n3_; clear n0_ n1_ n2_ n3_; clear hb hbox hg; have hcz7_0 : w6.cell? ⟨gb101, 0, none⟩ = some (.slice A2_0 l2_0.length c2_0) := (Xbc BK101.out 0).trans rfl; have hfz7_0 := Xbf BK101.out 0) | ((with_reducible refine gate_callee (f := 150) rfl ?_); refine goesL_ (some 10) rfl rfl Try.func150 (by kernel_rfl) rfl #[.agg #[.slice A2_0 l2_0.length c2_0]] rfl (by (try simp only [List.map_toArray, List.map_cons, List.map_nil]); first | done | rfl | (simp only [List.length_drop, List.length_take]; rfl)) ?_; (with_reducible refine (impl_DatabaseDigest.calls k _ _ l2_0 t102 _ ?side1 ?side2 A4.out).mono ?_); (case side1 => repeat (first | exact (Kd.C_below HR2_0.out HB.out) | (with_reducible refine Xca ?_ _) | (with_reducible refine Xcn ?_ _) | (with_reducible refine Xcd ?_))); (case side2 => exact HC2_0.out); rintro e w8 ⟨rfl, hb⟩; refine ⟨_, rfl, ?_⟩; have n0_ := Xam (Xbb (g := gb101) (o := .cells #[.slice A2_0 l2_0.length c2_0] 31 (0, 0)) (by (with_reducible repeat (first | refine Xkn ?_ _ | refine Xkd ?_ | refine Xka ?_ _)); exact BK101.out) hb); have n1_ := Xam (Xbt (by repeat (first | (with_reducible first | exact HB.out | apply Xba | apply Xbn | apply Xbd | refine Xbe ?_ GE101.out) | exact HB.out)) hb); clear BK101; clear HB; have BK101 := n0_; have HB := n1_; clear n0_ n1_; (try clear hb); (try clear hb2); (try clear hk); (try clear hi)) | ((with_reducible refine gate_dst (N := 11) rfl ?_); refine Kd.R_lit (Kd.int .i64) _ 3 ?hg (N := 11) ?hd (xs := ([179, a0, a1, t102] : List Int)) (inner := [.int .i64 179, .int .i64 a0, .int .i64 a1, .int .i64 t102]) (ok := fun _ => True) (okp := fun _ => True) ?hr ?hp (fun _ hk => hk) trivial (Below.refl _ _) (Nat.le_refl _) (by simp) ?_; (case hd => rfl); (case hg => rfl); (case hr => first | (go_simp; done) | (go_simp; rfl)); (case hp => exact (Reps.one (show Kd.M (Kd.int .i64) _ _ _ 179 [.int .i64 179] from rfl) (Reps.one (show Kd.M (Kd.int .i64) _ _ _ a0 [.int .i64 a0] from rfl) (Reps.one (show Kd.M (Kd.int .i64) _ _ _ a1 [.int .i64 a1] from rfl) (Reps.one (show Kd.M (Kd.int .i64) _ _ _ t102 [.int .i64 t102] from rfl) (Reps.none _ _)))))); intro v104 w9 ho10 hb hg_ hnew_; clear hg_ hnew_; (first | rw [← Ny103.out] at ho10 | (simp only [Int.reduceToNat] at ho10; rw [← Ny103.out] at ho10)); have n0_ := Xam (Kd.R_lower ho10 (Xbs (by repeat (first | (with_reducible first | exact HB.out | apply Xba | apply Xbn | apply Xbd | refine Xbe ?_ GE101.out) | exact HB.out)))); have n1_ := Xam (Xbb (g := gb101) (o := .cells #[.slice A2_0 l2_0.length c2_0] 31 (0, 0)) (by (with_reducible repeat (first | refine Xkn ?_ _ | refine Xkd ?_ | refine Xka ?_ _)); exact BK101.out) hb); have n2_ := Xam (Xbt (by repeat (first | (with_reducible first | exact HB.out | apply Xba | apply Xbn | apply Xbd | refine Xbe ?_ GE101.out) | exact HB.out)) hb); clear BK101; clear HB; have HO105 := n0_; have BK101 := n1_; have HB := n2_; clear n0_ n1_ n2_; clear hb ho10; obtain ⟨Ao11, co11, eo11⟩ := Kd.R_slice HO105.out; subst eo11) | ((with_reducible refine gate_callee (f := 149) rfl ?_); refine goesL_ (some 12) rfl rfl Try.func149 (by kernel_rfl) rfl #[.slice Ao11 y103.length co11] rfl (by (try simp only [List.map_toArray, List.map_cons, List.map_nil]); first | done | rfl | (simp only [List.length_drop, List.length_take]; rfl)) ?_; (with_reducible refine (impl_Hash.calls k _ _ y103 t106 _ ?side1 ?side2 A5.out).mono ?_); (case side1 => repeat (first | exact (Kd.R_reads' HO105.out).2.2 | (with_reducible refine Xca ?_ _) | (with_reducible refine Xcn ?_ _) | (with_reducible refine Xcd ?_))); (case side2 => exact (Kd.R_reads' HO105.out).2.1); rintro e w' ⟨rfl, ⟨nd, rfl⟩⟩; refine ⟨_, rfl, ?_⟩))
  go_ret
  exact ⟨by first | rfl | (simp [errW_none, errW_some] <;> rfl) | (simp [*, errW_none, errW_some] <;> rfl), by repeat (first | (with_reducible first | exact HB.out | apply Xba | apply Xbn | apply Xbd | refine Xbe ?_ GE101.out) | exact HB.out)⟩

end Go.Proofs.Ytofkfagfdeohmaa.Q
