-- written by a program of this session (qprint.py) over the kit's print.py
import Derived.Test.YtgdfnoipcompkaaQx0
import Derived.Test.YtgdfnoipcompkaaQxAJILNK
import Derived.Test.YtgdfnoipcompkaaQxIEDEBM
import Derived.Test.YtgdfnoipcompkaaQxJGOEDE
import Derived.Test.YtgdfnoipcompkaaQxLEOLCC
import Derived.Test.YtgdfnoipcompkaaQxMJDJLF
namespace Go.Proofs.Ytgdfnoipcompkaa.Q
open Go.RowKit Go.Proofs.YtgdfnoipcompkaaW.PrintWords Go.Proofs.YtgdfnoipcompkaaW.PrintLast Go.Proofs.YtgdfnoipcompkaaW.PrintMore Go.Proofs.YtgdfnoipcompkaaW.PrintWords Go.Proofs.YtgdfnoipcompkaaW.PrintWords.QPW
attribute [local go_sem] max2_int min2_int max_two min_two max_three min_three max_four min_four   -- for this text's walks alone
set_option linter.unusedVariables false
set_option linter.unusedSimpArgs false

/-! ### spec_l20Has: function 192 -/
def spec_l20Has.l0 : Nat → List Int → Int → Int → Option (Bool)
  | 0, _, _, _ => none
  | k + 1, x0, x1, x5 => if x5 < (x0.length : Int) then (if 0 ≤ x5 then (if (rd x0 x5) = x1 then (some true) else (spec_l20Has.l0 k x0 x1 (wrap64 (x5 + 1)))) else (none)) else (some false)
def spec_l20Has.f (k : Nat) (l0 : List Int) (a1 : Int) : Option (Bool) := spec_l20Has.l0 k l0 a1 0
theorem spec_l20Has.mono_l : ∀ k, (∀ y0 y1 y2, LeO (spec_l20Has.l0 k y0 y1 y2) (spec_l20Has.l0 (k + 1) y0 y1 y2))
  | 0 => fun _ _ _ r h => by simp [spec_l20Has.l0] at h
  | k + 1 => by
    have ih0 := spec_l20Has.mono_l k
    · intro y0 y1 y2
      unfold spec_l20Has.l0
      repeat' first
      | (with_reducible exact ih0 _ _ _)
      | (with_reducible exact LeO.refl _)
      | (with_reducible exact LeO.none _)
      | (with_reducible refine LeO.ite ?_ ?_)
      | (with_reducible refine LeO.bind ?_ (fun _ => ?_))
      | exact ih0 _ _ _
      | exact LeO.none _
      | refine LeO.ite ?_ ?_
      | refine LeO.bind ?_ (fun _ => ?_)
theorem spec_l20Has.mono : ∀ a0 a1 k, LeO (spec_l20Has.f k a0 a1) (spec_l20Has.f (k + 1) a0 a1) := by
  intro a0 a1 k
  have ih0 := spec_l20Has.mono_l k
  unfold spec_l20Has.f
  repeat' first
      | (with_reducible exact ih0 _ _ _)
      | (with_reducible exact LeO.refl _)
      | (with_reducible exact LeO.none _)
      | (with_reducible refine LeO.ite ?_ ?_)
      | (with_reducible refine LeO.bind ?_ (fun _ => ?_))
      | exact ih0 _ _ _
      | exact LeO.none _
      | refine LeO.ite ?_ ?_
      | refine LeO.bind ?_ (fun _ => ?_)
set_option maxHeartbeats 8000000 in
set_option maxRecDepth 100000 in
theorem spec_l20Has.calls (k : Nat) (A0 : Option Addr) (c0 : Nat) (l0 : List Int) (a1 : Int) (r : Bool) (w : World) (hr0 : Kd.C (Kd.int .i64) w A0 l0.length l0) (hc0 : l0.length ≤ c0) (h : spec_l20Has.f k l0 a1 = some r) :
    Calls Try.prog 192 #[.slice A0 l0.length c0, .int .i64 a1] w fun e w' => e = .returned (.bool r) ∧ Drawn0 w w' := by
  have HR0 := Xam hr0
  have HC0 := Xam hc0
  clear hr0 hc0
  have H : (spec_l20Has.l0 k l0 a1 0) = some r := h
  clear h
  have H' := Xam H
  clear H
  go_enter Try.func192, Try.ntmps192
  go_wp2
  go_loopg [5] k (fun kq v5 w' => ∃ (x5_1 : Int), v5 = .int .i64 x5_1 ∧ Aside0 (spec_l20Has.l0 kq l0 a1 x5_1 = some r) ∧ Aside0 (kq ≤ k) ∧ Drawn0 w w')
  case atStart => exact ⟨(0), (by first | rfl | (simp; done) | (simp [*]; done)), H', ⟨Nat.le_refl _⟩, by repeat (first | exact Drawn0.refl _ | apply Drawn0.step)⟩
  case round =>
    clear H'
    try clear c1
    try clear p2
    obtain ⟨x5_1, rfl, HA, HK1, ⟨m1, rfl⟩⟩ := hrel
    cases gk with
    | zero => exact absurd HA.out (by simp [spec_l20Has.l0])
    | succ k1 =>
      have H := HA.out
      clear HA
      simp only [spec_l20Has.l0] at H
      by_cases c3 : x5_1 < (l0.length : Int)
      · rw [if_pos c3] at H
        have c3b0 : decide (x5_1 < (l0.length : Int)) = true := decide_eq_true c3
        clear c3
        by_cases c4 : 0 ≤ x5_1
        · rw [if_pos c4] at H
          have c4b0 : decide (0 ≤ x5_1) = true := decide_eq_true c4
          clear c4
          by_cases c5 : (rd l0 x5_1) = a1
          · rw [if_pos c5] at H
            have c5b0 : ((rd l0 x5_1) == a1) = true := beq_iff_eq.mpr c5
            have c5b1 : ((rd l0 x5_1) != a1) = false := bne_eq_false_iff_eq.mpr c5
            clear c5
            obtain rfl := Option.some.inj H
            have p101 : 0 ≤ (x5_1 : Int) := of_decide_eq_true (by first | (with_reducible assumption) | assumption)
            have q101 : x5_1 < (l0.length : Int) := of_decide_eq_true (by first | (with_reducible assumption) | assumption)
            obtain ⟨ad101, e101, hx101_0⟩ := Kd.at_int HR0.out x5_1 p101 q101
            cases e101
            replace p101 := eq_true p101
            replace q101 := eq_true q101
            go_wp2
            go_ret
            exact ⟨by first | rfl | (simp; done) | (simp [*]; done), by repeat (first | exact Drawn0.refl _ | apply Drawn0.step)⟩
          · rw [if_neg c5] at H
            have c5b0 : ((rd l0 x5_1) == a1) = false := beq_eq_false_iff_ne.mpr c5
            have c5b1 : ((rd l0 x5_1) != a1) = true := bne_iff_ne.mpr c5
            have H' := Xam H
            clear H
            have p101 : 0 ≤ (x5_1 : Int) := of_decide_eq_true (by first | (with_reducible assumption) | assumption)
            have q101 : x5_1 < (l0.length : Int) := of_decide_eq_true (by first | (with_reducible assumption) | assumption)
            obtain ⟨ad101, e101, hx101_0⟩ := Kd.at_int HR0.out x5_1 p101 q101
            cases e101
            replace p101 := eq_true p101
            replace q101 := eq_true q101
            go_wp2
            go_roundg k1
            case measure => have := HK1.out; omega
            case rel => exact ⟨(wrap64 (x5_1 + 1)), (by first | rfl | (simp; done) | (simp [*]; done)), H', ⟨by have := HK1.out; omega⟩, by repeat (first | exact Drawn0.refl _ | apply Drawn0.step)⟩
        · rw [if_neg c4] at H
          exact absurd H (by simp)
      · rw [if_neg c3] at H
        have c3b0 : decide (x5_1 < (l0.length : Int)) = false := decide_eq_false c3
        clear c3
        obtain rfl := Option.some.inj H
        go_wp2
        go_ret
        exact ⟨by first | rfl | (simp; done) | (simp [*]; done), by repeat (first | exact Drawn0.refl _ | apply Drawn0.step)⟩

/-! ### spec_ChildSeed: function 248 -/
def spec_ChildSeed.f (k : Nat) (a0 : Int) (a1 : Int) : Option (Int) := (spec_KeyedHash.f k a0 (([47, a1] : List Int))).bind fun t104 => (some (Int.tmod (wrap64 ((wrap64 (t104 * t104)) + 5)) 2147483647))
theorem spec_ChildSeed.mono : ∀ a0 a1 k, LeO (spec_ChildSeed.f k a0 a1) (spec_ChildSeed.f (k + 1) a0 a1) := by
  intro a0 a1 k
  unfold spec_ChildSeed.f
  repeat' first
      | (with_reducible exact spec_KeyedHash.mono _ _ _)
      | (with_reducible exact LeO.refl _)
      | (with_reducible exact LeO.none _)
      | (with_reducible refine LeO.ite ?_ ?_)
      | (with_reducible refine LeO.bind ?_ (fun _ => ?_))
      | exact spec_KeyedHash.mono _ _ _
      | exact LeO.none _
      | refine LeO.ite ?_ ?_
      | refine LeO.bind ?_ (fun _ => ?_)
set_option maxHeartbeats 8000000 in
set_option maxRecDepth 100000 in
theorem spec_ChildSeed.calls (k : Nat) (a0 : Int) (a1 : Int) (r : Int) (w : World) (h : spec_ChildSeed.f k a0 a1 = some r) :
    Calls Try.prog 248 #[.int .i64 a0, .int .i64 a1] w fun e w' => e = .returned (.int .i64 r) ∧ Below w.heap.size w w' := by
  have HB := Xam (Below.refl w.heap.size w)
  have H : ((spec_KeyedHash.f k a0 (([47, a1] : List Int))).bind fun t104 => (some (Int.tmod (wrap64 ((wrap64 (t104 * t104)) + 5)) 2147483647))) = some r := h
  clear h
  obtain ⟨y101, hy101⟩ : ∃ y_ : List Int, y_ = (([47, a1] : List Int)) := ⟨_, rfl⟩
  replace H : ((spec_KeyedHash.f k a0 y101).bind fun t104 => (some (Int.tmod (wrap64 ((wrap64 (t104 * t104)) + 5)) 2147483647))) = some r := by first | (rw [hy101]; with_reducible exact H) | (have H2_ := (Option.bind_some _ _).symm.trans H; rw [hy101]; with_reducible exact H2_) | (have H2_ := (Option.bind_some _ _).symm.trans H; with_reducible exact H2_) | with_reducible exact H | (rw [hy101]; exact H) | exact H
  have Ny101 := Xam hy101
  clear hy101
  replace H := Option.bind_eq_some_iff.mp H
  obtain ⟨t104, A30, H⟩ := H
  replace H : (some (Int.tmod (wrap64 ((wrap64 (t104 * t104)) + 5)) 2147483647)) = some r := H
  have A3 := Xam A30
  clear A30
  obtain rfl := Option.some.inj H
  go_enter Try.func248, Try.ntmps248
  go_wp2_with (first | ((with_reducible refine gate_dst (N := 8) rfl ?_); refine Kd.R_lit (Kd.int .i64) _ 3 ?hg (N := 8) ?hd (xs := ([47, a1] : List Int)) (inner := [.int .i64 47, .int .i64 a1]) (ok := fun _ => True) (okp := fun _ => True) ?hr ?hp (fun _ hk => hk) trivial (Below.refl _ _) (Nat.le_refl _) (by simp) ?_; (case hd => rfl); (case hg => rfl); (case hr => first | (go_simp; done) | (go_simp; rfl)); (case hp => exact (Reps.one (show Kd.M (Kd.int .i64) _ _ _ 47 [.int .i64 47] from rfl) (Reps.one (show Kd.M (Kd.int .i64) _ _ _ a1 [.int .i64 a1] from rfl) (Reps.none _ _)))); intro v102 w4 ho5 hb hg_ hnew_; clear hg_ hnew_; (first | rw [← Ny101.out] at ho5 | (simp only [Int.reduceToNat] at ho5; rw [← Ny101.out] at ho5)); have n0_ := Xam (Kd.R_lower ho5 (Xbs (by repeat (first | (with_reducible first | exact HB.out | apply Xba | apply Xbn | apply Xbd) | exact HB.out)))); have n1_ := Xam (Xbt (by repeat (first | (with_reducible first | exact HB.out | apply Xba | apply Xbn | apply Xbd) | exact HB.out)) hb); clear HB; have HO103 := n0_; have HB := n1_; clear n0_ n1_; clear hb ho5; obtain ⟨Ao6, co6, eo6⟩ := Kd.R_slice HO103.out; subst eo6) | ((with_reducible refine gate_callee (f := 200) rfl ?_); refine goesL_ (some 9) rfl rfl Try.func200 (by kernel_rfl) rfl #[.int .i64 a0, .slice Ao6 y101.length co6] rfl (by (try simp only [List.map_toArray, List.map_cons, List.map_nil]); first | done | rfl | (simp only [List.length_drop, List.length_take]; rfl)) ?_; (with_reducible refine (spec_KeyedHash.calls k a0 _ _ y101 t104 _ ?side1 ?side2 A3.out).mono ?_); (case side1 => repeat (first | exact (Kd.R_reads' HO103.out).2.2 | (with_reducible refine Xca ?_ _) | (with_reducible refine Xcn ?_ _) | (with_reducible refine Xcd ?_))); (case side2 => exact (Kd.R_reads' HO103.out).2.1); rintro e w7 ⟨rfl, hb⟩; refine ⟨_, rfl, ?_⟩; have n0_ := Xam (Kd.R_below (by (with_reducible repeat (first | apply Xra | apply Xrn | apply Xrd)); exact HO103.out) hb); have n1_ := Xam (Xbt (by repeat (first | (with_reducible first | exact HB.out | apply Xba | apply Xbn | apply Xbd) | exact HB.out)) hb); clear HO103; clear HB; have HO103 := n0_; have HB := n1_; clear n0_ n1_; (try clear hb); (try clear hb2); (try clear hk); (try clear hi)))
  go_ret
  exact ⟨by first | rfl | (simp [errW_none, errW_some] <;> rfl) | (simp [*, errW_none, errW_some] <;> rfl), by repeat (first | (with_reducible first | exact HB.out | apply Xba | apply Xbn | apply Xbd) | exact HB.out)⟩

/-! ### spec_StreamBytes: function 239 -/
def spec_StreamBytes.l0 : Nat → Int → Int → List Int → Int → Option (List Int)
  | 0, _, _, _, _ => none
  | k + 1, x0, x1, x5, x6 => if x6 < x1 then (if x1 ≤ 400 then ((spec_ChildSeed.f k x0 (wrap64 (100 + x6))).bind fun t104 => (if x5.length < 140737488355328 then (spec_StreamBytes.l0 k x0 x1 (x5 ++ [(wrap64 (Int.tdiv t104 256)) % 256]) (wrap64 (x6 + 1))) else (none))) else (some x5)) else (some x5)
def spec_StreamBytes.f (k : Nat) (a0 : Int) (a1 : Int) : Option (List Int) := spec_StreamBytes.l0 k a0 a1 (([] : List Int)) 0
theorem spec_StreamBytes.mono_l : ∀ k, (∀ y0 y1 y2 y3, LeO (spec_StreamBytes.l0 k y0 y1 y2 y3) (spec_StreamBytes.l0 (k + 1) y0 y1 y2 y3))
  | 0 => fun _ _ _ _ r h => by simp [spec_StreamBytes.l0] at h
  | k + 1 => by
    have ih0 := spec_StreamBytes.mono_l k
    · intro y0 y1 y2 y3
      unfold spec_StreamBytes.l0
      repeat' first
      | (with_reducible exact ih0 _ _ _ _)
      | (with_reducible exact spec_ChildSeed.mono _ _ _)
      | (with_reducible exact LeO.refl _)
      | (with_reducible exact LeO.none _)
      | (with_reducible refine LeO.ite ?_ ?_)
      | (with_reducible refine LeO.bind ?_ (fun _ => ?_))
      | exact ih0 _ _ _ _
      | exact spec_ChildSeed.mono _ _ _
      | exact LeO.none _
      | refine LeO.ite ?_ ?_
      | refine LeO.bind ?_ (fun _ => ?_)
theorem spec_StreamBytes.mono : ∀ a0 a1 k, LeO (spec_StreamBytes.f k a0 a1) (spec_StreamBytes.f (k + 1) a0 a1) := by
  intro a0 a1 k
  have ih0 := spec_StreamBytes.mono_l k
  unfold spec_StreamBytes.f
  repeat' first
      | (with_reducible exact ih0 _ _ _ _)
      | (with_reducible exact spec_ChildSeed.mono _ _ _)
      | (with_reducible exact LeO.refl _)
      | (with_reducible exact LeO.none _)
      | (with_reducible refine LeO.ite ?_ ?_)
      | (with_reducible refine LeO.bind ?_ (fun _ => ?_))
      | exact ih0 _ _ _ _
      | exact spec_ChildSeed.mono _ _ _
      | exact LeO.none _
      | refine LeO.ite ?_ ?_
      | refine LeO.bind ?_ (fun _ => ?_)
set_option maxHeartbeats 8000000 in
set_option maxRecDepth 100000 in
theorem spec_StreamBytes.calls (k : Nat) (a0 : Int) (a1 : Int) (r : List Int) (w : World) (h : spec_StreamBytes.f k a0 a1 = some r) :
    Calls Try.prog 239 #[.int .i64 a0, .int .i64 a1] w fun e w' => ∃ v0_ : Value, e = .returned (v0_) ∧ Kd.R (Kd.int .u8) 5 w' w.heap.size (fun _ => True) v0_ r ∧ Below w.heap.size w w' := by
  have HB := Xam (Below.refl w.heap.size w)
  have H : (spec_StreamBytes.l0 k a0 a1 (([] : List Int)) 0) = some r := h
  clear h
  obtain ⟨y101, hy101⟩ : ∃ y_ : List Int, y_ = (([] : List Int)) := ⟨_, rfl⟩
  replace H : (spec_StreamBytes.l0 k a0 a1 y101 0) = some r := by first | (rw [hy101]; with_reducible exact H) | (have H2_ := (Option.bind_some _ _).symm.trans H; rw [hy101]; with_reducible exact H2_) | (have H2_ := (Option.bind_some _ _).symm.trans H; with_reducible exact H2_) | with_reducible exact H | (rw [hy101]; exact H) | exact H
  have Ny101 := Xam hy101
  clear hy101
  have H' := Xam H
  clear H
  go_enter Try.func239, Try.ntmps239
  go_wp2_with (first | ((with_reducible refine gate_dst (N := 7) rfl ?_); refine Kd.R_lit (Kd.int .u8) _ 5 ?hg (N := 7) ?hd (xs := ([] : List Int)) (inner := []) (ok := fun _ => True) (okp := fun _ => True) ?hr ?hp (fun _ hk => hk) trivial (Below.refl _ _) (Nat.le_refl _) (by simp) ?_; (case hd => rfl); (case hg => rfl); (case hr => first | (go_simp; done) | (go_simp; rfl)); (case hp => exact (Reps.none _ _)); intro v102 w3 ho4 hb hg_ hnew_; clear hg_ hnew_; (first | rw [← Ny101.out] at ho4 | (simp only [Int.reduceToNat] at ho4; rw [← Ny101.out] at ho4)); have n0_ := Xam (Kd.R_lower ho4 (Xbs (by repeat (first | (with_reducible first | exact HB.out | apply Xba | apply Xbn | apply Xbd) | exact HB.out)))); have n1_ := Xam (Xbt (by repeat (first | (with_reducible first | exact HB.out | apply Xba | apply Xbn | apply Xbd) | exact HB.out)) hb); clear HB; have HO103 := n0_; have HB := n1_; clear n0_ n1_; clear hb ho4))
  go_loopg [5, 6] k (fun kq v5 v6 w' => ∃ (x5_1 : List Int) (x6_1 : Int), v6 = .int .i64 x6_1 ∧ Aside0 (spec_StreamBytes.l0 kq a0 a1 x5_1 x6_1 = some r) ∧ Aside0 (kq ≤ k) ∧ Aside0 (Kd.R (Kd.int .u8) 5 w' w.heap.size (fun _ => True) v5 x5_1) ∧ Aside0 (Below w.heap.size w w'))
  case atStart => exact ⟨(y101), (0), (by first | rfl | (simp; done) | (simp [*]; done)), H', ⟨Nat.le_refl _⟩, ⟨by (with_reducible repeat (first | apply Xra | apply Xrn | apply Xrd)); exact HO103.out⟩, ⟨by repeat (first | (with_reducible first | exact HB.out | apply Xba | apply Xbn | apply Xbd) | exact HB.out)⟩⟩
  case round =>
    clear H'
    try clear c2
    try clear p2
    obtain ⟨x5_1, x6_1, rfl, HA, HK1, HO_5, HB⟩ := hrel
    cases gk with
    | zero => exact absurd HA.out (by simp [spec_StreamBytes.l0])
    | succ k1 =>
      have H := HA.out
      clear HA
      simp only [spec_StreamBytes.l0] at H
      by_cases c5 : x6_1 < a1
      · rw [if_pos c5] at H
        have c5b0 : decide (x6_1 < a1) = true := decide_eq_true c5
        clear c5
        by_cases c6 : a1 ≤ 400
        · rw [if_pos c6] at H
          have c6b0 : decide (a1 ≤ 400) = true := decide_eq_true c6
          clear c6
          replace H := Option.bind_eq_some_iff.mp H
          obtain ⟨t104, A70, H⟩ := H
          replace H : (if x5_1.length < 140737488355328 then (spec_StreamBytes.l0 k1 a0 a1 (x5_1 ++ [(wrap64 (Int.tdiv t104 256)) % 256]) (wrap64 (x6_1 + 1))) else (none)) = some r := H
          have A7 := Xam A70
          clear A70
          by_cases c8 : x5_1.length < 140737488355328
          · rw [if_pos c8] at H
            have LMc8 := Xam c8
            clear c8
            obtain ⟨y105, hy105⟩ : ∃ y_ : List Int, y_ = (x5_1 ++ [(wrap64 (Int.tdiv t104 256)) % 256]) := ⟨_, rfl⟩
            replace H : (spec_StreamBytes.l0 k1 a0 a1 y105 (wrap64 (x6_1 + 1))) = some r := by first | (rw [hy105]; with_reducible exact H) | (have H2_ := (Option.bind_some _ _).symm.trans H; rw [hy105]; with_reducible exact H2_) | (have H2_ := (Option.bind_some _ _).symm.trans H; with_reducible exact H2_) | with_reducible exact H | (rw [hy105]; exact H) | exact H
            have Ny105 := Xam hy105
            clear hy105
            have H' := Xam H
            clear H
            go_wp2_with (first | ((with_reducible refine gate_callee (f := 248) rfl ?_); refine goesL_ (some 21) rfl rfl Try.func248 (by kernel_rfl) rfl #[.int .i64 a0, .int .i64 (wrap64 (100 + x6_1))] rfl (by (try simp only [List.map_toArray, List.map_cons, List.map_nil]); first | done | rfl | (simp only [List.length_drop, List.length_take]; rfl)) ?_; (with_reducible refine (spec_ChildSeed.calls k1 a0 (wrap64 (100 + x6_1)) t104 _ A7.out).mono ?_); rintro e w9 ⟨rfl, hb⟩; refine ⟨_, rfl, ?_⟩; have n0_ := Xam (Kd.R_below (by (with_reducible repeat (first | apply Xra | apply Xrn | apply Xrd)); exact HO_5.out) hb); have n1_ := Xam (Xbt (by repeat (first | (with_reducible first | exact HB.out | apply Xba | apply Xbn | apply Xbd) | exact HB.out)) hb); clear HO_5; clear HB; have HO_5 := n0_; have HB := n1_; clear n0_ n1_; (try clear hb); (try clear hb2); (try clear hk); (try clear hi)) | ((with_reducible refine gate_builtin (b := .append) (xs := #[.tmp 17, .tmp 24]) rfl ?_); at_builtin; refine Kd.R_append (Kd.int .u8) (w0 := w) w.heap.size rfl (.tmp 17) (.tmp 24) 25 5 (.int .u8 0) 1 rfl Try.underlying25 info5 rfl (by decide) (by omega) u5 x5_1 ((wrap64 (Int.tdiv t104 256)) % 256) [.int .u8 ((wrap64 (Int.tdiv t104 256)) % 256)] (fun _ => True) (fun _ => False) rfl rfl ?aP (fun _ hk => hk.elim) ?aF ?aO ?aB ?aS ?aL ?_; (case aP => exact rfl); (case aB => exact (by repeat (first | (with_reducible first | exact HB.out | apply Xba | apply Xbn | apply Xbd) | exact HB.out))); (case aF => exact (fun _ _ => trivial)); (case aO => exact (by (with_reducible repeat (first | apply Xra | apply Xrn | apply Xrd)); exact HO_5.out)); (case aS => exact (Xbs (by repeat (first | (with_reducible first | exact HB.out | apply Xba | apply Xbn | apply Xbd) | exact HB.out)))); (case aL => have := LMc8.out; omega); intro v106 w10 ho hb hg hat; rw [← Ny105.out] at ho; have n0_ := Xam (hb); have n1_ := Xam (ho); clear HB; clear HO_5; have HB := n0_; have HO107 := n1_; clear n0_ n1_; clear ho hb hg hat))
            go_roundg k1
            case measure => have := HK1.out; omega
            case rel => exact ⟨(y105), (wrap64 (x6_1 + 1)), (by first | rfl | (simp; done) | (simp [*]; done)), H', ⟨by have := HK1.out; omega⟩, ⟨by (with_reducible repeat (first | apply Xra | apply Xrn | apply Xrd)); exact HO107.out⟩, ⟨by repeat (first | (with_reducible first | exact HB.out | apply Xba | apply Xbn | apply Xbd) | exact HB.out)⟩⟩
          · rw [if_neg c8] at H
            exact absurd H (by simp)
        · rw [if_neg c6] at H
          have c6b0 : decide (a1 ≤ 400) = false := decide_eq_false c6
          clear c6
          obtain rfl := Option.some.inj H
          go_wp2
          go_ret
          exact ⟨_, by first | rfl | (simp [errW_none, errW_some] <;> rfl) | (simp [*, errW_none, errW_some] <;> rfl), by (with_reducible repeat (first | apply Xra | apply Xrn | apply Xrd)); exact HO_5.out, by repeat (first | (with_reducible first | exact HB.out | apply Xba | apply Xbn | apply Xbd) | exact HB.out)⟩
      · rw [if_neg c5] at H
        have c5b0 : decide (x6_1 < a1) = false := decide_eq_false c5
        clear c5
        obtain rfl := Option.some.inj H
        go_wp2
        go_ret
        exact ⟨_, by first | rfl | (simp [errW_none, errW_some] <;> rfl) | (simp [*, errW_none, errW_some] <;> rfl), by (with_reducible repeat (first | apply Xra | apply Xrn | apply Xrd)); exact HO_5.out, by repeat (first | (with_reducible first | exact HB.out | apply Xba | apply Xbn | apply Xbd) | exact HB.out)⟩

/-! ### spec_Encrypt: function 240 -/
def spec_Encrypt.l0 : Nat → Int → List Int → List Int → Int → Option (List Int)
  | 0, _, _, _, _ => none
  | k + 1, x0, x1, x5, x6 => if x6 < (x1.length : Int) then (if 0 ≤ x6 then ((spec_KeyedHash.f k x0 (([x6] : List Int))).bind fun t108 => (if x5.length < 140737488355328 then (spec_Encrypt.l0 k x0 x1 (x5 ++ [(Int.tmod (wrap64 ((wrap64 (rd x1 x6)) + (Int.tmod t108 256))) 256) % 256]) (wrap64 (x6 + 1))) else (none))) else (none)) else (some x5)
def spec_Encrypt.f (k : Nat) (a0 : Int) (l1 : List Int) : Option (List Int) := spec_Encrypt.l0 k a0 l1 (([] : List Int)) 0
theorem spec_Encrypt.mono_l : ∀ k, (∀ y0 y1 y2 y3, LeO (spec_Encrypt.l0 k y0 y1 y2 y3) (spec_Encrypt.l0 (k + 1) y0 y1 y2 y3))
  | 0 => fun _ _ _ _ r h => by simp [spec_Encrypt.l0] at h
  | k + 1 => by
    have ih0 := spec_Encrypt.mono_l k
    · intro y0 y1 y2 y3
      unfold spec_Encrypt.l0
      repeat' first
      | (with_reducible exact ih0 _ _ _ _)
      | (with_reducible exact spec_KeyedHash.mono _ _ _)
      | (with_reducible exact LeO.refl _)
      | (with_reducible exact LeO.none _)
      | (with_reducible refine LeO.ite ?_ ?_)
      | (with_reducible refine LeO.bind ?_ (fun _ => ?_))
      | exact ih0 _ _ _ _
      | exact spec_KeyedHash.mono _ _ _
      | exact LeO.none _
      | refine LeO.ite ?_ ?_
      | refine LeO.bind ?_ (fun _ => ?_)
theorem spec_Encrypt.mono : ∀ a0 a1 k, LeO (spec_Encrypt.f k a0 a1) (spec_Encrypt.f (k + 1) a0 a1) := by
  intro a0 a1 k
  have ih0 := spec_Encrypt.mono_l k
  unfold spec_Encrypt.f
  repeat' first
      | (with_reducible exact ih0 _ _ _ _)
      | (with_reducible exact spec_KeyedHash.mono _ _ _)
      | (with_reducible exact LeO.refl _)
      | (with_reducible exact LeO.none _)
      | (with_reducible refine LeO.ite ?_ ?_)
      | (with_reducible refine LeO.bind ?_ (fun _ => ?_))
      | exact ih0 _ _ _ _
      | exact spec_KeyedHash.mono _ _ _
      | exact LeO.none _
      | refine LeO.ite ?_ ?_
      | refine LeO.bind ?_ (fun _ => ?_)
def spec_Encrypt.T5 : Bool × List (List Nat × List Nat) := (true, [([], []), ([], []), ([], []), ([1, 2], [1, 2]), ([3], [3]), ([4], [4]), ([], []), ([], []), ([7], [7]), ([6, 8], [6, 8]), ([9], [9]), ([5, 10], [5, 10]), ([11], [11]), ([12], [12]), ([13], [13]), ([0, 14, 9], [0, 14]), ([15, 15, 0, 1, 2, 3, 4, 5, 6, 7, 8, 9, 10, 11, 12, 13, 14, 15], [0, 15])])
def spec_Encrypt.B5 : List Nat := [0, 0, 0, 6, 14, 30, 0, 0, 128, 448, 960, 2046, 4094, 8190, 16382, 32767, 65535]
theorem spec_Encrypt.tab5 : rtab .any (opsOf Try.f240 5) = spec_Encrypt.T5 := by kernel_rfl
theorem spec_Encrypt.bits5 : waitsOk spec_Encrypt.T5.2 spec_Encrypt.B5 = true := by kernel_rfl
set_option maxHeartbeats 8000000 in
set_option maxRecDepth 100000 in
theorem spec_Encrypt.calls (k : Nat) (a0 : Int) (A1 : Option Addr) (c1 : Nat) (l1 : List Int) (r : List Int) (w : World) (hr1 : Kd.C (Kd.int .u8) w A1 l1.length l1) (hc1 : l1.length ≤ c1) (h : spec_Encrypt.f k a0 l1 = some r) :
    Calls Try.prog 240 #[.int .i64 a0, .slice A1 l1.length c1] w fun e w' => ∃ v0_ : Value, e = .returned (v0_) ∧ Kd.R (Kd.int .u8) 5 w' w.heap.size (fun _ => True) v0_ r ∧ Below w.heap.size w w' := by
  have HR1 := Xam hr1
  have HC1 := Xam hc1
  clear hr1 hc1
  have HB := Xam (Below.refl w.heap.size w)
  have H : (spec_Encrypt.l0 k a0 l1 (([] : List Int)) 0) = some r := h
  clear h
  obtain ⟨y101, hy101⟩ : ∃ y_ : List Int, y_ = (([] : List Int)) := ⟨_, rfl⟩
  replace H : (spec_Encrypt.l0 k a0 l1 y101 0) = some r := by first | (rw [hy101]; with_reducible exact H) | (have H2_ := (Option.bind_some _ _).symm.trans H; rw [hy101]; with_reducible exact H2_) | (have H2_ := (Option.bind_some _ _).symm.trans H; with_reducible exact H2_) | with_reducible exact H | (rw [hy101]; exact H) | exact H
  have Ny101 := Xam hy101
  clear hy101
  have H' := Xam H
  clear H
  go_enter Try.func240, Try.ntmps240
  go_wp2_with (first | ((with_reducible refine gate_dst (N := 7) rfl ?_); refine Kd.R_lit (Kd.int .u8) _ 5 ?hg (N := 7) ?hd (xs := ([] : List Int)) (inner := []) (ok := fun _ => True) (okp := fun _ => True) ?hr ?hp (fun _ hk => hk) trivial (Below.refl _ _) (Nat.le_refl _) (by simp) ?_; (case hd => rfl); (case hg => rfl); (case hr => first | (go_simp; done) | (go_simp; rfl)); (case hp => exact (Reps.none _ _)); intro v102 w3 ho4 hb hg_ hnew_; clear hg_ hnew_; (first | rw [← Ny101.out] at ho4 | (simp only [Int.reduceToNat] at ho4; rw [← Ny101.out] at ho4)); have n0_ := Xam (Kd.R_lower ho4 (Xbs (by repeat (first | (with_reducible first | exact HB.out | apply Xba | apply Xbn | apply Xbd) | exact HB.out)))); have n1_ := Xam (Xbt (by repeat (first | (with_reducible first | exact HB.out | apply Xba | apply Xbn | apply Xbd) | exact HB.out)) hb); clear HB; have HO103 := n0_; have HB := n1_; clear n0_ n1_; clear hb ho4))
  go_loopg [5, 6] k (fun kq v5 v6 w' => ∃ (x5_1 : List Int) (x6_1 : Int), v6 = .int .i64 x6_1 ∧ Aside0 (spec_Encrypt.l0 kq a0 l1 x5_1 x6_1 = some r) ∧ Aside0 (kq ≤ k) ∧ Aside0 (Kd.R (Kd.int .u8) 5 w' w.heap.size (fun _ => True) v5 x5_1) ∧ Aside0 (Below w.heap.size w w'))
  case atStart => exact ⟨(y101), (0), (by first | rfl | (simp; done) | (simp [*]; done)), H', ⟨Nat.le_refl _⟩, ⟨by (with_reducible repeat (first | apply Xra | apply Xrn | apply Xrd)); exact HO103.out⟩, ⟨by repeat (first | (with_reducible first | exact HB.out | apply Xba | apply Xbn | apply Xbd) | exact HB.out)⟩⟩
  case round =>
    clear H'
    try clear c1
    try clear c2
    try clear p2
    obtain ⟨x5_1, x6_1, rfl, HA, HK1, HO_5, HB⟩ := hrel
    cases gk with
    | zero => exact absurd HA.out (by simp [spec_Encrypt.l0])
    | succ k1 =>
      have H := HA.out
      clear HA
      simp only [spec_Encrypt.l0] at H
      by_cases c5 : x6_1 < (l1.length : Int)
      · rw [if_pos c5] at H
        have c5b0 : decide (x6_1 < (l1.length : Int)) = true := decide_eq_true c5
        clear c5
        by_cases c6 : 0 ≤ x6_1
        · rw [if_pos c6] at H
          have c6b0 : decide (0 ≤ x6_1) = true := decide_eq_true c6
          clear c6
          obtain ⟨y105, hy105⟩ : ∃ y_ : List Int, y_ = (([x6_1] : List Int)) := ⟨_, rfl⟩
          replace H : ((spec_KeyedHash.f k1 a0 y105).bind fun t108 => (if x5_1.length < 140737488355328 then (spec_Encrypt.l0 k1 a0 l1 (x5_1 ++ [(Int.tmod (wrap64 ((wrap64 (rd l1 x6_1)) + (Int.tmod t108 256))) 256) % 256]) (wrap64 (x6_1 + 1))) else (none))) = some r := by first | (rw [hy105]; with_reducible exact H) | (have H2_ := (Option.bind_some _ _).symm.trans H; rw [hy105]; with_reducible exact H2_) | (have H2_ := (Option.bind_some _ _).symm.trans H; with_reducible exact H2_) | with_reducible exact H | (rw [hy105]; exact H) | exact H
          have Ny105 := Xam hy105
          clear hy105
          replace H := Option.bind_eq_some_iff.mp H
          obtain ⟨t108, A70, H⟩ := H
          replace H : (if x5_1.length < 140737488355328 then (spec_Encrypt.l0 k1 a0 l1 (x5_1 ++ [(Int.tmod (wrap64 ((wrap64 (rd l1 x6_1)) + (Int.tmod t108 256))) 256) % 256]) (wrap64 (x6_1 + 1))) else (none)) = some r := H
          have A7 := Xam A70
          clear A70
          by_cases c8 : x5_1.length < 140737488355328
          · rw [if_pos c8] at H
            have LMc8 := Xam c8
            clear c8
            obtain ⟨y109, hy109⟩ : ∃ y_ : List Int, y_ = (x5_1 ++ [(Int.tmod (wrap64 ((wrap64 (rd l1 x6_1)) + (Int.tmod t108 256))) 256) % 256]) := ⟨_, rfl⟩
            replace H : (spec_Encrypt.l0 k1 a0 l1 y109 (wrap64 (x6_1 + 1))) = some r := by first | (rw [hy109]; with_reducible exact H) | (have H2_ := (Option.bind_some _ _).symm.trans H; rw [hy109]; with_reducible exact H2_) | (have H2_ := (Option.bind_some _ _).symm.trans H; with_reducible exact H2_) | with_reducible exact H | (rw [hy109]; exact H) | exact H
            have Ny109 := Xam hy109
            clear hy109
            have H' := Xam H
            clear H
            try go_wp2
            have n0_ := Xam (Xrd HO_5.out)
            have n1_ := Xam (Xbd HB.out)
            clear HO_5
            clear HB
            have HO_5 := n0_
            have HB := n1_
            clear n0_ n1_
            have p104 : 0 ≤ (x6_1 : Int) := of_decide_eq_true (by first | (with_reducible assumption) | assumption)
            have q104 : x6_1 < (l1.length : Int) := of_decide_eq_true (by first | (with_reducible assumption) | assumption)
            obtain ⟨ad104, e104, hx104_0⟩ := Kd.at_int HR1.out x6_1 p104 q104
            have hw104_0 := hx104_0
            cases e104
            replace hx104_0 := (HB.out.cell (World.block_lt_of_cell? w _ hx104_0)).trans hx104_0
            replace p104 := eq_true p104
            replace q104 := eq_true q104
            refine start_ (n := 17) (S := fun w' => w'.cell? (ad104.add (x6_1).toNat) = some (.int .u8 (rd l1 x6_1))) (ds := []) #[false, false, false, false, false, false, false, false, false, false, false, false, false, false, false, false, false] (by kernel_rfl) rfl rfl (((HB.out.cell (World.block_lt_of_cell? w _ hw104_0)).trans hw104_0)) (fun hHeld => ?_); refine with_tabW spec_Encrypt.tab5 spec_Encrypt.bits5 (fun HT_ HW_ => ?_)
            generalize wr.drew = w9 at HO_5 HB hx104_0 hHeld ⊢
            refine pure_ (i := 0) (N := some 14) (v := ?_) (a' := ?_) #[true, false, false, false, false, false, false, false, false, false, false, false, false, false, false, false, false] rfl rfl (any_of HT_.out (by kernel_rfl)) (fun _ _ _ h => h) (Or.inl ⟨by rfl, ?_⟩) ?_ ?_
            rotate_left
            · intro w'
              go_simp
              with_reducible rfl
            rotate_left
            · simp only [Act.put, List.setIfInBounds_toArray, List.set_cons_zero, List.set_cons_succ, i64_w, i32_w]
              rfl
            refine pure_ (i := 1) (N := some 15) (v := ?_) (a' := ?_) #[true, true, false, false, false, false, false, false, false, false, false, false, false, false, false, false, false] rfl rfl (any_of HT_.out (by kernel_rfl)) (fun _ _ _ h => h) (Or.inl ⟨by rfl, ?_⟩) ?_ ?_
            rotate_left
            · intro w'
              go_simp
              with_reducible rfl
            rotate_left
            · simp only [Act.put, List.setIfInBounds_toArray, List.set_cons_zero, List.set_cons_succ, i64_w, i32_w]
              rfl
            refine pure_ (i := 2) (N := some 16) (v := ?_) (a' := ?_) #[true, true, true, false, false, false, false, false, false, false, false, false, false, false, false, false, false] rfl rfl (any_of HT_.out (by kernel_rfl)) (fun _ _ _ h => h) (Or.inl ⟨by rfl, ?_⟩) ?_ ?_
            rotate_left
            · intro w'
              go_simp
              with_reducible rfl
            rotate_left
            · simp only [Act.put, List.setIfInBounds_toArray, List.set_cons_zero, List.set_cons_succ, i64_w, i32_w]
              rfl
            refine pure_ (i := 3) (N := some 17) (v := ?_) (a' := ?_) #[true, true, true, true, false, false, false, false, false, false, false, false, false, false, false, false, false] rfl rfl (any_of HT_.out (by kernel_rfl)) (fun _ _ _ h => h) (Or.inl ⟨by rfl, ?_⟩) ?_ ?_
            rotate_left
            · intro w'
              go_simp
              with_reducible rfl
            rotate_left
            · simp only [Act.put, List.setIfInBounds_toArray, List.set_cons_zero, List.set_cons_succ, i64_w, i32_w]
              rfl
            refine pure_ (i := 6) (N := some 20) (v := ?_) (a' := ?_) #[true, true, true, true, false, false, true, false, false, false, false, false, false, false, false, false, false] rfl rfl (any_of HT_.out (by kernel_rfl)) (fun _ _ _ h => h) (Or.inl ⟨by rfl, ?_⟩) ?_ ?_
            rotate_left
            · intro w'
              go_simp
              with_reducible rfl
            rotate_left
            · simp only [Act.put, List.setIfInBounds_toArray, List.set_cons_zero, List.set_cons_succ, i64_w, i32_w]
              rfl
            refine pure_ (i := 7) (N := some 21) (v := ?_) (a' := ?_) #[true, true, true, true, false, false, true, true, false, false, false, false, false, false, false, false, false] rfl rfl (any_of HT_.out (by kernel_rfl)) (fun _ _ _ h => h) (Or.inl ⟨by rfl, ?_⟩) ?_ ?_
            rotate_left
            · intro w'
              go_simp
              with_reducible rfl
            rotate_left
            · simp only [Act.put, List.setIfInBounds_toArray, List.set_cons_zero, List.set_cons_succ, i64_w, i32_w]
              rfl
            refine take_ (i := 4) (N := some 18) (v := ?_) (a' := ?_) #[true, true, true, true, true, false, true, true, false, false, false, false, false, false, false, false, false] rfl rfl (take_ofW HT_.out HW_.out (by kernel_rfl)) (fun _ _ _ h => h) (Or.inl ⟨by rfl, ?_⟩) hHeld ?_ ?_
            rotate_left
            · intro w' s0
              go_simp
              with_reducible rfl
            rotate_left
            · simp only [Act.put, List.setIfInBounds_toArray, List.set_cons_zero, List.set_cons_succ, i64_w, i32_w]
              rfl
            refine pure_ (i := 5) (N := some 19) (v := ?_) (a' := ?_) #[true, true, true, true, true, true, true, true, false, false, false, false, false, false, false, false, false] rfl rfl (any_of HT_.out (by kernel_rfl)) (fun _ _ _ h => h) (Or.inl ⟨by rfl, ?_⟩) ?_ ?_
            rotate_left
            · intro w'
              go_simp
              with_reducible rfl
            rotate_left
            · simp only [Act.put, List.setIfInBounds_toArray, List.set_cons_zero, List.set_cons_succ, i64_w, i32_w]
              rfl
            refine one_ (i := 8) (N := some 22) #[true, true, true, true, true, true, true, true, true, false, false, false, false, false, false, false, false] rfl rfl (one_of HT_.out (by kernel_rfl)) (by decide) (fun K hK => ?_)
            refine Kd.R_lit_step (Kd.int .i64) _ 3 ?hg (N := 22) ?hd (xs := ([x6_1] : List Int)) (inner := [.int .i64 x6_1]) (ok := fun _ => True) (okp := fun _ => True) ?hr ?hp (fun _ hk => hk) trivial (Below.refl _ _) (Nat.le_refl _) (by simp) ?_; (case hd => rfl); (case hg => rfl); (case hr => first | (go_simp; done) | (go_simp; rfl)); (case hp => exact (Reps.one (show Kd.M (Kd.int .i64) _ _ _ x6_1 [.int .i64 x6_1] from rfl) (Reps.none _ _)))
            intro v106 w10 ho11 hb hg_ hnew_
            clear hg_ hnew_
            (first | rw [← Ny105.out] at ho11 | (simp only [Int.reduceToNat] at ho11; rw [← Ny105.out] at ho11))
            have n0_ := Xam (Kd.R_below (by (with_reducible repeat (first | apply Xra | apply Xrn | apply Xrd)); exact HO_5.out) hb)
            have n1_ := Xam (Kd.R_lower ho11 (Xbs (by repeat (first | (with_reducible first | exact HB.out | apply Xba | apply Xbn | apply Xbd) | exact HB.out))))
            have n2_ := Xam (Xbt (by repeat (first | (with_reducible first | exact HB.out | apply Xba | apply Xbn | apply Xbd) | exact HB.out)) hb)
            clear HO_5
            clear HB
            have HO_5 := n0_
            have HO107 := n1_
            have HB := n2_
            clear n0_ n1_ n2_
            clear hb ho11
            obtain ⟨Ao12, co12, eo12⟩ := Kd.R_slice HO107.out
            (first | subst eo12 | (injection eo12 with f1_ f2_ f3_; have f4_ := f1_.symm; have f5_ := f3_.symm; clear f1_ f2_ f3_; subst f4_; subst f5_))
            refine hK.out _ _ (((HB.out.cell (World.block_lt_of_cell? w _ hw104_0)).trans hw104_0)) (fun hHeld => ?_)
            clear hK K
            refine norm_ (a' := ?_) ?_ ?_
            rotate_left
            · show Act.put _ (some 22) _ = _
              simp only [Act.put, List.setIfInBounds_toArray, List.set_cons_zero, List.set_cons_succ, i64_w, i32_w]
              rfl
            refine one_ (i := 9) (N := some 23) #[true, true, true, true, true, true, true, true, true, true, false, false, false, false, false, false, false] rfl rfl (one_of HT_.out (by kernel_rfl)) (by decide) (fun K hK => ?_)
            refine goes_ Try.func200 (by kernel_rfl) rfl #[.int .i64 a0, .slice Ao12 y105.length co12] (by rfl) rfl rfl (by (try simp only [List.map_toArray, List.map_cons, List.map_nil]); first | done | rfl | (simp only [List.length_drop, List.length_take]; rfl)) ?_
            with_reducible refine (spec_KeyedHash.calls k1 a0 _ _ y105 t108 _ ?side1 ?side2 A7.out).mono ?_
            (case side1 => repeat (first | exact (Kd.R_reads' HO107.out).2.2 | (with_reducible refine Xca ?_ _) | (with_reducible refine Xcn ?_ _) | (with_reducible refine Xcd ?_)))
            (case side2 => exact (Kd.R_reads' HO107.out).2.1)
            rintro e w13 ⟨rfl, hb⟩
            refine ⟨_, rfl, ?_⟩
            have n0_ := Xam (Kd.R_below (by (with_reducible repeat (first | apply Xra | apply Xrn | apply Xrd)); exact HO_5.out) hb)
            have n1_ := Xam (Kd.R_below (by (with_reducible repeat (first | apply Xra | apply Xrn | apply Xrd)); exact HO107.out) hb)
            have n2_ := Xam (Xbt (by repeat (first | (with_reducible first | exact HB.out | apply Xba | apply Xbn | apply Xbd) | exact HB.out)) hb)
            clear HO_5
            clear HO107
            clear HB
            have HO_5 := n0_
            have HO107 := n1_
            have HB := n2_
            clear n0_ n1_ n2_
            (try clear hb)
            (try clear hb2)
            (try clear hk)
            (try clear hi)
            refine hK.out _ _ (((HB.out.cell (World.block_lt_of_cell? w _ hw104_0)).trans hw104_0)) (fun hHeld => ?_)
            clear hK K
            refine norm_ (a' := ?_) ?_ ?_
            rotate_left
            · show Act.put _ (some 23) _ = _
              simp only [Act.put, List.setIfInBounds_toArray, List.set_cons_zero, List.set_cons_succ, i64_w, i32_w]
              rfl
            refine pure_ (i := 10) (N := some 24) (v := ?_) (a' := ?_) #[true, true, true, true, true, true, true, true, true, true, true, false, false, false, false, false, false] rfl rfl (any_of HT_.out (by kernel_rfl)) (fun _ _ _ h => h) (Or.inl ⟨by rfl, ?_⟩) ?_ ?_
            rotate_left
            · intro w'
              go_simp
              with_reducible rfl
            rotate_left
            · simp only [Act.put, List.setIfInBounds_toArray, List.set_cons_zero, List.set_cons_succ, i64_w, i32_w]
              rfl
            refine pure_ (i := 11) (N := some 25) (v := ?_) (a' := ?_) #[true, true, true, true, true, true, true, true, true, true, true, true, false, false, false, false, false] rfl rfl (any_of HT_.out (by kernel_rfl)) (fun _ _ _ h => h) (Or.inl ⟨by rfl, ?_⟩) ?_ ?_
            rotate_left
            · intro w'
              go_simp
              with_reducible rfl
            rotate_left
            · simp only [Act.put, List.setIfInBounds_toArray, List.set_cons_zero, List.set_cons_succ, i64_w, i32_w]
              rfl
            refine pure_ (i := 12) (N := some 26) (v := ?_) (a' := ?_) #[true, true, true, true, true, true, true, true, true, true, true, true, true, false, false, false, false] rfl rfl (any_of HT_.out (by kernel_rfl)) (fun _ _ _ h => h) (Or.inl ⟨by rfl, ?_⟩) ?_ ?_
            rotate_left
            · intro w'
              go_simp
              with_reducible rfl
            rotate_left
            · simp only [Act.put, List.setIfInBounds_toArray, List.set_cons_zero, List.set_cons_succ, i64_w, i32_w]
              rfl
            refine pure_ (i := 13) (N := some 27) (v := ?_) (a' := ?_) #[true, true, true, true, true, true, true, true, true, true, true, true, true, true, false, false, false] rfl rfl (any_of HT_.out (by kernel_rfl)) (fun _ _ _ h => h) (Or.inl ⟨by rfl, ?_⟩) ?_ ?_
            rotate_left
            · intro w'
              go_simp
              with_reducible rfl
            rotate_left
            · simp only [Act.put, List.setIfInBounds_toArray, List.set_cons_zero, List.set_cons_succ, i64_w, i32_w]
              rfl
            refine one_ (i := 14) (N := some 28) #[true, true, true, true, true, true, true, true, true, true, true, true, true, true, true, false, false] rfl rfl (one_of HT_.out (by kernel_rfl)) (by decide) (fun K hK => ?_)
            refine value_ (w1 := ?_) (v := ?_) (by rfl) rfl ?_ ?_
            rotate_left 2
            · go_simp
              constructor
              · rfl
              · rfl
            refine hK.out _ _ ((World.cell?_alloc_lt _ _ _ (World.block_lt_of_cell? _ _ (((HB.out.cell (World.block_lt_of_cell? w _ hw104_0)).trans hw104_0)))).trans (((HB.out.cell (World.block_lt_of_cell? w _ hw104_0)).trans hw104_0))) (fun hHeld => ?_)
            clear hK K
            refine norm_ (a' := ?_) ?_ ?_
            rotate_left
            · show Act.put _ (some 28) _ = _
              simp only [Act.put, List.setIfInBounds_toArray, List.set_cons_zero, List.set_cons_succ, i64_w, i32_w]
              rfl
            refine one_ (i := 15) (N := some 29) #[true, true, true, true, true, true, true, true, true, true, true, true, true, true, true, true, false] rfl rfl (one_of HT_.out (by kernel_rfl)) (by decide) (fun K hK => ?_)
            refine Kd.R_append_step (Kd.int .u8) (w0 := w) w.heap.size (by rfl) (.tmp 14) (.tmp 28) 25 5 (.int .u8 0) 1 rfl Try.underlying25 info5 rfl (by decide) (by omega) u5 x5_1 ((Int.tmod (wrap64 ((wrap64 (rd l1 x6_1)) + (Int.tmod t108 256))) 256) % 256) [.int .u8 ((Int.tmod (wrap64 ((wrap64 (rd l1 x6_1)) + (Int.tmod t108 256))) 256) % 256)] (fun _ => True) (fun _ => False) rfl rfl ?aP (fun _ hk => hk.elim) ?aF ?aO ?aB ?aS ?aL ?_
            (case aP => exact rfl)
            (case aB => exact (by repeat (first | (with_reducible first | exact HB.out | apply Xba | apply Xbn | apply Xbd) | exact HB.out)))
            (case aF => exact (fun _ _ => trivial))
            (case aO => exact (by (with_reducible repeat (first | apply Xra | apply Xrn | apply Xrd)); exact HO_5.out))
            (case aS => exact (Xbs (by repeat (first | (with_reducible first | exact HB.out | apply Xba | apply Xbn | apply Xbd) | exact HB.out))))
            (case aL => have := LMc8.out; omega)
            intro v110 w14 ho hb hg hat
            rw [← Ny109.out] at ho
            have n0_ := Xam (Kd.R_over' (by (with_reducible repeat (first | apply Xra | apply Xrn | apply Xrd)); exact HO107.out) (Kd.R_typed (by (with_reducible repeat (first | apply Xra | apply Xrn | apply Xrd)); exact HO_5.out)) (by decide) hg)
            have n1_ := Xam (hb)
            have n2_ := Xam (ho)
            clear HO107
            clear HB
            clear HO_5
            have HO107 := n0_
            have HB := n1_
            have HO111 := n2_
            clear n0_ n1_ n2_
            clear ho hb hg hat
            refine hK.out _ _ (((HB.out.cell (World.block_lt_of_cell? w _ hw104_0)).trans hw104_0)) (fun hHeld => ?_)
            clear hK K
            refine norm_ (a' := ?_) ?_ ?_
            rotate_left
            · show Act.put _ (some 29) _ = _
              simp only [Act.put, List.setIfInBounds_toArray, List.set_cons_zero, List.set_cons_succ, i64_w, i32_w]
              rfl
            refine pure_ (i := 16) (N := some 5) (v := ?_) (a' := ?_) #[true, true, true, true, true, true, true, true, true, true, true, true, true, true, true, true, true] rfl rfl (any_of HT_.out (by kernel_rfl)) (fun _ _ _ h => h) (Or.inl ⟨by rfl, ?_⟩) ?_ ?_
            rotate_left
            · intro w'
              go_simp
              with_reducible rfl
            rotate_left
            · simp only [Act.put, List.setIfInBounds_toArray, List.set_cons_zero, List.set_cons_succ, i64_w, i32_w]
              rfl
            refine done_ (done_of HT_.out (by kernel_rfl)) ?_
            try go_wp2
            go_roundg k1
            case measure => have := HK1.out; omega
            case rel => exact ⟨(y109), (wrap64 (x6_1 + 1)), (by first | rfl | (simp; done) | (simp [*]; done)), H', ⟨by have := HK1.out; omega⟩, ⟨by (with_reducible repeat (first | apply Xra | apply Xrn | apply Xrd)); exact HO111.out⟩, ⟨by repeat (first | (with_reducible first | exact HB.out | apply Xba | apply Xbn | apply Xbd) | exact HB.out)⟩⟩
          · rw [if_neg c8] at H
            exact absurd H (by simp)
        · rw [if_neg c6] at H
          exact absurd H (by simp)
      · rw [if_neg c5] at H
        have c5b0 : decide (x6_1 < (l1.length : Int)) = false := decide_eq_false c5
        clear c5
        obtain rfl := Option.some.inj H
        go_wp2
        go_ret
        exact ⟨_, by first | rfl | (simp [errW_none, errW_some] <;> rfl) | (simp [*, errW_none, errW_some] <;> rfl), by (with_reducible repeat (first | apply Xra | apply Xrn | apply Xrd)); exact HO_5.out, by repeat (first | (with_reducible first | exact HB.out | apply Xba | apply Xbn | apply Xbd) | exact HB.out)⟩

/-! ### spec_SealCell: function 193 -/
def spec_SealCell.j0 : Nat → Int → Int → Bool → Int → List Int → Option (List Int × Bool)
  | 0, _, _, _, _, _ => none
  | k + 1, x0, x1, x23, x102000, x102001 => if x23 = true then (some ((([] : List Int)), false)) else ((some (([(x102000) % 256, ((x102001.length : Int)) % 256] : List Int) : List Int)).bind fun y108 => (if y108.length + x102001.length < 140737488355328 then ((some (y108 ++ x102001 : List Int)).bind fun y111 => ((spec_KeyedHash.f k x0 (([61, x1] : List Int))).bind fun t117 => ((spec_StreamBytes.f k t117 18).bind fun t118 => (if 0 ≤ (x102001.length : Int) then (if (x102001.length : Int) ≤ (t118.length : Int) then ((some (t118.drop ((x102001.length : Int) : Int).toNat : List Int)).bind fun y121 => (if y111.length + y121.length < 140737488355328 then ((spec_l13Cipher.f k x0 x1).bind fun t128 => ((spec_Encrypt.f k t128 (y111 ++ y121)).bind fun t129 => ((spec_CellCheck.f k x0 x1 t129).bind fun t132 => ((some (([(t132) % 256, (t132 / 256) % 256, (t132 / 65536) % 256, (t132 / 16777216) % 256] : List Int) : List Int)).bind fun y133 => (if t129.length + y133.length < 140737488355328 then (some ((t129 ++ y133), true)) else (none)))))) else (none))) else (none)) else (none))))) else (none)))
def spec_SealCell.f (k : Nat) (a0 : Int) (a1 : Int) (a2_0 : Int) (l2_1 : List Int) : Option (List Int × Bool) := (spec_IsValidKey.f a0).bind fun t102 => (if t102 = true then ((spec_l1In.f a1 0 1000000000000).bind fun t103 => (if t103 = true then ((spec_IsValidPlain.f a2_0 l2_1).bind fun t104 => (spec_SealCell.j0 k a0 a1 (!t104) a2_0 l2_1)) else (spec_SealCell.j0 k a0 a1 true a2_0 l2_1))) else (spec_SealCell.j0 k a0 a1 true a2_0 l2_1))
theorem spec_SealCell.mono_l : ∀ k, (∀ y0 y1 y2 y3 y4, LeO (spec_SealCell.j0 k y0 y1 y2 y3 y4) (spec_SealCell.j0 (k + 1) y0 y1 y2 y3 y4))
  | 0 => fun _ _ _ _ _ r h => by simp [spec_SealCell.j0] at h
  | k + 1 => by
    have ih0 := spec_SealCell.mono_l k
    · intro y0 y1 y2 y3 y4
      unfold spec_SealCell.j0
      repeat' first
      | (with_reducible exact ih0 _ _ _ _ _)
      | (with_reducible exact spec_CellCheck.mono _ _ _ _)
      | (with_reducible exact spec_Encrypt.mono _ _ _)
      | (with_reducible exact spec_KeyedHash.mono _ _ _)
      | (with_reducible exact spec_StreamBytes.mono _ _ _)
      | (with_reducible exact spec_l13Cipher.mono _ _ _)
      | (with_reducible exact LeO.refl _)
      | (with_reducible exact LeO.none _)
      | (with_reducible refine LeO.ite ?_ ?_)
      | (with_reducible refine LeO.bind ?_ (fun _ => ?_))
      | exact ih0 _ _ _ _ _
      | exact spec_CellCheck.mono _ _ _ _
      | exact spec_Encrypt.mono _ _ _
      | exact spec_KeyedHash.mono _ _ _
      | exact spec_StreamBytes.mono _ _ _
      | exact spec_l13Cipher.mono _ _ _
      | exact LeO.none _
      | refine LeO.ite ?_ ?_
      | refine LeO.bind ?_ (fun _ => ?_)
theorem spec_SealCell.mono : ∀ a0 a1 a2 a3 k, LeO (spec_SealCell.f k a0 a1 a2 a3) (spec_SealCell.f (k + 1) a0 a1 a2 a3) := by
  intro a0 a1 a2 a3 k
  have ih0 := spec_SealCell.mono_l k
  unfold spec_SealCell.f
  repeat' first
      | (with_reducible exact ih0 _ _ _ _ _)
      | (with_reducible exact spec_CellCheck.mono _ _ _ _)
      | (with_reducible exact spec_Encrypt.mono _ _ _)
      | (with_reducible exact spec_KeyedHash.mono _ _ _)
      | (with_reducible exact spec_StreamBytes.mono _ _ _)
      | (with_reducible exact spec_l13Cipher.mono _ _ _)
      | (with_reducible exact LeO.refl _)
      | (with_reducible exact LeO.none _)
      | (with_reducible refine LeO.ite ?_ ?_)
      | (with_reducible refine LeO.bind ?_ (fun _ => ?_))
      | exact ih0 _ _ _ _ _
      | exact spec_CellCheck.mono _ _ _ _
      | exact spec_Encrypt.mono _ _ _
      | exact spec_KeyedHash.mono _ _ _
      | exact spec_StreamBytes.mono _ _ _
      | exact spec_l13Cipher.mono _ _ _
      | exact LeO.none _
      | refine LeO.ite ?_ ?_
      | refine LeO.bind ?_ (fun _ => ?_)
def spec_SealCell.T4 : Bool × List (List Nat × List Nat) := (true, [([], []), ([], []), ([], []), ([2], [2]), ([1, 3], [1, 3]), ([4, 4], [4]), ([], []), ([6], [6]), ([7], [7]), ([5, 8], [5, 8]), ([0, 9, 5], [0, 9]), ([10, 10, 0, 1, 2, 3, 4, 5, 6, 7, 8, 9, 10], [0, 10])])
def spec_SealCell.B4 : List Nat := [0, 0, 0, 4, 14, 30, 0, 64, 192, 510, 1023, 2047]
theorem spec_SealCell.tab4 : rtab .any (opsOf Try.f193 4) = spec_SealCell.T4 := by kernel_rfl
theorem spec_SealCell.bits4 : waitsOk spec_SealCell.T4.2 spec_SealCell.B4 = true := by kernel_rfl
set_option maxHeartbeats 8000000 in
set_option maxRecDepth 100000 in
theorem spec_SealCell.calls (k : Nat) (a0 : Int) (a1 : Int) (a2_0 : Int) (A2_1 : Option Addr) (c2_1 : Nat) (l2_1 : List Int) (r1 : List Int) (r2 : Bool) (w : World) (hr2_1 : Kd.C (Kd.int .u8) w A2_1 l2_1.length l2_1) (hc2_1 : l2_1.length ≤ c2_1) (h : spec_SealCell.f k a0 a1 a2_0 l2_1 = some (r1, r2)) :
    Calls Try.prog 193 #[.int .i64 a0, .int .i64 a1, .agg #[.int .i64 a2_0, .slice A2_1 l2_1.length c2_1]] w fun e w' => ∃ v0_ : Value, e = .returned (.tuple #[v0_, .bool r2]) ∧ Kd.R (Kd.int .u8) 5 w' w.heap.size (fun _ => True) v0_ r1 ∧ Below w.heap.size w w' := by
  have hu36 := Try.underlying36
  have HR2_1 := Xam hr2_1
  have HC2_1 := Xam hc2_1
  clear hr2_1 hc2_1
  have HB := Xam (Below.refl w.heap.size w)
  have H : ((spec_IsValidKey.f a0).bind fun t102 => (if t102 = true then ((spec_l1In.f a1 0 1000000000000).bind fun t103 => (if t103 = true then ((spec_IsValidPlain.f a2_0 l2_1).bind fun t104 => (spec_SealCell.j0 k a0 a1 (!t104) a2_0 l2_1)) else (spec_SealCell.j0 k a0 a1 true a2_0 l2_1))) else (spec_SealCell.j0 k a0 a1 true a2_0 l2_1))) = some (r1, r2) := h
  clear h
  have HC4 := Xam H
  clear H
  go_enter Try.func193, Try.ntmps193
  go_upto_region 1 with (first | ((with_reducible refine gate_dst (N := 5) rfl ?_); refine box_event ?hg (N := 5) ?hd (cs := #[.int .i64 a2_0, .slice A2_1 l2_1.length c2_1]) (t := 36) ?hr ?_; (case hd => rfl); (case hg => rfl); (case hr => first | (go_simp; done) | (go_simp; rfl)); intro gb101 hg w5 hbox hb; have n0_ := Xam (Xbt (by repeat (first | (with_reducible first | exact HB.out | apply Xba | apply Xbn | apply Xbd) | exact HB.out)) hb); have n1_ := Xam (hbox); have n2_ := Xam ((by rw [hg]; exact (Xbs (by repeat (first | (with_reducible first | exact HB.out | apply Xba | apply Xbn | apply Xbd) | exact HB.out))) : w.heap.size ≤ gb101)); have n3_ := Xam ((by rw [hg]; exact (Xbs (by repeat (first | (with_reducible first | exact HB.out | apply Xba | apply Xbn | apply Xbd) | exact HB.out))) : w.heap.size ≤ gb101)); clear HB; have HB := n0_; have BK101 := n1_; have GW101 := n2_; have GE101 := n3_; clear n0_ n1_ n2_ n3_; clear hb hbox hg))
  (try simp only [Act.put, List.setIfInBounds_toArray, List.set_cons_zero, List.set_cons_succ])
  go_cut [23] (fun v23 wc => ∃ (kq : Nat) (x23_3 : Bool), v23 = .bool x23_3 ∧ Aside0 (spec_SealCell.j0 kq a0 a1 x23_3 a2_0 l2_1 = some (r1, r2)) ∧ Aside0 (kq ≤ k) ∧ Aside0 (wc.heap[gb101]? = some (.cells #[.int .i64 a2_0, (.slice A2_1 l2_1.length c2_1)] 36 (0, 0))) ∧ Aside0 (Below w.heap.size w wc))
  case first =>
    have H := HC4.out
    clear HC4
    replace H := Option.bind_eq_some_iff.mp H
    obtain ⟨t102, A60, H⟩ := H
    replace H : (if t102 = true then ((spec_l1In.f a1 0 1000000000000).bind fun t103 => (if t103 = true then ((spec_IsValidPlain.f a2_0 l2_1).bind fun t104 => (spec_SealCell.j0 k a0 a1 (!t104) a2_0 l2_1)) else (spec_SealCell.j0 k a0 a1 true a2_0 l2_1))) else (spec_SealCell.j0 k a0 a1 true a2_0 l2_1)) = some (r1, r2) := H
    have A6 := Xam A60
    clear A60
    by_cases c7 : t102 = true
    · subst c7
      have H1 : ((spec_l1In.f a1 0 1000000000000).bind fun t103 => (if t103 = true then ((spec_IsValidPlain.f a2_0 l2_1).bind fun t104 => (spec_SealCell.j0 k a0 a1 (!t104) a2_0 l2_1)) else (spec_SealCell.j0 k a0 a1 true a2_0 l2_1))) = some (r1, r2) := by rw [if_pos rfl] at H; exact H
      clear H
      have H := H1
      clear H1
      replace H := Option.bind_eq_some_iff.mp H
      obtain ⟨t103, A80, H⟩ := H
      replace H : (if t103 = true then ((spec_IsValidPlain.f a2_0 l2_1).bind fun t104 => (spec_SealCell.j0 k a0 a1 (!t104) a2_0 l2_1)) else (spec_SealCell.j0 k a0 a1 true a2_0 l2_1)) = some (r1, r2) := H
      have A8 := Xam A80
      clear A80
      by_cases c9 : t103 = true
      · subst c9
        have H1 : ((spec_IsValidPlain.f a2_0 l2_1).bind fun t104 => (spec_SealCell.j0 k a0 a1 (!t104) a2_0 l2_1)) = some (r1, r2) := by rw [if_pos rfl] at H; exact H
        clear H
        have H := H1
        clear H1
        replace H := Option.bind_eq_some_iff.mp H
        obtain ⟨t104, A100, H⟩ := H
        replace H : (spec_SealCell.j0 k a0 a1 (!t104) a2_0 l2_1) = some (r1, r2) := H
        have A10 := Xam A100
        clear A100
        have H' := Xam H
        clear H
        go_wp2_with (first | ((with_reducible refine gate_callee (f := 201) rfl ?_); refine goesL_ (some 12) rfl rfl Try.func201 (by kernel_rfl) rfl #[.int .i64 a0] rfl (by (try simp only [List.map_toArray, List.map_cons, List.map_nil]); first | done | rfl | (simp only [List.length_drop, List.length_take]; rfl)) ?_; (with_reducible refine (spec_IsValidKey.calls a0 true _ A6.out).mono ?_); rintro e w' ⟨rfl, ⟨nd, rfl⟩⟩; refine ⟨_, rfl, ?_⟩) | (go_at_call 167; (with_reducible refine (spec_l1In.calls a1 0 1000000000000 true _ A8.out).mono ?_); rintro e w' ⟨rfl, ⟨nd, rfl⟩⟩; have hcz11_0 : w5.cell? ⟨gb101, 0, none⟩ = some (.int .i64 a2_0) := (Xbc BK101.out 0).trans rfl; have hcz11_1 : w5.cell? ⟨gb101, 1, none⟩ = some (.slice A2_1 l2_1.length c2_1) := (Xbc BK101.out 1).trans rfl; have hfz11_0 := Xbf BK101.out 0; have hfz11_1 := Xbf BK101.out 1) | (go_at_call 108; (with_reducible refine (spec_IsValidPlain.calls a2_0 _ _ l2_1 t104 _ ?side1 ?side2 A10.out).mono ?_); (case side1 => repeat (first | exact (Kd.C_below HR2_1.out (by repeat (first | (with_reducible first | exact HB.out | apply Xba | apply Xbn | apply Xbd | refine Xbe ?_ GE101.out) | exact HB.out))) | (with_reducible refine Xca ?_ _) | (with_reducible refine Xcn ?_ _) | (with_reducible refine Xcd ?_))); (case side2 => exact HC2_1.out); rintro e w12 ⟨rfl, hb⟩; have n0_ := Xam (Xbb (g := gb101) (o := .cells #[.int .i64 a2_0, .slice A2_1 l2_1.length c2_1] 36 (0, 0)) (by (with_reducible repeat (first | refine Xkn ?_ _ | refine Xkd ?_ | refine Xka ?_ _)); exact BK101.out) hb); have n1_ := Xam (Xbt (by repeat (first | (with_reducible first | exact HB.out | apply Xba | apply Xbn | apply Xbd | refine Xbe ?_ GE101.out) | exact HB.out)) hb); clear BK101; clear HB; have BK101 := n0_; have HB := n1_; clear n0_ n1_; (try clear hb); (try clear hb2); (try clear hk); (try clear hi)))
        go_meet
        case rel => exact ⟨_, (!t104), (by first | rfl | (simp; done) | (simp [*]; done)), H', ⟨by first | omega | exact Nat.le_refl _⟩, ⟨by (with_reducible repeat (first | refine Xkn ?_ _ | refine Xkd ?_ | refine Xka ?_ _)); exact BK101.out⟩, ⟨by repeat (first | (with_reducible first | exact HB.out | apply Xba | apply Xbn | apply Xbd | refine Xbe ?_ GE101.out) | exact HB.out)⟩⟩
      · replace c9 := Bool.eq_false_iff.mpr c9
        subst c9
        have H1 : (spec_SealCell.j0 k a0 a1 true a2_0 l2_1) = some (r1, r2) := by rw [if_neg (show ¬ (false = true) by decide)] at H; exact H
        clear H
        have H := H1
        clear H1
        have H' := Xam H
        clear H
        go_wp2_with (first | ((with_reducible refine gate_callee (f := 201) rfl ?_); refine goesL_ (some 12) rfl rfl Try.func201 (by kernel_rfl) rfl #[.int .i64 a0] rfl (by (try simp only [List.map_toArray, List.map_cons, List.map_nil]); first | done | rfl | (simp only [List.length_drop, List.length_take]; rfl)) ?_; (with_reducible refine (spec_IsValidKey.calls a0 true _ A6.out).mono ?_); rintro e w' ⟨rfl, ⟨nd, rfl⟩⟩; refine ⟨_, rfl, ?_⟩) | (go_at_call 167; (with_reducible refine (spec_l1In.calls a1 0 1000000000000 false _ A8.out).mono ?_); rintro e w' ⟨rfl, ⟨nd, rfl⟩⟩))
        go_meet
        case rel => exact ⟨_, (true), (by first | rfl | (simp; done) | (simp [*]; done)), H', ⟨by first | omega | exact Nat.le_refl _⟩, ⟨by (with_reducible repeat (first | refine Xkn ?_ _ | refine Xkd ?_ | refine Xka ?_ _)); exact BK101.out⟩, ⟨by repeat (first | (with_reducible first | exact HB.out | apply Xba | apply Xbn | apply Xbd | refine Xbe ?_ GE101.out) | exact HB.out)⟩⟩
    · replace c7 := Bool.eq_false_iff.mpr c7
      subst c7
      have H1 : (spec_SealCell.j0 k a0 a1 true a2_0 l2_1) = some (r1, r2) := by rw [if_neg (show ¬ (false = true) by decide)] at H; exact H
      clear H
      have H := H1
      clear H1
      have H' := Xam H
      clear H
      go_wp2_with (first | ((with_reducible refine gate_callee (f := 201) rfl ?_); refine goesL_ (some 12) rfl rfl Try.func201 (by kernel_rfl) rfl #[.int .i64 a0] rfl (by (try simp only [List.map_toArray, List.map_cons, List.map_nil]); first | done | rfl | (simp only [List.length_drop, List.length_take]; rfl)) ?_; (with_reducible refine (spec_IsValidKey.calls a0 false _ A6.out).mono ?_); rintro e w' ⟨rfl, ⟨nd, rfl⟩⟩; refine ⟨_, rfl, ?_⟩))
      go_meet
      case rel => exact ⟨_, (true), (by first | rfl | (simp; done) | (simp [*]; done)), H', ⟨by first | omega | exact Nat.le_refl _⟩, ⟨by (with_reducible repeat (first | refine Xkn ?_ _ | refine Xkd ?_ | refine Xka ?_ _)); exact BK101.out⟩, ⟨by repeat (first | (with_reducible first | exact HB.out | apply Xba | apply Xbn | apply Xbd | refine Xbe ?_ GE101.out) | exact HB.out)⟩⟩
  case rest =>
    clear HC4
    try clear c1
    try clear c2
    try clear p2
    try clear c7
    try clear c9
    try clear hcz11_0
    try clear hcz11_1
    try clear hfz11_0
    try clear hfz11_1
    obtain ⟨kq, x23_3, rfl, HA, HJ3, BK101, HB⟩ := hcut
    cases kq with
    | zero => exact absurd HA.out (by simp [spec_SealCell.j0])
    | succ kj3 =>
      have H := HA.out
      clear HA
      simp only [spec_SealCell.j0] at H
      by_cases c13 : x23_3 = true
      · subst c13
        have H1 : (some ((([] : List Int)), false)) = some (r1, r2) := by rw [if_pos rfl] at H; exact H
        clear H
        have H := H1
        clear H1
        obtain ⟨y105, hy105⟩ : ∃ y_ : List Int, y_ = (([] : List Int)) := ⟨_, rfl⟩
        replace H : (some (y105, false)) = some (r1, r2) := by first | (rw [hy105]; with_reducible exact H) | (have H2_ := (Option.bind_some _ _).symm.trans H; rw [hy105]; with_reducible exact H2_) | (have H2_ := (Option.bind_some _ _).symm.trans H; with_reducible exact H2_) | with_reducible exact H | (rw [hy105]; exact H) | exact H
        have Ny105 := Xam hy105
        clear hy105
        simp only [Option.some.injEq, Prod.mk.injEq] at H
        obtain ⟨rfl, rfl⟩ := H
        go_wp2_with (first | ((with_reducible refine gate_dst (N := 24) rfl ?_); refine Kd.R_lit (Kd.int .u8) _ 5 ?hg (N := 24) ?hd (xs := ([] : List Int)) (inner := []) (ok := fun _ => True) (okp := fun _ => True) ?hr ?hp (fun _ hk => hk) trivial (Below.refl _ _) (Nat.le_refl _) (by simp) ?_; (case hd => rfl); (case hg => rfl); (case hr => first | (go_simp; done) | (go_simp; rfl)); (case hp => exact (Reps.none _ _)); intro v106 w14 ho15 hb hg_ hnew_; clear hg_ hnew_; (first | rw [← Ny105.out] at ho15 | (simp only [Int.reduceToNat] at ho15; rw [← Ny105.out] at ho15)); have n0_ := Xam (Kd.R_lower ho15 (Xbs (by repeat (first | (with_reducible first | exact HB.out | apply Xba | apply Xbn | apply Xbd | refine Xbe ?_ GE101.out) | exact HB.out)))); have n1_ := Xam (Xbb (g := gb101) (o := .cells #[.int .i64 a2_0, .slice A2_1 l2_1.length c2_1] 36 (0, 0)) (by (with_reducible repeat (first | refine Xkn ?_ _ | refine Xkd ?_ | refine Xka ?_ _)); exact BK101.out) hb); have n2_ := Xam (Xbt (by repeat (first | (with_reducible first | exact HB.out | apply Xba | apply Xbn | apply Xbd | refine Xbe ?_ GE101.out) | exact HB.out)) hb); clear BK101; clear HB; have HO107 := n0_; have BK101 := n1_; have HB := n2_; clear n0_ n1_ n2_; clear hb ho15))
        go_ret2
        exact ⟨_, by first | rfl | (simp [errW_none, errW_some] <;> rfl) | (simp [*, errW_none, errW_some] <;> rfl), by (with_reducible repeat (first | apply Xra | apply Xrn | apply Xrd)); exact HO107.out, by repeat (first | (with_reducible first | exact HB.out | apply Xba | apply Xbn | apply Xbd | refine Xbe ?_ GE101.out) | exact HB.out)⟩
      · replace c13 := Bool.eq_false_iff.mpr c13
        subst c13
        have H1 : ((some (([(a2_0) % 256, ((l2_1.length : Int)) % 256] : List Int) : List Int)).bind fun y108 => (if y108.length + l2_1.length < 140737488355328 then ((some (y108 ++ l2_1 : List Int)).bind fun y111 => ((spec_KeyedHash.f kj3 a0 (([61, a1] : List Int))).bind fun t117 => ((spec_StreamBytes.f kj3 t117 18).bind fun t118 => (if 0 ≤ (l2_1.length : Int) then (if (l2_1.length : Int) ≤ (t118.length : Int) then ((some (t118.drop ((l2_1.length : Int) : Int).toNat : List Int)).bind fun y121 => (if y111.length + y121.length < 140737488355328 then ((spec_l13Cipher.f kj3 a0 a1).bind fun t128 => ((spec_Encrypt.f kj3 t128 (y111 ++ y121)).bind fun t129 => ((spec_CellCheck.f kj3 a0 a1 t129).bind fun t132 => ((some (([(t132) % 256, (t132 / 256) % 256, (t132 / 65536) % 256, (t132 / 16777216) % 256] : List Int) : List Int)).bind fun y133 => (if t129.length + y133.length < 140737488355328 then (some ((t129 ++ y133), true)) else (none)))))) else (none))) else (none)) else (none))))) else (none))) = some (r1, r2) := by rw [if_neg (show ¬ (false = true) by decide)] at H; exact H
        clear H
        have H := H1
        clear H1
        obtain ⟨y108, hy108⟩ : ∃ y_ : List Int, y_ = (([(a2_0) % 256, ((l2_1.length : Int)) % 256] : List Int)) := ⟨_, rfl⟩
        replace H : (if y108.length + l2_1.length < 140737488355328 then ((some (y108 ++ l2_1 : List Int)).bind fun y111 => ((spec_KeyedHash.f kj3 a0 (([61, a1] : List Int))).bind fun t117 => ((spec_StreamBytes.f kj3 t117 18).bind fun t118 => (if 0 ≤ (l2_1.length : Int) then (if (l2_1.length : Int) ≤ (t118.length : Int) then ((some (t118.drop ((l2_1.length : Int) : Int).toNat : List Int)).bind fun y121 => (if y111.length + y121.length < 140737488355328 then ((spec_l13Cipher.f kj3 a0 a1).bind fun t128 => ((spec_Encrypt.f kj3 t128 (y111 ++ y121)).bind fun t129 => ((spec_CellCheck.f kj3 a0 a1 t129).bind fun t132 => ((some (([(t132) % 256, (t132 / 256) % 256, (t132 / 65536) % 256, (t132 / 16777216) % 256] : List Int) : List Int)).bind fun y133 => (if t129.length + y133.length < 140737488355328 then (some ((t129 ++ y133), true)) else (none)))))) else (none))) else (none)) else (none))))) else (none)) = some (r1, r2) := by first | (rw [hy108]; with_reducible exact H) | (have H2_ := (Option.bind_some _ _).symm.trans H; rw [hy108]; with_reducible exact H2_) | (have H2_ := (Option.bind_some _ _).symm.trans H; with_reducible exact H2_) | with_reducible exact H | (rw [hy108]; exact H) | exact H
        have Ny108 := Xam hy108
        clear hy108
        by_cases c16 : y108.length + l2_1.length < 140737488355328
        · rw [if_pos c16] at H
          have LMc16 := Xam c16
          clear c16
          obtain ⟨y111, hy111⟩ : ∃ y_ : List Int, y_ = (y108 ++ l2_1) := ⟨_, rfl⟩
          replace H : ((spec_KeyedHash.f kj3 a0 (([61, a1] : List Int))).bind fun t117 => ((spec_StreamBytes.f kj3 t117 18).bind fun t118 => (if 0 ≤ (l2_1.length : Int) then (if (l2_1.length : Int) ≤ (t118.length : Int) then ((some (t118.drop ((l2_1.length : Int) : Int).toNat : List Int)).bind fun y121 => (if y111.length + y121.length < 140737488355328 then ((spec_l13Cipher.f kj3 a0 a1).bind fun t128 => ((spec_Encrypt.f kj3 t128 (y111 ++ y121)).bind fun t129 => ((spec_CellCheck.f kj3 a0 a1 t129).bind fun t132 => ((some (([(t132) % 256, (t132 / 256) % 256, (t132 / 65536) % 256, (t132 / 16777216) % 256] : List Int) : List Int)).bind fun y133 => (if t129.length + y133.length < 140737488355328 then (some ((t129 ++ y133), true)) else (none)))))) else (none))) else (none)) else (none)))) = some (r1, r2) := by first | (rw [hy111]; with_reducible exact H) | (have H2_ := (Option.bind_some _ _).symm.trans H; rw [hy111]; with_reducible exact H2_) | (have H2_ := (Option.bind_some _ _).symm.trans H; with_reducible exact H2_) | with_reducible exact H | (rw [hy111]; exact H) | exact H
          have Ny111 := Xam hy111
          clear hy111
          obtain ⟨y114, hy114⟩ : ∃ y_ : List Int, y_ = (([61, a1] : List Int)) := ⟨_, rfl⟩
          replace H : ((spec_KeyedHash.f kj3 a0 y114).bind fun t117 => ((spec_StreamBytes.f kj3 t117 18).bind fun t118 => (if 0 ≤ (l2_1.length : Int) then (if (l2_1.length : Int) ≤ (t118.length : Int) then ((some (t118.drop ((l2_1.length : Int) : Int).toNat : List Int)).bind fun y121 => (if y111.length + y121.length < 140737488355328 then ((spec_l13Cipher.f kj3 a0 a1).bind fun t128 => ((spec_Encrypt.f kj3 t128 (y111 ++ y121)).bind fun t129 => ((spec_CellCheck.f kj3 a0 a1 t129).bind fun t132 => ((some (([(t132) % 256, (t132 / 256) % 256, (t132 / 65536) % 256, (t132 / 16777216) % 256] : List Int) : List Int)).bind fun y133 => (if t129.length + y133.length < 140737488355328 then (some ((t129 ++ y133), true)) else (none)))))) else (none))) else (none)) else (none)))) = some (r1, r2) := by first | (rw [hy114]; with_reducible exact H) | (have H2_ := (Option.bind_some _ _).symm.trans H; rw [hy114]; with_reducible exact H2_) | (have H2_ := (Option.bind_some _ _).symm.trans H; with_reducible exact H2_) | with_reducible exact H | (rw [hy114]; exact H) | exact H
          have Ny114 := Xam hy114
          clear hy114
          replace H := Option.bind_eq_some_iff.mp H
          obtain ⟨t117, A170, H⟩ := H
          replace H : ((spec_StreamBytes.f kj3 t117 18).bind fun t118 => (if 0 ≤ (l2_1.length : Int) then (if (l2_1.length : Int) ≤ (t118.length : Int) then ((some (t118.drop ((l2_1.length : Int) : Int).toNat : List Int)).bind fun y121 => (if y111.length + y121.length < 140737488355328 then ((spec_l13Cipher.f kj3 a0 a1).bind fun t128 => ((spec_Encrypt.f kj3 t128 (y111 ++ y121)).bind fun t129 => ((spec_CellCheck.f kj3 a0 a1 t129).bind fun t132 => ((some (([(t132) % 256, (t132 / 256) % 256, (t132 / 65536) % 256, (t132 / 16777216) % 256] : List Int) : List Int)).bind fun y133 => (if t129.length + y133.length < 140737488355328 then (some ((t129 ++ y133), true)) else (none)))))) else (none))) else (none)) else (none))) = some (r1, r2) := H
          have A17 := Xam A170
          clear A170
          replace H := Option.bind_eq_some_iff.mp H
          obtain ⟨t118, A180, H⟩ := H
          replace H : (if 0 ≤ (l2_1.length : Int) then (if (l2_1.length : Int) ≤ (t118.length : Int) then ((some (t118.drop ((l2_1.length : Int) : Int).toNat : List Int)).bind fun y121 => (if y111.length + y121.length < 140737488355328 then ((spec_l13Cipher.f kj3 a0 a1).bind fun t128 => ((spec_Encrypt.f kj3 t128 (y111 ++ y121)).bind fun t129 => ((spec_CellCheck.f kj3 a0 a1 t129).bind fun t132 => ((some (([(t132) % 256, (t132 / 256) % 256, (t132 / 65536) % 256, (t132 / 16777216) % 256] : List Int) : List Int)).bind fun y133 => (if t129.length + y133.length < 140737488355328 then (some ((t129 ++ y133), true)) else (none)))))) else (none))) else (none)) else (none)) = some (r1, r2) := H
          have A18 := Xam A180
          clear A180
          by_cases c19 : 0 ≤ (l2_1.length : Int)
          · rw [if_pos c19] at H
            have c19b0 := eq_true c19
            have c19b1 : decide (0 ≤ (l2_1.length : Int)) = true := decide_eq_true c19
            clear c19
            by_cases c20 : (l2_1.length : Int) ≤ (t118.length : Int)
            · rw [if_pos c20] at H
              have c20b0 := eq_true c20
              have c20b1 : decide ((l2_1.length : Int) ≤ (t118.length : Int)) = true := decide_eq_true c20
              clear c20
              obtain ⟨y121, hy121⟩ : ∃ y_ : List Int, y_ = (t118.drop ((l2_1.length : Int) : Int).toNat) := ⟨_, rfl⟩
              replace H : (if y111.length + y121.length < 140737488355328 then ((spec_l13Cipher.f kj3 a0 a1).bind fun t128 => ((spec_Encrypt.f kj3 t128 (y111 ++ y121)).bind fun t129 => ((spec_CellCheck.f kj3 a0 a1 t129).bind fun t132 => ((some (([(t132) % 256, (t132 / 256) % 256, (t132 / 65536) % 256, (t132 / 16777216) % 256] : List Int) : List Int)).bind fun y133 => (if t129.length + y133.length < 140737488355328 then (some ((t129 ++ y133), true)) else (none)))))) else (none)) = some (r1, r2) := by first | (rw [hy121]; with_reducible exact H) | (have H2_ := (Option.bind_some _ _).symm.trans H; rw [hy121]; with_reducible exact H2_) | (have H2_ := (Option.bind_some _ _).symm.trans H; with_reducible exact H2_) | with_reducible exact H | (rw [hy121]; exact H) | exact H
              have Ny121 := Xam hy121
              clear hy121
              by_cases c21 : y111.length + y121.length < 140737488355328
              · rw [if_pos c21] at H
                have LMc21 := Xam c21
                clear c21
                obtain ⟨y125, hy125⟩ : ∃ y_ : List Int, y_ = (y111 ++ y121) := ⟨_, rfl⟩
                replace H : ((spec_l13Cipher.f kj3 a0 a1).bind fun t128 => ((spec_Encrypt.f kj3 t128 y125).bind fun t129 => ((spec_CellCheck.f kj3 a0 a1 t129).bind fun t132 => ((some (([(t132) % 256, (t132 / 256) % 256, (t132 / 65536) % 256, (t132 / 16777216) % 256] : List Int) : List Int)).bind fun y133 => (if t129.length + y133.length < 140737488355328 then (some ((t129 ++ y133), true)) else (none)))))) = some (r1, r2) := by first | (rw [hy125]; with_reducible exact H) | (have H2_ := (Option.bind_some _ _).symm.trans H; rw [hy125]; with_reducible exact H2_) | (have H2_ := (Option.bind_some _ _).symm.trans H; with_reducible exact H2_) | with_reducible exact H | (rw [hy125]; exact H) | exact H
                have Ny125 := Xam hy125
                clear hy125
                replace H := Option.bind_eq_some_iff.mp H
                obtain ⟨t128, A220, H⟩ := H
                replace H : ((spec_Encrypt.f kj3 t128 y125).bind fun t129 => ((spec_CellCheck.f kj3 a0 a1 t129).bind fun t132 => ((some (([(t132) % 256, (t132 / 256) % 256, (t132 / 65536) % 256, (t132 / 16777216) % 256] : List Int) : List Int)).bind fun y133 => (if t129.length + y133.length < 140737488355328 then (some ((t129 ++ y133), true)) else (none))))) = some (r1, r2) := H
                have A22 := Xam A220
                clear A220
                replace H := Option.bind_eq_some_iff.mp H
                obtain ⟨t129, A230, H⟩ := H
                replace H : ((spec_CellCheck.f kj3 a0 a1 t129).bind fun t132 => ((some (([(t132) % 256, (t132 / 256) % 256, (t132 / 65536) % 256, (t132 / 16777216) % 256] : List Int) : List Int)).bind fun y133 => (if t129.length + y133.length < 140737488355328 then (some ((t129 ++ y133), true)) else (none)))) = some (r1, r2) := H
                have A23 := Xam A230
                clear A230
                replace H := Option.bind_eq_some_iff.mp H
                obtain ⟨t132, A240, H⟩ := H
                replace H : ((some (([(t132) % 256, (t132 / 256) % 256, (t132 / 65536) % 256, (t132 / 16777216) % 256] : List Int) : List Int)).bind fun y133 => (if t129.length + y133.length < 140737488355328 then (some ((t129 ++ y133), true)) else (none))) = some (r1, r2) := H
                have A24 := Xam A240
                clear A240
                obtain ⟨y133, hy133⟩ : ∃ y_ : List Int, y_ = (([(t132) % 256, (t132 / 256) % 256, (t132 / 65536) % 256, (t132 / 16777216) % 256] : List Int)) := ⟨_, rfl⟩
                replace H : (if t129.length + y133.length < 140737488355328 then (some ((t129 ++ y133), true)) else (none)) = some (r1, r2) := by first | (rw [hy133]; with_reducible exact H) | (have H2_ := (Option.bind_some _ _).symm.trans H; rw [hy133]; with_reducible exact H2_) | (have H2_ := (Option.bind_some _ _).symm.trans H; with_reducible exact H2_) | with_reducible exact H | (rw [hy133]; exact H) | exact H
                have Ny133 := Xam hy133
                clear hy133
                by_cases c25 : t129.length + y133.length < 140737488355328
                · rw [if_pos c25] at H
                  have LMc25 := Xam c25
                  clear c25
                  obtain ⟨y136, hy136⟩ : ∃ y_ : List Int, y_ = (t129 ++ y133) := ⟨_, rfl⟩
                  replace H : (some (y136, true)) = some (r1, r2) := by first | (rw [hy136]; with_reducible exact H) | (have H2_ := (Option.bind_some _ _).symm.trans H; rw [hy136]; with_reducible exact H2_) | (have H2_ := (Option.bind_some _ _).symm.trans H; with_reducible exact H2_) | with_reducible exact H | (rw [hy136]; exact H) | exact H
                  have Ny136 := Xam hy136
                  clear hy136
                  simp only [Option.some.injEq, Prod.mk.injEq] at H
                  obtain ⟨rfl, rfl⟩ := H
                  have hcz26_0 : wc.cell? ⟨gb101, 0, none⟩ = some (.int .i64 a2_0) := (Xbc BK101.out 0).trans rfl
                  have hcz26_1 : wc.cell? ⟨gb101, 1, none⟩ = some (.slice A2_1 l2_1.length c2_1) := (Xbc BK101.out 1).trans rfl
                  have hfz26_0 := Xbf BK101.out 0
                  have hfz26_1 := Xbf BK101.out 1
                  try go_wp2_with (first | ((with_reducible refine gate_dst (N := 32) rfl ?_); refine Kd.R_lit (Kd.int .u8) _ 5 ?hg (N := 32) ?hd (xs := ([(a2_0) % 256, ((l2_1.length : Int)) % 256] : List Int)) (inner := [.int .u8 ((a2_0) % 256), .int .u8 (((l2_1.length : Int)) % 256)]) (ok := fun _ => True) (okp := fun _ => True) ?hr ?hp (fun _ hk => hk) trivial (Below.refl _ _) (Nat.le_refl _) (by simp) ?_; (case hd => rfl); (case hg => rfl); (case hr => first | (go_simp; done) | (go_simp; rfl)); (case hp => exact (Reps.one (show Kd.M (Kd.int .u8) _ _ _ ((a2_0) % 256) [.int .u8 ((a2_0) % 256)] from rfl) (Reps.one (show Kd.M (Kd.int .u8) _ _ _ (((l2_1.length : Int)) % 256) [.int .u8 (((l2_1.length : Int)) % 256)] from rfl) (Reps.none _ _)))); intro v109 w27 ho28 hb hg_ hnew_; clear hg_ hnew_; (first | rw [← Ny108.out] at ho28 | (simp only [Int.reduceToNat] at ho28; rw [← Ny108.out] at ho28)); have n0_ := Xam (Kd.R_lower ho28 (Xbs (by repeat (first | (with_reducible first | exact HB.out | apply Xba | apply Xbn | apply Xbd | refine Xbe ?_ GE101.out) | exact HB.out)))); have n1_ := Xam (Xbb (g := gb101) (o := .cells #[.int .i64 a2_0, .slice A2_1 l2_1.length c2_1] 36 (0, 0)) (by (with_reducible repeat (first | refine Xkn ?_ _ | refine Xkd ?_ | refine Xka ?_ _)); exact BK101.out) hb); have n2_ := Xam (Xbt (by repeat (first | (with_reducible first | exact HB.out | apply Xba | apply Xbn | apply Xbd | refine Xbe ?_ GE101.out) | exact HB.out)) hb); clear BK101; clear HB; have HO110 := n0_; have BK101 := n1_; have HB := n2_; clear n0_ n1_ n2_; clear hb ho28; have hcz29_0 : w27.cell? ⟨gb101, 0, none⟩ = some (.int .i64 a2_0) := (Xbc BK101.out 0).trans rfl; have hcz29_1 : w27.cell? ⟨gb101, 1, none⟩ = some (.slice A2_1 l2_1.length c2_1) := (Xbc BK101.out 1).trans rfl; have hfz29_0 := Xbf BK101.out 0; have hfz29_1 := Xbf BK101.out 1) | ((with_reducible refine gate_builtin (b := .append) (xs := #[.tmp 32, .tmp 34]) rfl ?_); at_builtin; refine Kd.R_append_rows (Kd.int .u8) (w0 := w) w.heap.size rfl (.tmp 32) (.tmp 34) 25 5 (.int .u8 0) 1 rfl Try.underlying25 info5 rfl (by decide) (by omega) v109 y108 l2_1 _ _ _ (fun _ => True) (fun _ => False) rfl rfl ?aO ?aR (fun _ _ h => h) (fun _ h => h.elim) ?aF ?aB ?aS ?aL ?_; (case aR => repeat (first | exact (Kd.C_below HR2_1.out HB.out) | (with_reducible refine Xca ?_ _) | (with_reducible refine Xcn ?_ _) | (with_reducible refine Xcd ?_))); (case aB => exact (by repeat (first | (with_reducible first | exact HB.out | apply Xba | apply Xbn | apply Xbd | refine Xbe ?_ GE101.out) | exact HB.out))); (case aF => exact (fun _ _ => trivial)); (case aO => exact (by (with_reducible repeat (first | apply Xra | apply Xrn | apply Xrd)); exact HO110.out)); (case aS => exact (Xbs (by repeat (first | (with_reducible first | exact HB.out | apply Xba | apply Xbn | apply Xbd | refine Xbe ?_ GE101.out) | exact HB.out)))); (case aL => have := LMc16.out; omega); intro v112 w30 ho hb hg hat; rw [← Ny111.out] at ho; have n0_ := Xam (blk_grown (g := gb101) (o := .cells #[.int .i64 a2_0, .slice A2_1 l2_1.length c2_1] 36 (0, 0)) (by (with_reducible repeat (first | refine Xkn ?_ _ | refine Xkd ?_ | refine Xka ?_ _)); exact BK101.out) hg (Kd.R_ne HO110.out BK101.out (by decide))); have n1_ := Xam (hb); have n2_ := Xam (ho); clear BK101; clear HB; clear HO110; have BK101 := n0_; have HB := n1_; have HO113 := n2_; clear n0_ n1_ n2_; clear ho hb hg hat))
                  have n0_ := Xam (Xrd HO113.out)
                  have n1_ := Xam (Xkd BK101.out)
                  have n2_ := Xam (Xbd HB.out)
                  clear HO113
                  clear BK101
                  clear HB
                  have HO113 := n0_
                  have BK101 := n1_
                  have HB := n2_
                  clear n0_ n1_ n2_
                  refine start_ (n := 12) (S := fun w' => w'.cell? ⟨gb101, 0, none⟩ = some (.int .i64 a2_0) ∧ w'.cell? ⟨gb101, 1, none⟩ = some (.slice A2_1 l2_1.length c2_1)) (ds := []) #[false, false, false, false, false, false, false, false, false, false, false, false] (by kernel_rfl) rfl rfl ⟨(Xbc BK101.out 0).trans rfl, (Xbc BK101.out 1).trans rfl⟩ (fun hHeld => ?_); refine with_tabW spec_SealCell.tab4 spec_SealCell.bits4 (fun HT_ HW_ => ?_)
                  generalize w30.drew = w31 at HO113 BK101 HB hHeld ⊢
                  refine pure_ (i := 0) (N := some 36) (v := ?_) (a' := ?_) #[true, false, false, false, false, false, false, false, false, false, false, false] rfl rfl (any_of HT_.out (by kernel_rfl)) (fun _ _ _ h => h) (Or.inl ⟨by rfl, ?_⟩) ?_ ?_
                  rotate_left
                  · intro w'
                    go_simp
                    with_reducible rfl
                  rotate_left
                  · simp only [Act.put, List.setIfInBounds_toArray, List.set_cons_zero, List.set_cons_succ, i64_w, i32_w]
                    rfl
                  refine pure_ (i := 1) (N := some 37) (v := ?_) (a' := ?_) #[true, true, false, false, false, false, false, false, false, false, false, false] rfl rfl (any_of HT_.out (by kernel_rfl)) (fun _ _ _ h => h) (Or.inl ⟨by rfl, ?_⟩) ?_ ?_
                  rotate_left
                  · intro w'
                    go_simp
                    with_reducible rfl
                  rotate_left
                  · simp only [Act.put, List.setIfInBounds_toArray, List.set_cons_zero, List.set_cons_succ, i64_w, i32_w]
                    rfl
                  refine pure_ (i := 2) (N := some 38) (v := ?_) (a' := ?_) #[true, true, true, false, false, false, false, false, false, false, false, false] rfl rfl (any_of HT_.out (by kernel_rfl)) (fun _ _ _ h => h) (Or.inl ⟨by rfl, ?_⟩) ?_ ?_
                  rotate_left
                  · intro w'
                    go_simp
                    with_reducible rfl
                  rotate_left
                  · simp only [Act.put, List.setIfInBounds_toArray, List.set_cons_zero, List.set_cons_succ, i64_w, i32_w]
                    rfl
                  refine pure_ (i := 6) (N := some 42) (v := ?_) (a' := ?_) #[true, true, true, false, false, false, true, false, false, false, false, false] rfl rfl (any_of HT_.out (by kernel_rfl)) (fun _ _ _ h => h) (Or.inl ⟨by rfl, ?_⟩) ?_ ?_
                  rotate_left
                  · intro w'
                    go_simp
                    with_reducible rfl
                  rotate_left
                  · simp only [Act.put, List.setIfInBounds_toArray, List.set_cons_zero, List.set_cons_succ, i64_w, i32_w]
                    rfl
                  refine take_ (i := 7) (N := some 43) (v := ?_) (a' := ?_) #[true, true, true, false, false, false, true, true, false, false, false, false] rfl rfl (take_ofW HT_.out HW_.out (by kernel_rfl)) (fun _ _ _ h => h) (Or.inl ⟨by rfl, ?_⟩) hHeld ?_ ?_
                  rotate_left
                  · rintro w' ⟨s0, s1⟩
                    go_simp
                    with_reducible rfl
                  rotate_left
                  · simp only [Act.put, List.setIfInBounds_toArray, List.set_cons_zero, List.set_cons_succ, i64_w, i32_w]
                    rfl
                  refine pure_ (i := 8) (N := some 44) (v := ?_) (a' := ?_) #[true, true, true, false, false, false, true, true, true, false, false, false] rfl rfl (any_of HT_.out (by kernel_rfl)) (fun _ _ _ h => h) (Or.inl ⟨by rfl, ?_⟩) ?_ ?_
                  rotate_left
                  · intro w'
                    go_simp
                    with_reducible rfl
                  rotate_left
                  · simp only [Act.put, List.setIfInBounds_toArray, List.set_cons_zero, List.set_cons_succ, i64_w, i32_w]
                    rfl
                  refine one_ (i := 3) (N := some 39) #[true, true, true, true, false, false, true, true, true, false, false, false] rfl rfl (one_of HT_.out (by kernel_rfl)) (by decide) (fun K hK => ?_)
                  refine Kd.R_lit_step (Kd.int .i64) _ 3 ?hg (N := 39) ?hd (xs := ([61, a1] : List Int)) (inner := [.int .i64 61, .int .i64 a1]) (ok := fun _ => True) (okp := fun _ => True) ?hr ?hp (fun _ hk => hk) trivial (Below.refl _ _) (Nat.le_refl _) (by simp) ?_; (case hd => rfl); (case hg => rfl); (case hr => first | (go_simp; done) | (go_simp; rfl)); (case hp => exact (Reps.one (show Kd.M (Kd.int .i64) _ _ _ 61 [.int .i64 61] from rfl) (Reps.one (show Kd.M (Kd.int .i64) _ _ _ a1 [.int .i64 a1] from rfl) (Reps.none _ _))))
                  intro v115 w32 ho33 hb hg_ hnew_
                  clear hg_ hnew_
                  (first | rw [← Ny114.out] at ho33 | (simp only [Int.reduceToNat] at ho33; rw [← Ny114.out] at ho33))
                  have n0_ := Xam (Kd.R_below (by (with_reducible repeat (first | apply Xra | apply Xrn | apply Xrd)); exact HO113.out) hb)
                  have n1_ := Xam (Kd.R_lower ho33 (Xbs (by repeat (first | (with_reducible first | exact HB.out | apply Xba | apply Xbn | apply Xbd | refine Xbe ?_ GE101.out) | exact HB.out))))
                  have n2_ := Xam (Xbb (g := gb101) (o := .cells #[.int .i64 a2_0, .slice A2_1 l2_1.length c2_1] 36 (0, 0)) (by (with_reducible repeat (first | refine Xkn ?_ _ | refine Xkd ?_ | refine Xka ?_ _)); exact BK101.out) hb)
                  have n3_ := Xam (Xbt (by repeat (first | (with_reducible first | exact HB.out | apply Xba | apply Xbn | apply Xbd | refine Xbe ?_ GE101.out) | exact HB.out)) hb)
                  clear HO113
                  clear BK101
                  clear HB
                  have HO113 := n0_
                  have HO116 := n1_
                  have BK101 := n2_
                  have HB := n3_
                  clear n0_ n1_ n2_ n3_
                  clear hb ho33
                  obtain ⟨Ao34, co34, eo34⟩ := Kd.R_slice HO116.out
                  (first | subst eo34 | (injection eo34 with f1_ f2_ f3_; have f4_ := f1_.symm; have f5_ := f3_.symm; clear f1_ f2_ f3_; subst f4_; subst f5_))
                  refine hK.out _ _ ⟨(Xbc BK101.out 0).trans rfl, (Xbc BK101.out 1).trans rfl⟩ (fun hHeld => ?_)
                  clear hK K
                  refine norm_ (a' := ?_) ?_ ?_
                  rotate_left
                  · show Act.put _ (some 39) _ = _
                    simp only [Act.put, List.setIfInBounds_toArray, List.set_cons_zero, List.set_cons_succ, i64_w, i32_w]
                    rfl
                  refine one_ (i := 4) (N := some 40) #[true, true, true, true, true, false, true, true, true, false, false, false] rfl rfl (one_of HT_.out (by kernel_rfl)) (by decide) (fun K hK => ?_)
                  refine goes_ Try.func200 (by kernel_rfl) rfl #[.int .i64 a0, .slice Ao34 y114.length co34] (by rfl) rfl rfl (by (try simp only [List.map_toArray, List.map_cons, List.map_nil]); first | done | rfl | (simp only [List.length_drop, List.length_take]; rfl)) ?_
                  with_reducible refine (spec_KeyedHash.calls kj3 a0 _ _ y114 t117 _ ?side1 ?side2 A17.out).mono ?_
                  (case side1 => repeat (first | exact (Kd.R_reads' HO116.out).2.2 | (with_reducible refine Xca ?_ _) | (with_reducible refine Xcn ?_ _) | (with_reducible refine Xcd ?_)))
                  (case side2 => exact (Kd.R_reads' HO116.out).2.1)
                  rintro e w35 ⟨rfl, hb⟩
                  refine ⟨_, rfl, ?_⟩
                  have n0_ := Xam (Kd.R_below (by (with_reducible repeat (first | apply Xra | apply Xrn | apply Xrd)); exact HO113.out) hb)
                  have n1_ := Xam (Kd.R_below (by (with_reducible repeat (first | apply Xra | apply Xrn | apply Xrd)); exact HO116.out) hb)
                  have n2_ := Xam (Xbb (g := gb101) (o := .cells #[.int .i64 a2_0, .slice A2_1 l2_1.length c2_1] 36 (0, 0)) (by (with_reducible repeat (first | refine Xkn ?_ _ | refine Xkd ?_ | refine Xka ?_ _)); exact BK101.out) hb)
                  have n3_ := Xam (Xbt (by repeat (first | (with_reducible first | exact HB.out | apply Xba | apply Xbn | apply Xbd | refine Xbe ?_ GE101.out) | exact HB.out)) hb)
                  clear HO113
                  clear HO116
                  clear BK101
                  clear HB
                  have HO113 := n0_
                  have HO116 := n1_
                  have BK101 := n2_
                  have HB := n3_
                  clear n0_ n1_ n2_ n3_
                  (try clear hb)
                  (try clear hb2)
                  (try clear hk)
                  (try clear hi)
                  refine hK.out _ _ ⟨(Xbc BK101.out 0).trans rfl, (Xbc BK101.out 1).trans rfl⟩ (fun hHeld => ?_)
                  clear hK K
                  refine norm_ (a' := ?_) ?_ ?_
                  rotate_left
                  · show Act.put _ (some 40) _ = _
                    simp only [Act.put, List.setIfInBounds_toArray, List.set_cons_zero, List.set_cons_succ, i64_w, i32_w]
                    rfl
                  refine one_ (i := 5) (N := some 41) #[true, true, true, true, true, true, true, true, true, false, false, false] rfl rfl (one_of HT_.out (by kernel_rfl)) (by decide) (fun K hK => ?_)
                  refine goes_ Try.func239 (by kernel_rfl) rfl #[.int .i64 t117, .int .i64 18] (by rfl) rfl rfl (by (try simp only [List.map_toArray, List.map_cons, List.map_nil]); first | done | rfl | (simp only [List.length_drop, List.length_take]; rfl)) ?_
                  with_reducible refine (spec_StreamBytes.calls kj3 t117 18 t118 _ A18.out).mono ?_
                  rintro e w36 ⟨v119, rfl, ho0, hb⟩
                  refine ⟨_, rfl, ?_⟩
                  have n0_ := Xam (Kd.R_elder' (by (with_reducible repeat (first | apply Xra | apply Xrn | apply Xrd)); exact HO113.out) (Kd.R_base ho0) hb)
                  have n1_ := Xam (Kd.R_below (by (with_reducible repeat (first | apply Xra | apply Xrn | apply Xrd)); exact HO116.out) hb)
                  have n2_ := Xam (Kd.R_lower (Kd.R_new' ho0 (Kd.R_lt (by (with_reducible repeat (first | apply Xra | apply Xrn | apply Xrd)); exact HO113.out))) (Xbs (by repeat (first | (with_reducible first | exact HB.out | apply Xba | apply Xbn | apply Xbd | refine Xbe ?_ GE101.out) | exact HB.out))))
                  have n3_ := Xam (Xbb (g := gb101) (o := .cells #[.int .i64 a2_0, .slice A2_1 l2_1.length c2_1] 36 (0, 0)) (by (with_reducible repeat (first | refine Xkn ?_ _ | refine Xkd ?_ | refine Xka ?_ _)); exact BK101.out) hb)
                  have n4_ := Xam (Xbt (by repeat (first | (with_reducible first | exact HB.out | apply Xba | apply Xbn | apply Xbd | refine Xbe ?_ GE101.out) | exact HB.out)) hb)
                  clear HO113
                  clear HO116
                  clear BK101
                  clear HB
                  have HO113 := n0_
                  have HO116 := n1_
                  have HO120 := n2_
                  have BK101 := n3_
                  have HB := n4_
                  clear n0_ n1_ n2_ n3_ n4_
                  (try clear hb)
                  (try clear hb2)
                  (try clear hk)
                  (try clear hi)
                  (try clear ho0)
                  obtain ⟨Ao38, co38, eo38⟩ := Kd.R_slice HO120.out
                  (first | subst eo38 | (injection eo38 with f1_ f2_ f3_; have f4_ := f1_.symm; have f5_ := f3_.symm; clear f1_ f2_ f3_; subst f4_; subst f5_))
                  have q37 : ((l2_1.length : Int) : Int) ≤ ((t118.length : Int) : Int) := of_decide_eq_true (by first | (with_reducible assumption) | assumption)
                  obtain ⟨i037, hi037, _, hsz37, _⟩ := info_parts info5
                  have hroom37 : t118.length ≤ co38 := (Kd.R_reads' HO120.out).2.1
                  have hC37 : Kd.C (Kd.int .u8) _ Ao38 t118.length t118 := (Kd.R_reads' HO120.out).2.2
                  have q037 : (0 : Int) ≤ ((l2_1.length : Int) : Int) := of_decide_eq_true (by first | (with_reducible assumption) | assumption)
                  have hcut37 := cut_from (P := Try.prog) 25 5 .i64 Try.underlying25 hi037 1 hsz37 Ao38 t118.length co38 (l2_1.length : Int) q037 q37
                  have hr37 := Kd.C_drop (m := ((l2_1.length : Int) : Int).toNat) (c := co38) hC37 (by omega) hroom37
                  obtain ⟨A37, hA37⟩ : ∃ A1, A1 = (if co38 = ((l2_1.length : Int) : Int).toNat then Ao38 else (Ao38 : Option Addr).map (·.add (((l2_1.length : Int) : Int).toNat * 1))) := ⟨_, rfl⟩
                  obtain ⟨c37, hc37⟩ : ∃ c1, c1 = co38 - ((l2_1.length : Int) : Int).toNat := ⟨_, rfl⟩
                  have hy37 : y121.length = t118.length - ((l2_1.length : Int) : Int).toNat := (by rw [Ny121.out, List.length_drop] <;> omega)
                  rw [show (t118).drop ((l2_1.length : Int) : Int).toNat = y121 from Ny121.out.symm] at hr37
                  replace hr37 : Kd.C (Kd.int .u8) _ A37 y121.length y121 := (by rw [hA37]; exact hr37)
                  rw [← hy37, ← hA37, ← hc37] at hcut37
                  have HR124 := Xam hr37
                  have HC124 := Xam (show y121.length ≤ c37 from by rw [hy37, hc37]; exact Nat.sub_le_sub_right hroom37 _)
                  clear hr37 hC37 hroom37 hi037 hsz37 hc37
                  have KY37 := Xam hy37
                  have KA37 := Xam hA37
                  clear hy37 hA37
                  have KL37 := Xam (show ((l2_1.length : Int) : Int).toNat ≤ t118.length from by omega)
                  replace q37 := eq_true q37
                  refine hK.out _ _ ⟨(Xbc BK101.out 0).trans rfl, (Xbc BK101.out 1).trans rfl⟩ (fun hHeld => ?_)
                  clear hK K
                  refine norm_ (a' := ?_) ?_ ?_
                  rotate_left
                  · show Act.put _ (some 41) _ = _
                    simp only [Act.put, List.setIfInBounds_toArray, List.set_cons_zero, List.set_cons_succ, i64_w, i32_w]
                    rfl
                  refine pure_ (i := 9) (N := some 45) (v := ?_) (a' := ?_) #[true, true, true, true, true, true, true, true, true, true, false, false] rfl rfl (any_of HT_.out (by kernel_rfl)) (fun _ _ _ h => h) (Or.inl ⟨by rfl, ?_⟩) ?_ ?_
                  rotate_left
                  · intro w'
                    go_simp
                    with_reducible rfl
                  rotate_left
                  · simp only [Act.put, List.setIfInBounds_toArray, List.set_cons_zero, List.set_cons_succ, i64_w, i32_w]
                    rfl
                  refine one_ (i := 10) (N := some 46) #[true, true, true, true, true, true, true, true, true, true, true, false] rfl rfl (one_of HT_.out (by kernel_rfl)) (by decide) (fun K hK => ?_)
                  refine Kd.R_append_rows_step (Kd.int .u8) (w0 := w) w.heap.size (by rfl) (.tmp 36) (.tmp 45) 25 5 (.int .u8 0) 1 rfl Try.underlying25 info5 rfl (by decide) (by omega) v112 y111 y121 _ _ _ (fun k_ => some k_ ≠ (.slice Ao38 t118.length co38 : Value).ownBlock) (fun _ => False) rfl rfl ?aO ?aR (fun _ _ h => h) (fun _ h => h.elim) ?aF ?aB ?aS ?aL ?_
                  (case aR => repeat (first | exact (by repeat (first | (with_reducible exact HR124.out) | (with_reducible refine Xca ?_ _) | (with_reducible refine Xcn ?_ _) | (with_reducible refine Xcd ?_) | exact HR124.out)) | (with_reducible refine Xca ?_ _) | (with_reducible refine Xcn ?_ _) | (with_reducible refine Xcd ?_)))
                  (case aB => exact (by repeat (first | (with_reducible first | exact HB.out | apply Xba | apply Xbn | apply Xbd | refine Xbe ?_ GE101.out) | exact HB.out)))
                  (case aF => exact (fun k_ hk => Kd.fresh' (Kd.R_lt (by (with_reducible repeat (first | apply Xra | apply Xrn | apply Xrd)); exact HO120.out)) k_ hk))
                  (case aO => exact (by (with_reducible repeat (first | apply Xra | apply Xrn | apply Xrd)); exact Kd.R_mono HO113.out (fun _ hk => hk.2)))
                  (case aS => exact (Xbs (by repeat (first | (with_reducible first | exact HB.out | apply Xba | apply Xbn | apply Xbd | refine Xbe ?_ GE101.out) | exact HB.out))))
                  (case aL => have := LMc21.out; omega)
                  intro v126 w39 ho hb hg hat
                  rw [← Ny125.out] at ho
                  have n0_ := Xam (blk_grown (g := gb101) (o := .cells #[.int .i64 a2_0, .slice A2_1 l2_1.length c2_1] 36 (0, 0)) (by (with_reducible repeat (first | refine Xkn ?_ _ | refine Xkd ?_ | refine Xka ?_ _)); exact BK101.out) hg (Kd.R_ne HO113.out BK101.out (by decide)))
                  have n1_ := Xam (Kd.R_over' (by (with_reducible repeat (first | apply Xra | apply Xrn | apply Xrd)); exact HO116.out) (Kd.R_typed (by (with_reducible repeat (first | apply Xra | apply Xrn | apply Xrd)); exact HO113.out)) (by decide) hg)
                  have n2_ := Xam (Kd.R_after (ok := (fun _ => True)) (by (with_reducible repeat (first | apply Xra | apply Xrn | apply Xrd)); exact HO120.out) hg hat)
                  have n3_ := Xam (hb)
                  have n4_ := Xam ((show Kd.C (Kd.int .u8) w39 A37 y121.length y121 from by rw [Ny121.out, KA37.out]; exact Kd.C_drop (m := ((l2_1.length : Int) : Int).toNat) (c := co38) ((Kd.R_reads' (Kd.R_after (ok := (fun _ => True)) (by (with_reducible repeat (first | apply Xra | apply Xrn | apply Xrd)); exact HO120.out) hg hat)).2.2) KL37.out ((Kd.R_reads' (Kd.R_after (ok := (fun _ => True)) (by (with_reducible repeat (first | apply Xra | apply Xrn | apply Xrd)); exact HO120.out) hg hat)).2.1)))
                  have n5_ := Xam (ho)
                  clear BK101
                  clear HO116
                  clear HO120
                  clear HB
                  clear HR124
                  clear HO113
                  have BK101 := n0_
                  have HO116 := n1_
                  have HO120 := n2_
                  have HB := n3_
                  have HR124 := n4_
                  have HO127 := n5_
                  clear n0_ n1_ n2_ n3_ n4_ n5_
                  clear ho hb hg hat
                  refine hK.out _ _ ⟨(Xbc BK101.out 0).trans rfl, (Xbc BK101.out 1).trans rfl⟩ (fun hHeld => ?_)
                  clear hK K
                  refine norm_ (a' := ?_) ?_ ?_
                  rotate_left
                  · show Act.put _ (some 46) _ = _
                    simp only [Act.put, List.setIfInBounds_toArray, List.set_cons_zero, List.set_cons_succ, i64_w, i32_w]
                    rfl
                  refine pure_ (i := 11) (N := some 8) (v := ?_) (a' := ?_) #[true, true, true, true, true, true, true, true, true, true, true, true] rfl rfl (any_of HT_.out (by kernel_rfl)) (fun _ _ _ h => h) (Or.inl ⟨by rfl, ?_⟩) ?_ ?_
                  rotate_left
                  · intro w'
                    go_simp
                    with_reducible rfl
                  rotate_left
                  · simp only [Act.put, List.setIfInBounds_toArray, List.set_cons_zero, List.set_cons_succ, i64_w, i32_w]
                    rfl
                  refine done_ (done_of HT_.out (by kernel_rfl)) ?_
                  try go_wp2_with (first | ((with_reducible refine gate_callee (f := 232) rfl ?_); refine goesL_ (some 49) rfl rfl Try.func232 (by kernel_rfl) rfl #[.int .i64 a0, .int .i64 a1] rfl (by (try simp only [List.map_toArray, List.map_cons, List.map_nil]); first | done | rfl | (simp only [List.length_drop, List.length_take]; rfl)) ?_; (with_reducible refine (spec_l13Cipher.calls kj3 a0 a1 t128 _ A22.out).mono ?_); rintro e w40 ⟨rfl, hb⟩; refine ⟨_, rfl, ?_⟩; have n0_ := Xam (Kd.R_below (by (with_reducible repeat (first | apply Xra | apply Xrn | apply Xrd)); exact HO116.out) hb); have n1_ := Xam (Kd.R_below (by (with_reducible repeat (first | apply Xra | apply Xrn | apply Xrd)); exact HO120.out) hb); have n2_ := Xam (Kd.R_below (by (with_reducible repeat (first | apply Xra | apply Xrn | apply Xrd)); exact HO127.out) hb); have n3_ := Xam (Xbb (g := gb101) (o := .cells #[.int .i64 a2_0, .slice A2_1 l2_1.length c2_1] 36 (0, 0)) (by (with_reducible repeat (first | refine Xkn ?_ _ | refine Xkd ?_ | refine Xka ?_ _)); exact BK101.out) hb); have n4_ := Xam (Kd.C_below (by repeat (first | (with_reducible exact HR124.out) | (with_reducible refine Xca ?_ _) | (with_reducible refine Xcn ?_ _) | (with_reducible refine Xcd ?_) | exact HR124.out)) hb); have n5_ := Xam (Xbt (by repeat (first | (with_reducible first | exact HB.out | apply Xba | apply Xbn | apply Xbd | refine Xbe ?_ GE101.out) | exact HB.out)) hb); clear HO116; clear HO120; clear HO127; clear BK101; clear HR124; clear HB; have HO116 := n0_; have HO120 := n1_; have HO127 := n2_; have BK101 := n3_; have HR124 := n4_; have HB := n5_; clear n0_ n1_ n2_ n3_ n4_ n5_; (try clear hb); (try clear hb2); (try clear hk); (try clear hi); obtain ⟨Ao41, co41, eo41⟩ := Kd.R_slice HO127.out; subst eo41) | ((with_reducible refine gate_callee (f := 240) rfl ?_); refine goesL_ (some 51) rfl rfl Try.func240 (by kernel_rfl) rfl #[.int .i64 t128, .slice Ao41 y125.length co41] rfl (by (try simp only [List.map_toArray, List.map_cons, List.map_nil]); first | done | rfl | (simp only [List.length_drop, List.length_take]; rfl)) ?_; (with_reducible refine (spec_Encrypt.calls kj3 t128 _ _ y125 t129 _ ?side1 ?side2 A23.out).mono ?_); (case side1 => repeat (first | exact (Kd.R_reads' HO127.out).2.2 | (with_reducible refine Xca ?_ _) | (with_reducible refine Xcn ?_ _) | (with_reducible refine Xcd ?_))); (case side2 => exact (Kd.R_reads' HO127.out).2.1); rintro e w42 ⟨v130, rfl, ho0, hb⟩; refine ⟨_, rfl, ?_⟩; have n0_ := Xam (Kd.R_below (by (with_reducible repeat (first | apply Xra | apply Xrn | apply Xrd)); exact HO116.out) hb); have n1_ := Xam (Kd.R_elder' (by (with_reducible repeat (first | apply Xra | apply Xrn | apply Xrd)); exact HO120.out) (Kd.R_base ho0) hb); have n2_ := Xam (Kd.R_elder' (by (with_reducible repeat (first | apply Xra | apply Xrn | apply Xrd)); exact HO127.out) (Kd.R_base ho0) hb); have n3_ := Xam (Kd.R_lower (Kd.R_new' (Kd.R_new' ho0 (Kd.R_lt (by (with_reducible repeat (first | apply Xra | apply Xrn | apply Xrd)); exact HO120.out))) (Kd.R_lt (by (with_reducible repeat (first | apply Xra | apply Xrn | apply Xrd)); exact HO127.out))) (Xbs (by repeat (first | (with_reducible first | exact HB.out | apply Xba | apply Xbn | apply Xbd | refine Xbe ?_ GE101.out) | exact HB.out)))); have n4_ := Xam (Xbb (g := gb101) (o := .cells #[.int .i64 a2_0, .slice A2_1 l2_1.length c2_1] 36 (0, 0)) (by (with_reducible repeat (first | refine Xkn ?_ _ | refine Xkd ?_ | refine Xka ?_ _)); exact BK101.out) hb); have n5_ := Xam (Kd.C_below (by repeat (first | (with_reducible exact HR124.out) | (with_reducible refine Xca ?_ _) | (with_reducible refine Xcn ?_ _) | (with_reducible refine Xcd ?_) | exact HR124.out)) hb); have n6_ := Xam (Xbt (by repeat (first | (with_reducible first | exact HB.out | apply Xba | apply Xbn | apply Xbd | refine Xbe ?_ GE101.out) | exact HB.out)) hb); clear HO116; clear HO120; clear HO127; clear BK101; clear HR124; clear HB; have HO116 := n0_; have HO120 := n1_; have HO127 := n2_; have HO131 := n3_; have BK101 := n4_; have HR124 := n5_; have HB := n6_; clear n0_ n1_ n2_ n3_ n4_ n5_ n6_; (try clear hb); (try clear hb2); (try clear hk); (try clear hi); (try clear ho0); obtain ⟨Ao43, co43, eo43⟩ := Kd.R_slice HO131.out; subst eo43) | ((with_reducible refine gate_callee (f := 230) rfl ?_); refine goesL_ (some 55) rfl rfl Try.func230 (by kernel_rfl) rfl #[.int .i64 a0, .int .i64 a1, .slice Ao43 t129.length co43] rfl (by (try simp only [List.map_toArray, List.map_cons, List.map_nil]); first | done | rfl | (simp only [List.length_drop, List.length_take]; rfl)) ?_; (with_reducible refine (spec_CellCheck.calls kj3 a0 a1 _ _ t129 t132 _ ?side1 ?side2 A24.out).mono ?_); (case side1 => repeat (first | exact (Kd.R_reads' HO131.out).2.2 | (with_reducible refine Xca ?_ _) | (with_reducible refine Xcn ?_ _) | (with_reducible refine Xcd ?_))); (case side2 => exact (Kd.R_reads' HO131.out).2.1); rintro e w44 ⟨rfl, hb⟩; refine ⟨_, rfl, ?_⟩; have n0_ := Xam (Kd.R_below (by (with_reducible repeat (first | apply Xra | apply Xrn | apply Xrd)); exact HO116.out) hb); have n1_ := Xam (Kd.R_below (by (with_reducible repeat (first | apply Xra | apply Xrn | apply Xrd)); exact HO120.out) hb); have n2_ := Xam (Kd.R_below (by (with_reducible repeat (first | apply Xra | apply Xrn | apply Xrd)); exact HO127.out) hb); have n3_ := Xam (Kd.R_below (by (with_reducible repeat (first | apply Xra | apply Xrn | apply Xrd)); exact HO131.out) hb); have n4_ := Xam (Xbb (g := gb101) (o := .cells #[.int .i64 a2_0, .slice A2_1 l2_1.length c2_1] 36 (0, 0)) (by (with_reducible repeat (first | refine Xkn ?_ _ | refine Xkd ?_ | refine Xka ?_ _)); exact BK101.out) hb); have n5_ := Xam (Kd.C_below (by repeat (first | (with_reducible exact HR124.out) | (with_reducible refine Xca ?_ _) | (with_reducible refine Xcn ?_ _) | (with_reducible refine Xcd ?_) | exact HR124.out)) hb); have n6_ := Xam (Xbt (by repeat (first | (with_reducible first | exact HB.out | apply Xba | apply Xbn | apply Xbd | refine Xbe ?_ GE101.out) | exact HB.out)) hb); clear HO116; clear HO120; clear HO127; clear HO131; clear BK101; clear HR124; clear HB; have HO116 := n0_; have HO120 := n1_; have HO127 := n2_; have HO131 := n3_; have BK101 := n4_; have HR124 := n5_; have HB := n6_; clear n0_ n1_ n2_ n3_ n4_ n5_ n6_; (try clear hb); (try clear hb2); (try clear hk); (try clear hi)) | ((with_reducible refine gate_dst (N := 68) rfl ?_); refine Kd.R_lit (Kd.int .u8) _ 5 ?hg (N := 68) ?hd (xs := ([(t132) % 256, (t132 / 256) % 256, (t132 / 65536) % 256, (t132 / 16777216) % 256] : List Int)) (inner := [.int .u8 ((t132) % 256), .int .u8 ((t132 / 256) % 256), .int .u8 ((t132 / 65536) % 256), .int .u8 ((t132 / 16777216) % 256)]) (ok := fun _ => True) (okp := fun _ => True) ?hr ?hp (fun _ hk => hk) trivial (Below.refl _ _) (Nat.le_refl _) (by simp) ?_; (case hd => rfl); (case hg => rfl); (case hr => first | (go_simp; done) | (go_simp; rfl)); (case hp => exact (Reps.one (show Kd.M (Kd.int .u8) _ _ _ ((t132) % 256) [.int .u8 ((t132) % 256)] from rfl) (Reps.one (show Kd.M (Kd.int .u8) _ _ _ ((t132 / 256) % 256) [.int .u8 ((t132 / 256) % 256)] from rfl) (Reps.one (show Kd.M (Kd.int .u8) _ _ _ ((t132 / 65536) % 256) [.int .u8 ((t132 / 65536) % 256)] from rfl) (Reps.one (show Kd.M (Kd.int .u8) _ _ _ ((t132 / 16777216) % 256) [.int .u8 ((t132 / 16777216) % 256)] from rfl) (Reps.none _ _)))))); intro v134 w45 ho46 hb hg_ hnew_; clear hg_ hnew_; (first | rw [← Ny133.out] at ho46 | (simp only [Int.reduceToNat] at ho46; rw [← Ny133.out] at ho46)); have n0_ := Xam (Kd.R_below (by (with_reducible repeat (first | apply Xra | apply Xrn | apply Xrd)); exact HO116.out) hb); have n1_ := Xam (Kd.R_elder' (by (with_reducible repeat (first | apply Xra | apply Xrn | apply Xrd)); exact HO120.out) (Kd.R_base ho46) hb); have n2_ := Xam (Kd.R_elder' (by (with_reducible repeat (first | apply Xra | apply Xrn | apply Xrd)); exact HO127.out) (Kd.R_base ho46) hb); have n3_ := Xam (Kd.R_elder' (by (with_reducible repeat (first | apply Xra | apply Xrn | apply Xrd)); exact HO131.out) (Kd.R_base ho46) hb); have n4_ := Xam (Kd.R_lower (Kd.R_new' (Kd.R_new' (Kd.R_new' ho46 (Kd.R_lt (by (with_reducible repeat (first | apply Xra | apply Xrn | apply Xrd)); exact HO120.out))) (Kd.R_lt (by (with_reducible repeat (first | apply Xra | apply Xrn | apply Xrd)); exact HO127.out))) (Kd.R_lt (by (with_reducible repeat (first | apply Xra | apply Xrn | apply Xrd)); exact HO131.out))) (Xbs (by repeat (first | (with_reducible first | exact HB.out | apply Xba | apply Xbn | apply Xbd | refine Xbe ?_ GE101.out) | exact HB.out)))); have n5_ := Xam (Xbb (g := gb101) (o := .cells #[.int .i64 a2_0, .slice A2_1 l2_1.length c2_1] 36 (0, 0)) (by (with_reducible repeat (first | refine Xkn ?_ _ | refine Xkd ?_ | refine Xka ?_ _)); exact BK101.out) hb); have n6_ := Xam (Kd.C_below (by repeat (first | (with_reducible exact HR124.out) | (with_reducible refine Xca ?_ _) | (with_reducible refine Xcn ?_ _) | (with_reducible refine Xcd ?_) | exact HR124.out)) hb); have n7_ := Xam (Xbt (by repeat (first | (with_reducible first | exact HB.out | apply Xba | apply Xbn | apply Xbd | refine Xbe ?_ GE101.out) | exact HB.out)) hb); clear HO116; clear HO120; clear HO127; clear HO131; clear BK101; clear HR124; clear HB; have HO116 := n0_; have HO120 := n1_; have HO127 := n2_; have HO131 := n3_; have HO135 := n4_; have BK101 := n5_; have HR124 := n6_; have HB := n7_; clear n0_ n1_ n2_ n3_ n4_ n5_ n6_ n7_; clear hb ho46; obtain ⟨Ao48, co48, eo48⟩ := Kd.R_slice HO135.out; subst eo48) | ((with_reducible refine gate_builtin (b := .append) (xs := #[.tmp 56, .tmp 68]) rfl ?_); at_builtin; refine Kd.R_append_rows (Kd.int .u8) (w0 := w) w.heap.size rfl (.tmp 56) (.tmp 68) 25 5 (.int .u8 0) 1 rfl Try.underlying25 info5 rfl (by decide) (by omega) (.slice Ao43 t129.length co43) t129 y133 _ _ _ (fun k_ => some k_ ≠ (.slice Ao38 t118.length co38 : Value).ownBlock ∧ some k_ ≠ (.slice Ao41 y125.length co41 : Value).ownBlock ∧ some k_ ≠ (.slice Ao48 y133.length co48 : Value).ownBlock) (fun _ => False) rfl rfl ?aO ?aR (fun _ _ h => h) (fun _ h => h.elim) ?aF ?aB ?aS ?aL ?_; (case aR => repeat (first | exact (Kd.R_reads' HO135.out).2.2 | (with_reducible refine Xca ?_ _) | (with_reducible refine Xcn ?_ _) | (with_reducible refine Xcd ?_))); (case aB => exact (by repeat (first | (with_reducible first | exact HB.out | apply Xba | apply Xbn | apply Xbd | refine Xbe ?_ GE101.out) | exact HB.out))); (case aF => exact (fun k_ hk => ⟨Kd.fresh' (Kd.R_lt (by (with_reducible repeat (first | apply Xra | apply Xrn | apply Xrd)); exact HO120.out)) k_ hk, Kd.fresh' (Kd.R_lt (by (with_reducible repeat (first | apply Xra | apply Xrn | apply Xrd)); exact HO127.out)) k_ hk, Kd.fresh' (Kd.R_lt (by (with_reducible repeat (first | apply Xra | apply Xrn | apply Xrd)); exact HO135.out)) k_ hk⟩)); (case aO => exact (by (with_reducible repeat (first | apply Xra | apply Xrn | apply Xrd)); exact Kd.R_mono HO131.out (fun _ hk => ⟨hk.1.1.2, ⟨hk.1.2, hk.2⟩⟩))); (case aS => exact (Xbs (by repeat (first | (with_reducible first | exact HB.out | apply Xba | apply Xbn | apply Xbd | refine Xbe ?_ GE101.out) | exact HB.out)))); (case aL => have := LMc25.out; omega); intro v137 w47 ho hb hg hat; rw [← Ny136.out] at ho; have n0_ := Xam (blk_grown (g := gb101) (o := .cells #[.int .i64 a2_0, .slice A2_1 l2_1.length c2_1] 36 (0, 0)) (by (with_reducible repeat (first | refine Xkn ?_ _ | refine Xkd ?_ | refine Xka ?_ _)); exact BK101.out) hg (Kd.R_ne HO131.out BK101.out (by decide))); have n1_ := Xam (Kd.R_over' (by (with_reducible repeat (first | apply Xra | apply Xrn | apply Xrd)); exact HO116.out) (Kd.R_typed (by (with_reducible repeat (first | apply Xra | apply Xrn | apply Xrd)); exact HO131.out)) (by decide) hg); have n2_ := Xam (Kd.R_after (ok := (fun k_ => some k_ ≠ (.slice Ao41 y125.length co41 : Value).ownBlock ∧ some k_ ≠ (.slice Ao48 y133.length co48 : Value).ownBlock)) (by (with_reducible repeat (first | apply Xra | apply Xrn | apply Xrd)); exact Kd.R_mono HO120.out (fun _ hk => ⟨⟨hk.1.1.2, hk.2⟩, hk.1.2⟩)) hg hat); have n3_ := Xam (Kd.R_after (ok := (fun k_ => some k_ ≠ (.slice Ao38 t118.length co38 : Value).ownBlock ∧ some k_ ≠ (.slice Ao48 y133.length co48 : Value).ownBlock)) (by (with_reducible repeat (first | apply Xra | apply Xrn | apply Xrd)); exact Kd.R_mono HO127.out (fun _ hk => ⟨⟨hk.1.1, hk.2⟩, hk.1.2⟩)) hg hat); have n4_ := Xam (Kd.R_after (ok := (fun k_ => some k_ ≠ (.slice Ao38 t118.length co38 : Value).ownBlock ∧ some k_ ≠ (.slice Ao41 y125.length co41 : Value).ownBlock)) (by (with_reducible repeat (first | apply Xra | apply Xrn | apply Xrd)); exact Kd.R_mono HO135.out (fun _ hk => ⟨⟨hk.1.1.2, hk.1.2⟩, hk.2⟩)) hg hat); have n5_ := Xam (hb); have n6_ := Xam ((show Kd.C (Kd.int .u8) w47 A37 y121.length y121 from by rw [Ny121.out, KA37.out]; exact Kd.C_drop (m := ((l2_1.length : Int) : Int).toNat) (c := co38) ((Kd.R_reads' (Kd.R_after (ok := (fun k_ => some k_ ≠ (.slice Ao41 y125.length co41 : Value).ownBlock ∧ some k_ ≠ (.slice Ao48 y133.length co48 : Value).ownBlock)) (by (with_reducible repeat (first | apply Xra | apply Xrn | apply Xrd)); exact Kd.R_mono HO120.out (fun _ hk => ⟨⟨hk.1.1.2, hk.2⟩, hk.1.2⟩)) hg hat)).2.2) KL37.out ((Kd.R_reads' (Kd.R_after (ok := (fun k_ => some k_ ≠ (.slice Ao41 y125.length co41 : Value).ownBlock ∧ some k_ ≠ (.slice Ao48 y133.length co48 : Value).ownBlock)) (by (with_reducible repeat (first | apply Xra | apply Xrn | apply Xrd)); exact Kd.R_mono HO120.out (fun _ hk => ⟨⟨hk.1.1.2, hk.2⟩, hk.1.2⟩)) hg hat)).2.1))); have n7_ := Xam (ho); clear BK101; clear HO116; clear HO120; clear HO127; clear HO135; clear HB; clear HR124; clear HO131; have BK101 := n0_; have HO116 := n1_; have HO120 := n2_; have HO127 := n3_; have HO135 := n4_; have HB := n5_; have HR124 := n6_; have HO138 := n7_; clear n0_ n1_ n2_ n3_ n4_ n5_ n6_ n7_; clear ho hb hg hat))
                  go_ret2
                  exact ⟨_, by first | rfl | (simp [errW_none, errW_some] <;> rfl) | (simp [*, errW_none, errW_some] <;> rfl), by (with_reducible repeat (first | apply Xra | apply Xrn | apply Xrd)); exact Kd.R_mono HO138.out (fun _ hk => trivial), by repeat (first | (with_reducible first | exact HB.out | apply Xba | apply Xbn | apply Xbd | refine Xbe ?_ GE101.out) | exact HB.out)⟩
                · rw [if_neg c25] at H
                  exact absurd H (by simp)
              · rw [if_neg c21] at H
                exact absurd H (by simp)
            · rw [if_neg c20] at H
              exact absurd H (by simp)
          · rw [if_neg c19] at H
            exact absurd H (by simp)
        · rw [if_neg c16] at H
          exact absurd H (by simp)

end Go.Proofs.Ytgdfnoipcompkaa.Q
