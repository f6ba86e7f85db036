-- written by a program of this session (qprint.py) over the kit's print.py
import Derived.Test.YtcdaiclfomekhaaQx0
import Derived.Test.YtcdaiclfomekhaaQxNJELOB
namespace Go.Proofs.Ytcdaiclfomekhaa.Q
open Go.RowKit Go.Proofs.YtcdaiclfomekhaaW.PrintWords Go.Proofs.YtcdaiclfomekhaaW.PrintLast Go.Proofs.YtcdaiclfomekhaaW.PrintMore Go.Proofs.YtcdaiclfomekhaaW.PrintWords Go.Proofs.YtcdaiclfomekhaaW.PrintWords.QPW
attribute [local go_sem] max2_int min2_int max_two min_two max_three min_three max_four min_four   -- for this text's walks alone
set_option linter.unusedVariables false
set_option linter.unusedSimpArgs false

/-! ### laws_markByteSS: function 148 -/
def laws_markByteSS.l0 : Nat → List (List Int) → Int → Int → Option (Int × List (List Int))
  | 0, _, _, _ => none
  | k + 1, x0, x1, x5 => if x5 < (x0.length : Int) then (if 0 ≤ x5 then ((laws_markByteS.f k (rd_L2 x0 x5) x1).bind fun b0 => (laws_markByteSS.l0 k (x0.set (x5 : Int).toNat b0.2) b0.1 (wrap64 (x5 + 1)))) else (none)) else (some (x1, x0))
def laws_markByteSS.f (k : Nat) (l0 : List (List Int)) (a1 : Int) : Option (Int × List (List Int)) := laws_markByteSS.l0 k l0 a1 0
set_option maxHeartbeats 8000000 in
set_option maxRecDepth 100000 in
theorem laws_markByteSS.calls (k : Nat) (P0_ : Nat → Prop) (u9000_ : Value) (l0 : List (List Int)) (a1 : Int) (r1 : Int) (r2 : List (List Int)) (w0 w : World) (hB : Below w0.heap.size w0 w) (ho0 : Kd.S (Kd.slice 5 (Kd.int .u8)) 22 w w0.heap.size P0_ u9000_ l0) (h : laws_markByteSS.f k l0 a1 = some (r1, r2)) :
    Calls Try.prog 148 #[u9000_, .int .i64 a1] w fun e w' => e = .returned (.int .i64 r1) ∧ Kd.S (Kd.slice 5 (Kd.int .u8)) 22 w' w0.heap.size P0_ u9000_ r2 ∧ Below w0.heap.size w0 w' ∧ Kept w w' (fun k_ => P0_ k_) := by
  have HO := Xam ho0
  have HB := Xam hB
  have HK := Xam (Kept.refl w (fun k_ => P0_ k_))
  clear ho0 hB
  have H' := Xam (show laws_markByteSS.l0 k l0 a1 0 = some (r1, r2) from h)
  clear h
  go_enter Try.func148, Try.ntmps148
  go_wp2
  go_loopg [1, 5] k (fun kq v1 v5 w' => ∃ (x0 : List (List Int)) (x1 x5 : Int), v1 = .int .i64 x1 ∧ v5 = .int .i64 x5 ∧ Aside0 (laws_markByteSS.l0 kq x0 x1 x5 = some (r1, r2)) ∧ Aside0 (kq ≤ k) ∧ Aside0 (Kd.S (Kd.slice 5 (Kd.int .u8)) 22 w' w0.heap.size P0_ u9000_ x0) ∧ Aside0 (Kept w w' (fun k_ => P0_ k_)) ∧ Aside0 (Below w0.heap.size w0 w'))
  case atStart => exact ⟨l0, a1, 0, (by first | rfl | (simp; done) | (simp [*]; done)), (by first | rfl | (simp; done) | (simp [*]; done)), H', ⟨Nat.le_refl _⟩, HO, HK, HB⟩
  case round =>
    clear H' HO HK HB
    obtain ⟨x0, x1, x5, rfl, rfl, HA, HK1, HO, HK, HB⟩ := hrel
    cases gk with
    | zero => exact absurd HA.out (by simp [laws_markByteSS.l0])
    | succ k1 =>
      have H := HA.out
      clear HA
      simp only [laws_markByteSS.l0] at H
      by_cases c3 : x5 < (x0.length : Int)
      rotate_left
      · rw [if_neg c3] at H
        have c3b0 : decide (x5 < (x0.length : Int)) = false := decide_eq_false c3
        clear c3
        simp only [Option.some.injEq, Prod.mk.injEq] at H
        obtain ⟨rfl, rfl⟩ := H
        obtain ⟨Ao, co, eo⟩ := Kd.S_slice HO.out
        subst eo
        go_wp2
        go_ret
        exact ⟨by first | rfl | (simp; done), HO.out, HB.out, HK.out⟩
      rw [if_pos c3] at H
      have c3b0 : decide (x5 < (x0.length : Int)) = true := decide_eq_true c3
      by_cases c4 : 0 ≤ x5
      rotate_left
      · rw [if_neg c4] at H
        exact absurd H (by simp)
      rw [if_pos c4] at H
      have c4b0 : decide (0 ≤ x5) = true := decide_eq_true c4
      obtain ⟨⟨t0a, t0b⟩, E0_, H⟩ := Option.bind_eq_some_iff.mp H
      (try dsimp only at H)
      have E0 := Xam E0_
      clear E0_
      have H' := Xam H
      clear H
      have hlt : x5.toNat < x0.length := by omega
      have p5 := Xam c4
      have q5 := Xam c3
      have HL := Xam hlt
      clear c3 c4 hlt
      obtain ⟨go5, co5, eo5, gb5, gl5, cl5, HG5⟩ := Kd.S_form HO.out (by have := HL.out; omega)
      subst eo5
      have GB5 := Xam gb5
      clear gb5 gl5 cl5 HG5
      have p6 : 0 ≤ x5 := p5.out
      have q6 : x5 < (x0.length : Int) := q5.out
      replace p6 := eq_true p6
      replace q6 := eq_true q6
      obtain ⟨ok0, ce0, hcl0, hM0, hcc0, hfr0, hok0, hH0⟩ := Kd.S_elem HO.out [] x5 p5.out q5.out
      obtain ⟨vv0_0, rfl, hR0_0⟩ := hM0
      obtain ⟨As0_0, cs0_0, es0_0⟩ := Kd.R_slice hR0_0
      subst es0_0
      have hx0_0 : wr.cell? ⟨go5, x5.toNat, none⟩ = some (.slice As0_0 (rd_L2 x0 x5).length cs0_0) := by have h_ := hcc0 0 _ rfl; simp only [show ((Kd.slice 5 (Kd.int .u8))).sz = 1 from rfl, Nat.mul_one, Nat.add_zero] at h_; exact h_
      have hf0_0 : wr.frozen? ⟨go5, x5.toNat, none⟩ = false := by have h_ := hfr0 0; simp only [show ((Kd.slice 5 (Kd.int .u8))).sz = 1 from rfl, Nat.mul_one, Nat.add_zero] at h_; exact h_
      have HH0 := Xam hH0
      have HX0 := Xam hok0
      clear hH0 hok0 hcc0 hfr0 hcl0
      (try clear hM0)
      have HR0_0 := Xam hR0_0
      clear hR0_0
      go_wp2_with (((with_reducible refine gate_callee (f := 20) rfl ?_); refine goesL_ (some 17) rfl rfl Try.func20 (by kernel_rfl) rfl #[.slice As0_0 (rd_L2 x0 x5).length cs0_0, .int .i64 x1] rfl (by (try simp only [List.map_toArray, List.map_cons, List.map_nil]); first | done | rfl) ?_; (with_reducible refine (laws_markByteS.calls k1 ok0 _ (rd_L2 x0 x5) x1 t0a t0b w0 _ HB.out ?side1 E0.out).mono ?_); (case side1 => exact HR0_0.out); rintro e wm0 ⟨rfl, hy_, hb_, hkp_⟩; refine ⟨_, rfl, ?_⟩; have hn0_0 := (Kd.R_reok rfl hy_ (fun k_ e_ => HR0_0.out.1 k_ e_)); have hs_ : Kd.S (Kd.slice 5 (Kd.int .u8)) 22 wm0 w0.heap.size P0_ (.slice (some ⟨go5, 0, none⟩) x0.length co5) (x0.set x5.toNat t0b) := Kd.H_back (Kd.H_step HH0.out (fun k_ h1_ h2_ h3_ => hkp_.2 k_ h3_ h2_)) ⟨_, rfl, hn0_0⟩ (fun _ h_ => h_); replace HO := Xam hs_; replace HB := Xam hb_; replace HK := Xam (Kept.then_ HK.out hkp_ (fun k_ h_ => .inl (HX0.out k_ h_).1)); clear hy_ hkp_ hn0_0; clear hs_ hb_; clear hx0_0 hf0_0; obtain ⟨y0, hy0⟩ : ∃ y_, y_ = x0.set x5.toNat t0b := ⟨_, rfl⟩; rw [← hy0] at HO; have HY0 := Xam hy0; clear hy0))
      have hfin : y0 = x0.set (x5 : Int).toNat t0b := by rw [HY0.out]
      rw [hfin] at HO
      clear hfin
      go_roundg k1
      case measure => have := HK1.out; omega
      case rel => exact ⟨_, _, _, (by first | rfl | (simp; done) | (simp [*]; done)), (by first | rfl | (simp; done) | (simp [*]; done)), H', ⟨by have := HK1.out; omega⟩, HO, HK, HB⟩

end Go.Proofs.Ytcdaiclfomekhaa.Q
