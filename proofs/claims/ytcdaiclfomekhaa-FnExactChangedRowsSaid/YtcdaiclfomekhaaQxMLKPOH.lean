-- written by a program of this session (qprint.py) over the kit's print.py
import Derived.Test.YtcdaiclfomekhaaQx0
import Derived.Test.YtcdaiclfomekhaaQxBEFLCN
namespace Go.Proofs.Ytcdaiclfomekhaa.Q
open Go.RowKit Go.Proofs.YtcdaiclfomekhaaW.PrintWords Go.Proofs.YtcdaiclfomekhaaW.PrintLast Go.Proofs.YtcdaiclfomekhaaW.PrintMore Go.Proofs.YtcdaiclfomekhaaW.PrintWords Go.Proofs.YtcdaiclfomekhaaW.PrintWords.QPW
attribute [local go_sem] max2_int min2_int max_two min_two max_three min_three max_four min_four   -- for this text's walks alone
set_option linter.unusedVariables false
set_option linter.unusedSimpArgs false

/-! ### laws_markDatabase: function 74 -/
def laws_markDatabase.f (k : Nat) (l0_0 : List (List Int)) (a1 : Int) : Option (Int × List (List Int)) := (laws_markByteSS.f k l0_0 a1).bind fun bt4 => (some (bt4.1, bt4.2))
set_option maxHeartbeats 8000000 in
set_option maxRecDepth 100000 in
theorem laws_markDatabase.calls (k : Nat) (P0_0_ : Nat → Prop) (u9000_ : Value) (l0_0 : List (List Int)) (a1 : Int) (r1 : Int) (r2 : List (List Int)) (w0 w : World) (hB : Below w0.heap.size w0 w) (ho0_0 : Kd.S (Kd.slice 5 (Kd.int .u8)) 22 w w0.heap.size P0_0_ u9000_ l0_0) (h : laws_markDatabase.f k l0_0 a1 = some (r1, r2)) :
    Calls Try.prog 74 #[.agg #[u9000_], .int .i64 a1] w fun e w' => e = .returned (.int .i64 r1) ∧ Kd.S (Kd.slice 5 (Kd.int .u8)) 22 w' w0.heap.size P0_0_ u9000_ r2 ∧ Below w0.heap.size w0 w' ∧ Kept w w' (fun k_ => P0_0_ k_) := by
  have hu38 := Try.underlying38
  have HO0_0 := Xam ho0_0
  have HB := Xam hB
  have HK := Xam (Kept.refl w (fun k_ => P0_0_ k_))
  have OC := Xam (Nat.le_refl w.heap.size)
  clear ho0_0 hB
  obtain ⟨Ao9_, co9_, eo9_⟩ := Kd.S_slice HO0_0.out
  subst eo9_
  have H := h
  clear h
  unfold laws_markDatabase.f at H
  replace H := Option.bind_eq_some_iff.mp H
  obtain ⟨⟨t4, t5⟩, E6_, H⟩ := H
  (try dsimp only at H)
  have E6 := Xam E6_
  clear E6_
  simp only [Option.some.injEq, Prod.mk.injEq] at H
  obtain ⟨rfl, rfl⟩ := H
  go_enter Try.func74, Try.ntmps74
  go_wp2_with (first | ((with_reducible refine gate_dst (N := 2) rfl ?_); refine box_event ?hg (N := 2) ?hd (cs := #[(.slice Ao9_ l0_0.length co9_)]) (t := 38) ?hr ?_; (case hd => rfl); (case hg => rfl); (case hr => first | (go_simp; done) | (go_simp; rfl)); intro gb1 hg_ w2 hbox hb; have GB1 := Xam (box_iv hg_ hbox); replace HO0_0 := Xam (Kd.S_below HO0_0.out hb); replace HK := Xam (Kept.below HK.out hb); replace HB := Xam (Xbt HB.out hb); replace OC := Xam (And.intro (Below.size hb) OC.out); have BK1 := Xam hbox; clear hb hbox hg_; have hcz1 : w2.cell? ⟨gb1, 0, none⟩ = some ((.slice Ao9_ l0_0.length co9_)) := (Xbc BK1.out 0).trans rfl) | ((with_reducible refine gate_callee (f := 148) rfl ?_); refine goesL_ (some 8) rfl rfl Try.func148 (by kernel_rfl) rfl #[(.slice Ao9_ l0_0.length co9_), .int .i64 a1] rfl (by (try simp only [List.map_toArray, List.map_cons, List.map_nil]); first | done | rfl) ?_; (try clear hcz1); (with_reducible refine (laws_markByteSS.calls k P0_0_ (.slice Ao9_ l0_0.length co9_) l0_0 a1 t4 t5 w0 _ ?side2 ?side1 E6.out).mono ?_); (case side1 => exact HO0_0.out); (case side2 => exact HB.out); rintro e w3 ⟨rfl, hy, hb, hkp⟩; refine ⟨_, rfl, ?_⟩; replace HO0_0 := Xam hy; replace HK := Xam (Kept.then_ HK.out hkp (fun k_ h_ => .inl h_)); clear BK1; replace HB := Xam hb; replace OC := Xam (And.intro hkp.1 OC.out); clear hy hb hkp))
  go_ret
  exact ⟨by first | rfl | (simp; done), HO0_0.out, HB.out, HK.out⟩

end Go.Proofs.Ytcdaiclfomekhaa.Q
