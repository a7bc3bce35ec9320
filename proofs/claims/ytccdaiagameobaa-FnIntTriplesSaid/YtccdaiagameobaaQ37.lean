-- Printed by a program of this project's own, for this seat.
import Derived.Test.YtccdaiagameobaaQ0
import Derived.Test.YtccdaiagameobaaQ13
import Derived.Test.YtccdaiagameobaaQ15
import Derived.Test.YtccdaiagameobaaQ18
import Derived.Test.YtccdaiagameobaaQ21
namespace Go.Proofs.Ytccdaiagameobaa.Q
open Go.RowKit Go.Proofs.YtccdaiagameobaaW.PrintWords Go.Proofs.YtccdaiagameobaaW.PrintLast Go.Proofs.YtccdaiagameobaaW.PrintMore
attribute [local go_sem] max2_int min2_int max_two min_two max_three min_three max_four min_four   -- for this text's walks alone
set_option linter.unusedVariables false
set_option linter.unusedSimpArgs false

/-! ### laws_FnIntTriples: function 9 -/
def laws_FnIntTriples.j0 : Nat → ByteArray → ByteArray → ByteArray → Bool → Option (Bool)
  | 0, _, _, _, _ => none
  | k + 1, x3, x11, x13, x66 => if x66 = true then ((spec_IntOk.f k x3).bind fun t712 => ((impl_IntOk.f k x3).bind fun t713 => (if (t712 == t713) = true then (some true) else (some false)))) else (if x11.toList = x13.toList then (some true) else (some false))
def laws_FnIntTriples.f (k : Nat) (l0 : List Int) : Option (Bool) := if (l0.length : Int) > 1048576 then (some true) else ((spec_DrawIntAdd.f k l0).bind fun bt697 => ((spec_Half.f l0).bind fun t699 => ((spec_DrawIntAdd.f k t699).bind fun bt702 => ((impl_IntAdd.f k bt697.1 bt697.2).bind fun bt704 => ((impl_IntAdd.f k bt697.2 bt702.1).bind fun bt706 => ((impl_IntAdd.f k bt704.1 bt702.1).bind fun bt708 => ((impl_IntAdd.f k bt697.1 bt706.1).bind fun bt710 => (if bt704.2 = true then (if bt706.2 = true then (if bt708.2 = true then (laws_FnIntTriples.j0 k bt697.1 bt708.1 bt710.1 (!bt710.2)) else (laws_FnIntTriples.j0 k bt697.1 bt708.1 bt710.1 true)) else (laws_FnIntTriples.j0 k bt697.1 bt708.1 bt710.1 true)) else (laws_FnIntTriples.j0 k bt697.1 bt708.1 bt710.1 true)))))))))
theorem laws_FnIntTriples.mono_l : ∀ k, (∀ y0 y1 y2 y3, LeO (laws_FnIntTriples.j0 k y0 y1 y2 y3) (laws_FnIntTriples.j0 (k + 1) y0 y1 y2 y3))
  | 0 => fun _ _ _ _ r h => by simp [laws_FnIntTriples.j0] at h
  | k + 1 => by
    have ih0 := laws_FnIntTriples.mono_l k
    · intro y0 y1 y2 y3
      unfold laws_FnIntTriples.j0
      repeat' first
      | (with_reducible exact ih0 _ _ _ _)
      | (with_reducible exact impl_IntAdd.mono _ _ _)
      | (with_reducible exact impl_IntOk.mono _ _)
      | (with_reducible exact spec_DrawIntAdd.mono _ _)
      | (with_reducible exact spec_IntOk.mono _ _)
      | (with_reducible exact LeO.refl _)
      | (with_reducible exact LeO.none _)
      | (with_reducible refine LeO.ite ?_ ?_)
      | (with_reducible refine LeO.bind ?_ (fun _ => ?_))
      | exact ih0 _ _ _ _
      | exact impl_IntAdd.mono _ _ _
      | exact impl_IntOk.mono _ _
      | exact spec_DrawIntAdd.mono _ _
      | exact spec_IntOk.mono _ _
      | exact LeO.none _
      | refine LeO.ite ?_ ?_
      | refine LeO.bind ?_ (fun _ => ?_)
theorem laws_FnIntTriples.mono : ∀ a0 k, LeO (laws_FnIntTriples.f k a0) (laws_FnIntTriples.f (k + 1) a0) := by
  intro a0 k
  have ih0 := laws_FnIntTriples.mono_l k
  unfold laws_FnIntTriples.f
  repeat' first
      | (with_reducible exact ih0 _ _ _ _)
      | (with_reducible exact impl_IntAdd.mono _ _ _)
      | (with_reducible exact impl_IntOk.mono _ _)
      | (with_reducible exact spec_DrawIntAdd.mono _ _)
      | (with_reducible exact spec_IntOk.mono _ _)
      | (with_reducible exact LeO.refl _)
      | (with_reducible exact LeO.none _)
      | (with_reducible refine LeO.ite ?_ ?_)
      | (with_reducible refine LeO.bind ?_ (fun _ => ?_))
      | exact ih0 _ _ _ _
      | exact impl_IntAdd.mono _ _ _
      | exact impl_IntOk.mono _ _
      | exact spec_DrawIntAdd.mono _ _
      | exact spec_IntOk.mono _ _
      | exact LeO.none _
      | refine LeO.ite ?_ ?_
      | refine LeO.bind ?_ (fun _ => ?_)
set_option maxHeartbeats 8000000 in
set_option maxRecDepth 100000 in
theorem laws_FnIntTriples.calls (k : Nat) (A0 : Option Addr) (c0 : Nat) (l0 : List Int) (r : Bool) (w : World) (hr0 : Kd.C (Kd.int .u8) w A0 l0.length l0) (hc0 : l0.length ≤ c0) (h : laws_FnIntTriples.f k l0 = some r) :
    Calls Try.prog 9 #[.slice A0 l0.length c0] w fun e w' => e = .returned (.bool r) ∧ Below w.heap.size w w' := by
  have HR0 := Aside0.mk hr0
  have HC0 := Aside0.mk hc0
  clear hr0 hc0
  have HB := Aside0.mk (Below.refl w.heap.size w)
  have H : (if (l0.length : Int) > 1048576 then (some true) else ((spec_DrawIntAdd.f k l0).bind fun bt697 => ((spec_Half.f l0).bind fun t699 => ((spec_DrawIntAdd.f k t699).bind fun bt702 => ((impl_IntAdd.f k bt697.1 bt697.2).bind fun bt704 => ((impl_IntAdd.f k bt697.2 bt702.1).bind fun bt706 => ((impl_IntAdd.f k bt704.1 bt702.1).bind fun bt708 => ((impl_IntAdd.f k bt697.1 bt706.1).bind fun bt710 => (if bt704.2 = true then (if bt706.2 = true then (if bt708.2 = true then (laws_FnIntTriples.j0 k bt697.1 bt708.1 bt710.1 (!bt710.2)) else (laws_FnIntTriples.j0 k bt697.1 bt708.1 bt710.1 true)) else (laws_FnIntTriples.j0 k bt697.1 bt708.1 bt710.1 true)) else (laws_FnIntTriples.j0 k bt697.1 bt708.1 bt710.1 true)))))))))) = some r := h
  clear h
  by_cases c2 : (l0.length : Int) > 1048576
  · rw [if_pos c2] at H
    have c2b0 : decide (1048576 < (l0.length : Int)) = true := decide_eq_true c2
    have c2b1 : decide (1048576 < l0.length) = true := decide_eq_true (by omega)
    clear c2
    obtain rfl := Option.some.inj H
    go_enter Try.func9, Try.ntmps9
    go_wp2
    go_ret
    exact ⟨by first | rfl | (simp [errW_none, errW_some] <;> rfl) | (simp [*, errW_none, errW_some] <;> rfl), by repeat (first | (with_reducible first | exact HB.out | apply below_alloc | apply pw_below_drewN | apply below_drew1) | exact HB.out)⟩
  · rw [if_neg c2] at H
    have c2b0 : decide (1048576 < (l0.length : Int)) = false := decide_eq_false c2
    have c2b1 : decide (1048576 < l0.length) = false := decide_eq_false (by omega)
    clear c2
    replace H := Option.bind_eq_some_iff.mp H
    obtain ⟨⟨t697, t698⟩, A30, H⟩ := H
    replace H : ((spec_Half.f l0).bind fun t699 => ((spec_DrawIntAdd.f k t699).bind fun bt702 => ((impl_IntAdd.f k t697 t698).bind fun bt704 => ((impl_IntAdd.f k t698 bt702.1).bind fun bt706 => ((impl_IntAdd.f k bt704.1 bt702.1).bind fun bt708 => ((impl_IntAdd.f k t697 bt706.1).bind fun bt710 => (if bt704.2 = true then (if bt706.2 = true then (if bt708.2 = true then (laws_FnIntTriples.j0 k t697 bt708.1 bt710.1 (!bt710.2)) else (laws_FnIntTriples.j0 k t697 bt708.1 bt710.1 true)) else (laws_FnIntTriples.j0 k t697 bt708.1 bt710.1 true)) else (laws_FnIntTriples.j0 k t697 bt708.1 bt710.1 true)))))))) = some r := H
    have A3 := Aside0.mk A30
    clear A30
    replace H := Option.bind_eq_some_iff.mp H
    obtain ⟨t699, A40, H⟩ := H
    replace H : ((spec_DrawIntAdd.f k t699).bind fun bt702 => ((impl_IntAdd.f k t697 t698).bind fun bt704 => ((impl_IntAdd.f k t698 bt702.1).bind fun bt706 => ((impl_IntAdd.f k bt704.1 bt702.1).bind fun bt708 => ((impl_IntAdd.f k t697 bt706.1).bind fun bt710 => (if bt704.2 = true then (if bt706.2 = true then (if bt708.2 = true then (laws_FnIntTriples.j0 k t697 bt708.1 bt710.1 (!bt710.2)) else (laws_FnIntTriples.j0 k t697 bt708.1 bt710.1 true)) else (laws_FnIntTriples.j0 k t697 bt708.1 bt710.1 true)) else (laws_FnIntTriples.j0 k t697 bt708.1 bt710.1 true))))))) = some r := H
    have A4 := Aside0.mk A40
    clear A40
    replace H := Option.bind_eq_some_iff.mp H
    obtain ⟨⟨t702, t703⟩, A50, H⟩ := H
    replace H : ((impl_IntAdd.f k t697 t698).bind fun bt704 => ((impl_IntAdd.f k t698 t702).bind fun bt706 => ((impl_IntAdd.f k bt704.1 t702).bind fun bt708 => ((impl_IntAdd.f k t697 bt706.1).bind fun bt710 => (if bt704.2 = true then (if bt706.2 = true then (if bt708.2 = true then (laws_FnIntTriples.j0 k t697 bt708.1 bt710.1 (!bt710.2)) else (laws_FnIntTriples.j0 k t697 bt708.1 bt710.1 true)) else (laws_FnIntTriples.j0 k t697 bt708.1 bt710.1 true)) else (laws_FnIntTriples.j0 k t697 bt708.1 bt710.1 true)))))) = some r := H
    have A5 := Aside0.mk A50
    clear A50
    replace H := Option.bind_eq_some_iff.mp H
    obtain ⟨⟨t704, t705⟩, A60, H⟩ := H
    replace H : ((impl_IntAdd.f k t698 t702).bind fun bt706 => ((impl_IntAdd.f k t704 t702).bind fun bt708 => ((impl_IntAdd.f k t697 bt706.1).bind fun bt710 => (if t705 = true then (if bt706.2 = true then (if bt708.2 = true then (laws_FnIntTriples.j0 k t697 bt708.1 bt710.1 (!bt710.2)) else (laws_FnIntTriples.j0 k t697 bt708.1 bt710.1 true)) else (laws_FnIntTriples.j0 k t697 bt708.1 bt710.1 true)) else (laws_FnIntTriples.j0 k t697 bt708.1 bt710.1 true))))) = some r := H
    have A6 := Aside0.mk A60
    clear A60
    replace H := Option.bind_eq_some_iff.mp H
    obtain ⟨⟨t706, t707⟩, A70, H⟩ := H
    replace H : ((impl_IntAdd.f k t704 t702).bind fun bt708 => ((impl_IntAdd.f k t697 t706).bind fun bt710 => (if t705 = true then (if t707 = true then (if bt708.2 = true then (laws_FnIntTriples.j0 k t697 bt708.1 bt710.1 (!bt710.2)) else (laws_FnIntTriples.j0 k t697 bt708.1 bt710.1 true)) else (laws_FnIntTriples.j0 k t697 bt708.1 bt710.1 true)) else (laws_FnIntTriples.j0 k t697 bt708.1 bt710.1 true)))) = some r := H
    have A7 := Aside0.mk A70
    clear A70
    replace H := Option.bind_eq_some_iff.mp H
    obtain ⟨⟨t708, t709⟩, A80, H⟩ := H
    replace H : ((impl_IntAdd.f k t697 t706).bind fun bt710 => (if t705 = true then (if t707 = true then (if t709 = true then (laws_FnIntTriples.j0 k t697 t708 bt710.1 (!bt710.2)) else (laws_FnIntTriples.j0 k t697 t708 bt710.1 true)) else (laws_FnIntTriples.j0 k t697 t708 bt710.1 true)) else (laws_FnIntTriples.j0 k t697 t708 bt710.1 true))) = some r := H
    have A8 := Aside0.mk A80
    clear A80
    replace H := Option.bind_eq_some_iff.mp H
    obtain ⟨⟨t710, t711⟩, A90, H⟩ := H
    replace H : (if t705 = true then (if t707 = true then (if t709 = true then (laws_FnIntTriples.j0 k t697 t708 t710 (!t711)) else (laws_FnIntTriples.j0 k t697 t708 t710 true)) else (laws_FnIntTriples.j0 k t697 t708 t710 true)) else (laws_FnIntTriples.j0 k t697 t708 t710 true)) = some r := H
    have A9 := Aside0.mk A90
    clear A90
    have HC10 := Aside0.mk H
    clear H
    go_enter Try.func9, Try.ntmps9
    go_upto_region 9 with (first | ((with_reducible refine gate_callee (f := 29) rfl ?_); refine goesL_ (some 20) rfl rfl Try.func29 (by kernel_rfl) rfl #[.slice A0 l0.length c0] rfl (by (try simp only [List.map_toArray, List.map_cons, List.map_nil]); first | done | rfl | (simp only [List.length_drop, List.length_take]; rfl)) ?_; (with_reducible refine (spec_DrawIntAdd.calls k _ _ l0 t697 t698 _ ?side1 ?side2 A3.out).mono ?_); (case side1 => repeat (first | exact HR0.out | (with_reducible refine Kd.C_alloc ?_ _) | (with_reducible refine Kd.C_drewN ?_ _) | (with_reducible refine Kd.C_drew ?_))); (case side2 => exact HC0.out); rintro e w11 ⟨rfl, hb⟩; refine ⟨_, rfl, ?_⟩; have n0_ := Aside0.mk (below_step (by repeat (first | (with_reducible first | exact HB.out | apply below_alloc | apply pw_below_drewN | apply below_drew1) | exact HB.out)) hb); clear HB; have HB := n0_; clear n0_; (try clear hb); (try clear hb2); (try clear hk); (try clear hi)) | ((with_reducible refine gate_callee (f := 30) rfl ?_); refine goesL_ (some 25) rfl rfl Try.func30 (by kernel_rfl) rfl #[.slice A0 l0.length c0] rfl (by (try simp only [List.map_toArray, List.map_cons, List.map_nil]); first | done | rfl | (simp only [List.length_drop, List.length_take]; rfl)) ?_; (with_reducible refine (spec_Half.calls (fun k_ => k_ < w.heap.size) _ _ l0 t699 _ ?side1 A4.out).mono ?_); (case side1 => exact Kd.V_mk HC0.out (Kd.F_below (Kd.C_F (Kd.heap_int .u8) HR0.out) (by repeat (first | (with_reducible first | exact HB.out | apply below_alloc | apply pw_below_drewN | apply below_drew1) | exact HB.out)))); rintro e w12 ⟨v700, rfl, ho0, hb⟩; refine ⟨_, rfl, ?_⟩; have n0_ := Aside0.mk (Kd.V_lower (Kd.V_mono (ok' := fun k_ => True) ho0 (fun k_ hk_ => trivial)) (below_size (by repeat (first | (with_reducible first | exact HB.out | apply below_alloc | apply pw_below_drewN | apply below_drew1) | exact HB.out)))); have n1_ := Aside0.mk (below_step (by repeat (first | (with_reducible first | exact HB.out | apply below_alloc | apply pw_below_drewN | apply below_drew1) | exact HB.out)) hb); clear HB; have HO701 := n0_; have HB := n1_; clear n0_ n1_; (try clear hb); (try clear hb2); (try clear hk); (try clear hi); (try clear ho0); obtain ⟨Ao13, co13, eo13⟩ := Kd.V_slice HO701.out; subst eo13) | ((with_reducible refine gate_callee (f := 29) rfl ?_); refine goesL_ (some 26) rfl rfl Try.func29 (by kernel_rfl) rfl #[.slice Ao13 t699.length co13] rfl (by (try simp only [List.map_toArray, List.map_cons, List.map_nil]); first | done | rfl | (simp only [List.length_drop, List.length_take]; rfl)) ?_; (with_reducible refine (spec_DrawIntAdd.calls k _ _ t699 t702 t703 _ ?side1 ?side2 A5.out).mono ?_); (case side1 => repeat (first | exact (Kd.V_reads' HO701.out).2.2 | (with_reducible refine Kd.C_alloc ?_ _) | (with_reducible refine Kd.C_drewN ?_ _) | (with_reducible refine Kd.C_drew ?_))); (case side2 => exact (Kd.V_reads' HO701.out).2.1); rintro e w14 ⟨rfl, hb⟩; refine ⟨_, rfl, ?_⟩; have n0_ := Aside0.mk (Kd.V_below (by (with_reducible repeat (first | apply Kd.V_alloc | apply Kd.V_drewN | apply Kd.V_drew)); exact HO701.out) hb); have n1_ := Aside0.mk (below_step (by repeat (first | (with_reducible first | exact HB.out | apply below_alloc | apply pw_below_drewN | apply below_drew1) | exact HB.out)) hb); clear HO701; clear HB; have HO701 := n0_; have HB := n1_; clear n0_ n1_; (try clear hb); (try clear hb2); (try clear hk); (try clear hi)) | ((with_reducible refine gate_callee (f := 17) rfl ?_); refine goesL_ (some 32) rfl rfl Try.func17 (by kernel_rfl) rfl #[.string t697, .string t698] rfl (by (try simp only [List.map_toArray, List.map_cons, List.map_nil]); first | done | rfl | (simp only [List.length_drop, List.length_take]; rfl)) ?_; (with_reducible refine (impl_IntAdd.calls k t697 t698 t704 t705 _ A6.out).mono ?_); rintro e w15 ⟨rfl, hb⟩; refine ⟨_, rfl, ?_⟩; have n0_ := Aside0.mk (Kd.V_below (by (with_reducible repeat (first | apply Kd.V_alloc | apply Kd.V_drewN | apply Kd.V_drew)); exact HO701.out) hb); have n1_ := Aside0.mk (below_step (by repeat (first | (with_reducible first | exact HB.out | apply below_alloc | apply pw_below_drewN | apply below_drew1) | exact HB.out)) hb); clear HO701; clear HB; have HO701 := n0_; have HB := n1_; clear n0_ n1_; (try clear hb); (try clear hb2); (try clear hk); (try clear hi)) | ((with_reducible refine gate_callee (f := 17) rfl ?_); refine goesL_ (some 38) rfl rfl Try.func17 (by kernel_rfl) rfl #[.string t698, .string t702] rfl (by (try simp only [List.map_toArray, List.map_cons, List.map_nil]); first | done | rfl | (simp only [List.length_drop, List.length_take]; rfl)) ?_; (with_reducible refine (impl_IntAdd.calls k t698 t702 t706 t707 _ A7.out).mono ?_); rintro e w16 ⟨rfl, hb⟩; refine ⟨_, rfl, ?_⟩; have n0_ := Aside0.mk (Kd.V_below (by (with_reducible repeat (first | apply Kd.V_alloc | apply Kd.V_drewN | apply Kd.V_drew)); exact HO701.out) hb); have n1_ := Aside0.mk (below_step (by repeat (first | (with_reducible first | exact HB.out | apply below_alloc | apply pw_below_drewN | apply below_drew1) | exact HB.out)) hb); clear HO701; clear HB; have HO701 := n0_; have HB := n1_; clear n0_ n1_; (try clear hb); (try clear hb2); (try clear hk); (try clear hi)) | ((with_reducible refine gate_callee (f := 17) rfl ?_); refine goesL_ (some 44) rfl rfl Try.func17 (by kernel_rfl) rfl #[.string t704, .string t702] rfl (by (try simp only [List.map_toArray, List.map_cons, List.map_nil]); first | done | rfl | (simp only [List.length_drop, List.length_take]; rfl)) ?_; (with_reducible refine (impl_IntAdd.calls k t704 t702 t708 t709 _ A8.out).mono ?_); rintro e w17 ⟨rfl, hb⟩; refine ⟨_, rfl, ?_⟩; have n0_ := Aside0.mk (Kd.V_below (by (with_reducible repeat (first | apply Kd.V_alloc | apply Kd.V_drewN | apply Kd.V_drew)); exact HO701.out) hb); have n1_ := Aside0.mk (below_step (by repeat (first | (with_reducible first | exact HB.out | apply below_alloc | apply pw_below_drewN | apply below_drew1) | exact HB.out)) hb); clear HO701; clear HB; have HO701 := n0_; have HB := n1_; clear n0_ n1_; (try clear hb); (try clear hb2); (try clear hk); (try clear hi)) | ((with_reducible refine gate_callee (f := 17) rfl ?_); refine goesL_ (some 50) rfl rfl Try.func17 (by kernel_rfl) rfl #[.string t697, .string t706] rfl (by (try simp only [List.map_toArray, List.map_cons, List.map_nil]); first | done | rfl | (simp only [List.length_drop, List.length_take]; rfl)) ?_; (with_reducible refine (impl_IntAdd.calls k t697 t706 t710 t711 _ A9.out).mono ?_); rintro e w18 ⟨rfl, hb⟩; refine ⟨_, rfl, ?_⟩; have n0_ := Aside0.mk (Kd.V_below (by (with_reducible repeat (first | apply Kd.V_alloc | apply Kd.V_drewN | apply Kd.V_drew)); exact HO701.out) hb); have n1_ := Aside0.mk (below_step (by repeat (first | (with_reducible first | exact HB.out | apply below_alloc | apply pw_below_drewN | apply below_drew1) | exact HB.out)) hb); clear HO701; clear HB; have HO701 := n0_; have HB := n1_; clear n0_ n1_; (try clear hb); (try clear hb2); (try clear hk); (try clear hi)))
    (try simp only [Act.put, List.setIfInBounds_toArray, List.set_cons_zero, List.set_cons_succ])
    go_cut [66] (fun v66 wc => ∃ (kq : Nat) (x66_9 : Bool), v66 = .bool x66_9 ∧ Aside0 (laws_FnIntTriples.j0 kq t697 t708 t710 x66_9 = some r) ∧ Aside0 (kq ≤ k) ∧ Aside0 (Below w.heap.size w wc))
    case first =>
      have H := HC10.out
      clear HC10
      by_cases c19 : t705 = true
      · subst c19
        have H1 : (if t707 = true then (if t709 = true then (laws_FnIntTriples.j0 k t697 t708 t710 (!t711)) else (laws_FnIntTriples.j0 k t697 t708 t710 true)) else (laws_FnIntTriples.j0 k t697 t708 t710 true)) = some r := by rw [if_pos rfl] at H; exact H
        clear H
        have H := H1
        clear H1
        by_cases c20 : t707 = true
        · subst c20
          have H1 : (if t709 = true then (laws_FnIntTriples.j0 k t697 t708 t710 (!t711)) else (laws_FnIntTriples.j0 k t697 t708 t710 true)) = some r := by rw [if_pos rfl] at H; exact H
          clear H
          have H := H1
          clear H1
          by_cases c21 : t709 = true
          · subst c21
            have H1 : (laws_FnIntTriples.j0 k t697 t708 t710 (!t711)) = some r := by rw [if_pos rfl] at H; exact H
            clear H
            have H := H1
            clear H1
            have H' := Aside0.mk H
            clear H
            go_wp2
            go_meet
            case rel => exact ⟨_, (!t711), (by first | rfl | (simp; done) | (simp [*]; done)), H', ⟨by first | omega | exact Nat.le_refl _⟩, ⟨by repeat (first | (with_reducible first | exact HB.out | apply below_alloc | apply pw_below_drewN | apply below_drew1) | exact HB.out)⟩⟩
          · replace c21 := Bool.eq_false_iff.mpr c21
            subst c21
            have H1 : (laws_FnIntTriples.j0 k t697 t708 t710 true) = some r := by rw [if_neg (show ¬ (false = true) by decide)] at H; exact H
            clear H
            have H := H1
            clear H1
            have H' := Aside0.mk H
            clear H
            go_wp2
            go_meet
            case rel => exact ⟨_, (true), (by first | rfl | (simp; done) | (simp [*]; done)), H', ⟨by first | omega | exact Nat.le_refl _⟩, ⟨by repeat (first | (with_reducible first | exact HB.out | apply below_alloc | apply pw_below_drewN | apply below_drew1) | exact HB.out)⟩⟩
        · replace c20 := Bool.eq_false_iff.mpr c20
          subst c20
          have H1 : (laws_FnIntTriples.j0 k t697 t708 t710 true) = some r := by rw [if_neg (show ¬ (false = true) by decide)] at H; exact H
          clear H
          have H := H1
          clear H1
          have H' := Aside0.mk H
          clear H
          go_wp2
          go_meet
          case rel => exact ⟨_, (true), (by first | rfl | (simp; done) | (simp [*]; done)), H', ⟨by first | omega | exact Nat.le_refl _⟩, ⟨by repeat (first | (with_reducible first | exact HB.out | apply below_alloc | apply pw_below_drewN | apply below_drew1) | exact HB.out)⟩⟩
      · replace c19 := Bool.eq_false_iff.mpr c19
        subst c19
        have H1 : (laws_FnIntTriples.j0 k t697 t708 t710 true) = some r := by rw [if_neg (show ¬ (false = true) by decide)] at H; exact H
        clear H
        have H := H1
        clear H1
        have H' := Aside0.mk H
        clear H
        go_wp2
        go_meet
        case rel => exact ⟨_, (true), (by first | rfl | (simp; done) | (simp [*]; done)), H', ⟨by first | omega | exact Nat.le_refl _⟩, ⟨by repeat (first | (with_reducible first | exact HB.out | apply below_alloc | apply pw_below_drewN | apply below_drew1) | exact HB.out)⟩⟩
    case rest =>
      clear HC10
      try clear c1
      try clear c2
      try clear c2b0
      try clear c2b1
      try clear p2
      try clear c3
      try clear c9
      try clear c17
      try clear c19
      try clear c20
      try clear c21
      obtain ⟨kq, x66_9, rfl, HA, HJ9, HB⟩ := hcut
      cases kq with
      | zero => exact absurd HA.out (by simp [laws_FnIntTriples.j0])
      | succ kj9 =>
        have H := HA.out
        clear HA
        simp only [laws_FnIntTriples.j0] at H
        by_cases c22 : x66_9 = true
        · subst c22
          have H1 : ((spec_IntOk.f kj9 t697).bind fun t712 => ((impl_IntOk.f kj9 t697).bind fun t713 => (if (t712 == t713) = true then (some true) else (some false)))) = some r := by rw [if_pos rfl] at H; exact H
          clear H
          have H := H1
          clear H1
          replace H := Option.bind_eq_some_iff.mp H
          obtain ⟨t712, A230, H⟩ := H
          replace H : ((impl_IntOk.f kj9 t697).bind fun t713 => (if (t712 == t713) = true then (some true) else (some false))) = some r := H
          have A23 := Aside0.mk A230
          clear A230
          replace H := Option.bind_eq_some_iff.mp H
          obtain ⟨t713, A240, H⟩ := H
          replace H : (if (t712 == t713) = true then (some true) else (some false)) = some r := H
          have A24 := Aside0.mk A240
          clear A240
          by_cases c25 : (t712 == t713) = true
          · rw [if_pos c25] at H
            have c25b0 : (t712 == t713) = true := c25
            (try (have c25b1 : decide (t712 = t713) = true := by simpa using c25))
            (try (have c25b2 : (t712 == t713) = true := by simpa using c25))
            clear c25
            obtain rfl := Option.some.inj H
            go_wp2_with (first | ((with_reducible refine gate_callee (f := 28) rfl ?_); refine goesL_ (some 68) rfl rfl Try.func28 (by kernel_rfl) rfl #[.string t697] rfl (by (try simp only [List.map_toArray, List.map_cons, List.map_nil]); first | done | rfl | (simp only [List.length_drop, List.length_take]; rfl)) ?_; (with_reducible refine (spec_IntOk.calls kj9 t697 t712 _ A23.out).mono ?_); rintro e w' ⟨rfl, ⟨nd, rfl⟩⟩; refine ⟨_, rfl, ?_⟩) | ((with_reducible refine gate_callee (f := 27) rfl ?_); refine goesL_ (some 70) rfl rfl Try.func27 (by kernel_rfl) rfl #[.string t697] rfl (by (try simp only [List.map_toArray, List.map_cons, List.map_nil]); first | done | rfl | (simp only [List.length_drop, List.length_take]; rfl)) ?_; (with_reducible refine (impl_IntOk.calls kj9 t697 t713 _ A24.out).mono ?_); rintro e w26 ⟨rfl, hb⟩; refine ⟨_, rfl, ?_⟩; have n0_ := Aside0.mk (below_step (by repeat (first | (with_reducible first | exact HB.out | apply below_alloc | apply pw_below_drewN | apply below_drew1) | exact HB.out)) hb); clear HB; have HB := n0_; clear n0_; (try clear hb); (try clear hb2); (try clear hk); (try clear hi)))
            go_ret
            exact ⟨by first | rfl | (simp [errW_none, errW_some] <;> rfl) | (simp [*, errW_none, errW_some] <;> rfl), by repeat (first | (with_reducible first | exact HB.out | apply below_alloc | apply pw_below_drewN | apply below_drew1) | exact HB.out)⟩
          · rw [if_neg c25] at H
            have c25b0 : (t712 == t713) = false := by simpa using c25
            (try (have c25b1 : decide (t712 = t713) = false := by simpa using c25))
            (try (have c25b2 : (t712 == t713) = false := by simpa using c25))
            (try (have c25b3 : ¬ (t712 = t713) := by simpa using c25))
            clear c25
            obtain rfl := Option.some.inj H
            go_wp2_with (first | ((with_reducible refine gate_callee (f := 28) rfl ?_); refine goesL_ (some 68) rfl rfl Try.func28 (by kernel_rfl) rfl #[.string t697] rfl (by (try simp only [List.map_toArray, List.map_cons, List.map_nil]); first | done | rfl | (simp only [List.length_drop, List.length_take]; rfl)) ?_; (with_reducible refine (spec_IntOk.calls kj9 t697 t712 _ A23.out).mono ?_); rintro e w' ⟨rfl, ⟨nd, rfl⟩⟩; refine ⟨_, rfl, ?_⟩) | ((with_reducible refine gate_callee (f := 27) rfl ?_); refine goesL_ (some 70) rfl rfl Try.func27 (by kernel_rfl) rfl #[.string t697] rfl (by (try simp only [List.map_toArray, List.map_cons, List.map_nil]); first | done | rfl | (simp only [List.length_drop, List.length_take]; rfl)) ?_; (with_reducible refine (impl_IntOk.calls kj9 t697 t713 _ A24.out).mono ?_); rintro e w27 ⟨rfl, hb⟩; refine ⟨_, rfl, ?_⟩; have n0_ := Aside0.mk (below_step (by repeat (first | (with_reducible first | exact HB.out | apply below_alloc | apply pw_below_drewN | apply below_drew1) | exact HB.out)) hb); clear HB; have HB := n0_; clear n0_; (try clear hb); (try clear hb2); (try clear hk); (try clear hi)))
            go_ret
            exact ⟨by first | rfl | (simp [errW_none, errW_some] <;> rfl) | (simp [*, errW_none, errW_some] <;> rfl), by repeat (first | (with_reducible first | exact HB.out | apply below_alloc | apply pw_below_drewN | apply below_drew1) | exact HB.out)⟩
        · replace c22 := Bool.eq_false_iff.mpr c22
          subst c22
          have H1 : (if t708.toList = t710.toList then (some true) else (some false)) = some r := by rw [if_neg (show ¬ (false = true) by decide)] at H; exact H
          clear H
          have H := H1
          clear H1
          by_cases c28 : t708.toList = t710.toList
          · rw [if_pos c28] at H
            have c28b0 : (t708.toList == t710.toList) = true := beq_iff_eq.mpr c28
            have c28b1 : (t708.toList != t710.toList) = false := bne_eq_false_iff_eq.mpr c28
            clear c28
            obtain rfl := Option.some.inj H
            go_wp2
            go_ret
            exact ⟨by first | rfl | (simp [errW_none, errW_some] <;> rfl) | (simp [*, errW_none, errW_some] <;> rfl), by repeat (first | (with_reducible first | exact HB.out | apply below_alloc | apply pw_below_drewN | apply below_drew1) | exact HB.out)⟩
          · rw [if_neg c28] at H
            have c28b0 : (t708.toList == t710.toList) = false := beq_eq_false_iff_ne.mpr c28
            have c28b1 : (t708.toList != t710.toList) = true := bne_iff_ne.mpr c28
            obtain rfl := Option.some.inj H
            go_wp2
            go_ret
            exact ⟨by first | rfl | (simp [errW_none, errW_some] <;> rfl) | (simp [*, errW_none, errW_some] <;> rfl), by repeat (first | (with_reducible first | exact HB.out | apply below_alloc | apply pw_below_drewN | apply below_drew1) | exact HB.out)⟩

/-- THE ONE PURE STATEMENT of laws_FnIntTriples: yours. -/
def laws_FnIntTriples.Pure : Prop := ∀ (l0 : List Int), l0.length ≤ maxLen → l0.length * 1 ≤ 140737488351232 → (∀ x ∈ l0, (Lit.int .u8 x).wf = true) → ∃ k, laws_FnIntTriples.f k l0 = some true
theorem laws_FnIntTriples.walk (P : laws_FnIntTriples.Pure) (a0 : Option Addr) (len0 cap0 : Nat) (z0 : List Int) (w : World) (w0 : (a0 = none ∧ len0 = 0 ∧ cap0 = 0 ∧ z0 = []) ∨ ∃ x, a0 = some x ∧ len0 ≤ cap0 ∧ cap0 ≤ maxLen ∧ z0.length = cap0 ∧ (∀ i, i < z0.length → w.cell? (x.add i) = some (.int .u8 (z0.getD i 0))) ∧ ∀ n ∈ z0, (Lit.int .u8 n).wf = true) (y0 : len0 * 1 ≤ 140737488351232) :
    Calls Try.prog 9 #[.slice a0 len0 cap0] w fun e w' => e = .returned (.bool true) ∧ Below w.heap.size w w' := by
  obtain ⟨l0, rfl, hr0, hm0, hw0, hc0⟩ := ReadsInt.ofRowC w0
  obtain ⟨k, h⟩ := P l0 hm0 y0 hw0
  refine (laws_FnIntTriples.calls k _ _ l0 true w (Kd.C_of_reads (d := (0 : Int)) (h1 := fun _ => rfl) hr0) hc0 h).mono ?_
  rintro e w' ⟨rfl, hd⟩
  exact ⟨rfl, hd⟩

end Go.Proofs.Ytccdaiagameobaa.Q
