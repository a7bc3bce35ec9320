-- Printed by a program of this project's own, for this seat.
import Derived.Test.YtccdaiagameobaaQ0
import Derived.Test.YtccdaiagameobaaQ13
import Derived.Test.YtccdaiagameobaaQ15
import Derived.Test.YtccdaiagameobaaQ18
import Derived.Test.YtccdaiagameobaaQ19
import Derived.Test.YtccdaiagameobaaQ21
namespace Go.Proofs.Ytccdaiagameobaa.Q
open Go.RowKit Go.Proofs.YtccdaiagameobaaW.PrintWords Go.Proofs.YtccdaiagameobaaW.PrintLast Go.Proofs.YtccdaiagameobaaW.PrintMore
attribute [local go_sem] max2_int min2_int max_two min_two max_three min_three max_four min_four   -- for this text's walks alone
set_option linter.unusedVariables false
set_option linter.unusedSimpArgs false

/-! ### laws_FnIntShares: function 10 -/
def laws_FnIntShares.j0 : Nat → ByteArray → ByteArray → ByteArray → ByteArray → Bool → Option (Bool)
  | 0, _, _, _, _, _ => none
  | k + 1, x3, x9, x11, x13, x68 => if x68 = true then ((spec_IntOk.f k x3).bind fun t756 => ((impl_IntOk.f k x3).bind fun t757 => (if (t756 == t757) = true then (some true) else (some false)))) else ((impl_IntAdd.f k x9 x11).bind fun bt758 => (if bt758.2 = true then (if bt758.1.toList = x13.toList then (some true) else (some false)) else (some false)))
def laws_FnIntShares.f (k : Nat) (l0 : List Int) : Option (Bool) := if (l0.length : Int) > 1048576 then (some true) else ((spec_DrawIntAdd.f k l0).bind fun bt741 => ((spec_Half.f l0).bind fun t743 => ((spec_DrawIntAdd.f k t743).bind fun bt746 => ((impl_IntAdd.f k bt741.2 bt746.1).bind fun bt748 => ((impl_IntMul.f k bt741.1 bt741.2).bind fun bt750 => ((impl_IntMul.f k bt741.1 bt746.1).bind fun bt752 => ((impl_IntMul.f k bt741.1 bt748.1).bind fun bt754 => (if bt748.2 = true then (if bt750.2 = true then (if bt752.2 = true then (laws_FnIntShares.j0 k bt741.1 bt750.1 bt752.1 bt754.1 (!bt754.2)) else (laws_FnIntShares.j0 k bt741.1 bt750.1 bt752.1 bt754.1 true)) else (laws_FnIntShares.j0 k bt741.1 bt750.1 bt752.1 bt754.1 true)) else (laws_FnIntShares.j0 k bt741.1 bt750.1 bt752.1 bt754.1 true)))))))))
theorem laws_FnIntShares.mono_l : ∀ k, (∀ y0 y1 y2 y3 y4, LeO (laws_FnIntShares.j0 k y0 y1 y2 y3 y4) (laws_FnIntShares.j0 (k + 1) y0 y1 y2 y3 y4))
  | 0 => fun _ _ _ _ _ r h => by simp [laws_FnIntShares.j0] at h
  | k + 1 => by
    have ih0 := laws_FnIntShares.mono_l k
    · intro y0 y1 y2 y3 y4
      unfold laws_FnIntShares.j0
      repeat' first
      | (with_reducible exact ih0 _ _ _ _ _)
      | (with_reducible exact impl_IntAdd.mono _ _ _)
      | (with_reducible exact impl_IntMul.mono _ _ _)
      | (with_reducible exact impl_IntOk.mono _ _)
      | (with_reducible exact spec_DrawIntAdd.mono _ _)
      | (with_reducible exact spec_IntOk.mono _ _)
      | (with_reducible exact LeO.refl _)
      | (with_reducible exact LeO.none _)
      | (with_reducible refine LeO.ite ?_ ?_)
      | (with_reducible refine LeO.bind ?_ (fun _ => ?_))
      | exact ih0 _ _ _ _ _
      | exact impl_IntAdd.mono _ _ _
      | exact impl_IntMul.mono _ _ _
      | exact impl_IntOk.mono _ _
      | exact spec_DrawIntAdd.mono _ _
      | exact spec_IntOk.mono _ _
      | exact LeO.none _
      | refine LeO.ite ?_ ?_
      | refine LeO.bind ?_ (fun _ => ?_)
theorem laws_FnIntShares.mono : ∀ a0 k, LeO (laws_FnIntShares.f k a0) (laws_FnIntShares.f (k + 1) a0) := by
  intro a0 k
  have ih0 := laws_FnIntShares.mono_l k
  unfold laws_FnIntShares.f
  repeat' first
      | (with_reducible exact ih0 _ _ _ _ _)
      | (with_reducible exact impl_IntAdd.mono _ _ _)
      | (with_reducible exact impl_IntMul.mono _ _ _)
      | (with_reducible exact impl_IntOk.mono _ _)
      | (with_reducible exact spec_DrawIntAdd.mono _ _)
      | (with_reducible exact spec_IntOk.mono _ _)
      | (with_reducible exact LeO.refl _)
      | (with_reducible exact LeO.none _)
      | (with_reducible refine LeO.ite ?_ ?_)
      | (with_reducible refine LeO.bind ?_ (fun _ => ?_))
      | exact ih0 _ _ _ _ _
      | exact impl_IntAdd.mono _ _ _
      | exact impl_IntMul.mono _ _ _
      | exact impl_IntOk.mono _ _
      | exact spec_DrawIntAdd.mono _ _
      | exact spec_IntOk.mono _ _
      | exact LeO.none _
      | refine LeO.ite ?_ ?_
      | refine LeO.bind ?_ (fun _ => ?_)
set_option maxHeartbeats 8000000 in
set_option maxRecDepth 100000 in
theorem laws_FnIntShares.calls (k : Nat) (A0 : Option Addr) (c0 : Nat) (l0 : List Int) (r : Bool) (w : World) (hr0 : Kd.C (Kd.int .u8) w A0 l0.length l0) (hc0 : l0.length ≤ c0) (h : laws_FnIntShares.f k l0 = some r) :
    Calls Try.prog 10 #[.slice A0 l0.length c0] w fun e w' => e = .returned (.bool r) ∧ Below w.heap.size w w' := by
  have HR0 := Aside0.mk hr0
  have HC0 := Aside0.mk hc0
  clear hr0 hc0
  have HB := Aside0.mk (Below.refl w.heap.size w)
  have H : (if (l0.length : Int) > 1048576 then (some true) else ((spec_DrawIntAdd.f k l0).bind fun bt741 => ((spec_Half.f l0).bind fun t743 => ((spec_DrawIntAdd.f k t743).bind fun bt746 => ((impl_IntAdd.f k bt741.2 bt746.1).bind fun bt748 => ((impl_IntMul.f k bt741.1 bt741.2).bind fun bt750 => ((impl_IntMul.f k bt741.1 bt746.1).bind fun bt752 => ((impl_IntMul.f k bt741.1 bt748.1).bind fun bt754 => (if bt748.2 = true then (if bt750.2 = true then (if bt752.2 = true then (laws_FnIntShares.j0 k bt741.1 bt750.1 bt752.1 bt754.1 (!bt754.2)) else (laws_FnIntShares.j0 k bt741.1 bt750.1 bt752.1 bt754.1 true)) else (laws_FnIntShares.j0 k bt741.1 bt750.1 bt752.1 bt754.1 true)) else (laws_FnIntShares.j0 k bt741.1 bt750.1 bt752.1 bt754.1 true)))))))))) = some r := h
  clear h
  by_cases c2 : (l0.length : Int) > 1048576
  · rw [if_pos c2] at H
    have c2b0 : decide (1048576 < (l0.length : Int)) = true := decide_eq_true c2
    have c2b1 : decide (1048576 < l0.length) = true := decide_eq_true (by omega)
    clear c2
    obtain rfl := Option.some.inj H
    go_enter Try.func10, Try.ntmps10
    go_wp2
    go_ret
    exact ⟨by first | rfl | (simp [errW_none, errW_some] <;> rfl) | (simp [*, errW_none, errW_some] <;> rfl), by repeat (first | (with_reducible first | exact HB.out | apply below_alloc | apply pw_below_drewN | apply below_drew1) | exact HB.out)⟩
  · rw [if_neg c2] at H
    have c2b0 : decide (1048576 < (l0.length : Int)) = false := decide_eq_false c2
    have c2b1 : decide (1048576 < l0.length) = false := decide_eq_false (by omega)
    clear c2
    replace H := Option.bind_eq_some_iff.mp H
    obtain ⟨⟨t741, t742⟩, A30, H⟩ := H
    replace H : ((spec_Half.f l0).bind fun t743 => ((spec_DrawIntAdd.f k t743).bind fun bt746 => ((impl_IntAdd.f k t742 bt746.1).bind fun bt748 => ((impl_IntMul.f k t741 t742).bind fun bt750 => ((impl_IntMul.f k t741 bt746.1).bind fun bt752 => ((impl_IntMul.f k t741 bt748.1).bind fun bt754 => (if bt748.2 = true then (if bt750.2 = true then (if bt752.2 = true then (laws_FnIntShares.j0 k t741 bt750.1 bt752.1 bt754.1 (!bt754.2)) else (laws_FnIntShares.j0 k t741 bt750.1 bt752.1 bt754.1 true)) else (laws_FnIntShares.j0 k t741 bt750.1 bt752.1 bt754.1 true)) else (laws_FnIntShares.j0 k t741 bt750.1 bt752.1 bt754.1 true)))))))) = some r := H
    have A3 := Aside0.mk A30
    clear A30
    replace H := Option.bind_eq_some_iff.mp H
    obtain ⟨t743, A40, H⟩ := H
    replace H : ((spec_DrawIntAdd.f k t743).bind fun bt746 => ((impl_IntAdd.f k t742 bt746.1).bind fun bt748 => ((impl_IntMul.f k t741 t742).bind fun bt750 => ((impl_IntMul.f k t741 bt746.1).bind fun bt752 => ((impl_IntMul.f k t741 bt748.1).bind fun bt754 => (if bt748.2 = true then (if bt750.2 = true then (if bt752.2 = true then (laws_FnIntShares.j0 k t741 bt750.1 bt752.1 bt754.1 (!bt754.2)) else (laws_FnIntShares.j0 k t741 bt750.1 bt752.1 bt754.1 true)) else (laws_FnIntShares.j0 k t741 bt750.1 bt752.1 bt754.1 true)) else (laws_FnIntShares.j0 k t741 bt750.1 bt752.1 bt754.1 true))))))) = some r := H
    have A4 := Aside0.mk A40
    clear A40
    replace H := Option.bind_eq_some_iff.mp H
    obtain ⟨⟨t746, t747⟩, A50, H⟩ := H
    replace H : ((impl_IntAdd.f k t742 t746).bind fun bt748 => ((impl_IntMul.f k t741 t742).bind fun bt750 => ((impl_IntMul.f k t741 t746).bind fun bt752 => ((impl_IntMul.f k t741 bt748.1).bind fun bt754 => (if bt748.2 = true then (if bt750.2 = true then (if bt752.2 = true then (laws_FnIntShares.j0 k t741 bt750.1 bt752.1 bt754.1 (!bt754.2)) else (laws_FnIntShares.j0 k t741 bt750.1 bt752.1 bt754.1 true)) else (laws_FnIntShares.j0 k t741 bt750.1 bt752.1 bt754.1 true)) else (laws_FnIntShares.j0 k t741 bt750.1 bt752.1 bt754.1 true)))))) = some r := H
    have A5 := Aside0.mk A50
    clear A50
    replace H := Option.bind_eq_some_iff.mp H
    obtain ⟨⟨t748, t749⟩, A60, H⟩ := H
    replace H : ((impl_IntMul.f k t741 t742).bind fun bt750 => ((impl_IntMul.f k t741 t746).bind fun bt752 => ((impl_IntMul.f k t741 t748).bind fun bt754 => (if t749 = true then (if bt750.2 = true then (if bt752.2 = true then (laws_FnIntShares.j0 k t741 bt750.1 bt752.1 bt754.1 (!bt754.2)) else (laws_FnIntShares.j0 k t741 bt750.1 bt752.1 bt754.1 true)) else (laws_FnIntShares.j0 k t741 bt750.1 bt752.1 bt754.1 true)) else (laws_FnIntShares.j0 k t741 bt750.1 bt752.1 bt754.1 true))))) = some r := H
    have A6 := Aside0.mk A60
    clear A60
    replace H := Option.bind_eq_some_iff.mp H
    obtain ⟨⟨t750, t751⟩, A70, H⟩ := H
    replace H : ((impl_IntMul.f k t741 t746).bind fun bt752 => ((impl_IntMul.f k t741 t748).bind fun bt754 => (if t749 = true then (if t751 = true then (if bt752.2 = true then (laws_FnIntShares.j0 k t741 t750 bt752.1 bt754.1 (!bt754.2)) else (laws_FnIntShares.j0 k t741 t750 bt752.1 bt754.1 true)) else (laws_FnIntShares.j0 k t741 t750 bt752.1 bt754.1 true)) else (laws_FnIntShares.j0 k t741 t750 bt752.1 bt754.1 true)))) = some r := H
    have A7 := Aside0.mk A70
    clear A70
    replace H := Option.bind_eq_some_iff.mp H
    obtain ⟨⟨t752, t753⟩, A80, H⟩ := H
    replace H : ((impl_IntMul.f k t741 t748).bind fun bt754 => (if t749 = true then (if t751 = true then (if t753 = true then (laws_FnIntShares.j0 k t741 t750 t752 bt754.1 (!bt754.2)) else (laws_FnIntShares.j0 k t741 t750 t752 bt754.1 true)) else (laws_FnIntShares.j0 k t741 t750 t752 bt754.1 true)) else (laws_FnIntShares.j0 k t741 t750 t752 bt754.1 true))) = some r := H
    have A8 := Aside0.mk A80
    clear A80
    replace H := Option.bind_eq_some_iff.mp H
    obtain ⟨⟨t754, t755⟩, A90, H⟩ := H
    replace H : (if t749 = true then (if t751 = true then (if t753 = true then (laws_FnIntShares.j0 k t741 t750 t752 t754 (!t755)) else (laws_FnIntShares.j0 k t741 t750 t752 t754 true)) else (laws_FnIntShares.j0 k t741 t750 t752 t754 true)) else (laws_FnIntShares.j0 k t741 t750 t752 t754 true)) = some r := H
    have A9 := Aside0.mk A90
    clear A90
    have HC10 := Aside0.mk H
    clear H
    go_enter Try.func10, Try.ntmps10
    go_upto_region 9 with (first | ((with_reducible refine gate_callee (f := 29) rfl ?_); refine goesL_ (some 22) rfl rfl Try.func29 (by kernel_rfl) rfl #[.slice A0 l0.length c0] rfl (by (try simp only [List.map_toArray, List.map_cons, List.map_nil]); first | done | rfl | (simp only [List.length_drop, List.length_take]; rfl)) ?_; (with_reducible refine (spec_DrawIntAdd.calls k _ _ l0 t741 t742 _ ?side1 ?side2 A3.out).mono ?_); (case side1 => repeat (first | exact HR0.out | (with_reducible refine Kd.C_alloc ?_ _) | (with_reducible refine Kd.C_drewN ?_ _) | (with_reducible refine Kd.C_drew ?_))); (case side2 => exact HC0.out); rintro e w11 ⟨rfl, hb⟩; refine ⟨_, rfl, ?_⟩; have n0_ := Aside0.mk (below_step (by repeat (first | (with_reducible first | exact HB.out | apply below_alloc | apply pw_below_drewN | apply below_drew1) | exact HB.out)) hb); clear HB; have HB := n0_; clear n0_; (try clear hb); (try clear hb2); (try clear hk); (try clear hi)) | ((with_reducible refine gate_callee (f := 30) rfl ?_); refine goesL_ (some 27) rfl rfl Try.func30 (by kernel_rfl) rfl #[.slice A0 l0.length c0] rfl (by (try simp only [List.map_toArray, List.map_cons, List.map_nil]); first | done | rfl | (simp only [List.length_drop, List.length_take]; rfl)) ?_; (with_reducible refine (spec_Half.calls (fun k_ => k_ < w.heap.size) _ _ l0 t743 _ ?side1 A4.out).mono ?_); (case side1 => exact Kd.V_mk HC0.out (Kd.F_below (Kd.C_F (Kd.heap_int .u8) HR0.out) (by repeat (first | (with_reducible first | exact HB.out | apply below_alloc | apply pw_below_drewN | apply below_drew1) | exact HB.out)))); rintro e w12 ⟨v744, rfl, ho0, hb⟩; refine ⟨_, rfl, ?_⟩; have n0_ := Aside0.mk (Kd.V_lower (Kd.V_mono (ok' := fun k_ => True) ho0 (fun k_ hk_ => trivial)) (below_size (by repeat (first | (with_reducible first | exact HB.out | apply below_alloc | apply pw_below_drewN | apply below_drew1) | exact HB.out)))); have n1_ := Aside0.mk (below_step (by repeat (first | (with_reducible first | exact HB.out | apply below_alloc | apply pw_below_drewN | apply below_drew1) | exact HB.out)) hb); clear HB; have HO745 := n0_; have HB := n1_; clear n0_ n1_; (try clear hb); (try clear hb2); (try clear hk); (try clear hi); (try clear ho0); obtain ⟨Ao13, co13, eo13⟩ := Kd.V_slice HO745.out; subst eo13) | ((with_reducible refine gate_callee (f := 29) rfl ?_); refine goesL_ (some 28) rfl rfl Try.func29 (by kernel_rfl) rfl #[.slice Ao13 t743.length co13] rfl (by (try simp only [List.map_toArray, List.map_cons, List.map_nil]); first | done | rfl | (simp only [List.length_drop, List.length_take]; rfl)) ?_; (with_reducible refine (spec_DrawIntAdd.calls k _ _ t743 t746 t747 _ ?side1 ?side2 A5.out).mono ?_); (case side1 => repeat (first | exact (Kd.V_reads' HO745.out).2.2 | (with_reducible refine Kd.C_alloc ?_ _) | (with_reducible refine Kd.C_drewN ?_ _) | (with_reducible refine Kd.C_drew ?_))); (case side2 => exact (Kd.V_reads' HO745.out).2.1); rintro e w14 ⟨rfl, hb⟩; refine ⟨_, rfl, ?_⟩; have n0_ := Aside0.mk (Kd.V_below (by (with_reducible repeat (first | apply Kd.V_alloc | apply Kd.V_drewN | apply Kd.V_drew)); exact HO745.out) hb); have n1_ := Aside0.mk (below_step (by repeat (first | (with_reducible first | exact HB.out | apply below_alloc | apply pw_below_drewN | apply below_drew1) | exact HB.out)) hb); clear HO745; clear HB; have HO745 := n0_; have HB := n1_; clear n0_ n1_; (try clear hb); (try clear hb2); (try clear hk); (try clear hi)) | ((with_reducible refine gate_callee (f := 17) rfl ?_); refine goesL_ (some 34) rfl rfl Try.func17 (by kernel_rfl) rfl #[.string t742, .string t746] rfl (by (try simp only [List.map_toArray, List.map_cons, List.map_nil]); first | done | rfl | (simp only [List.length_drop, List.length_take]; rfl)) ?_; (with_reducible refine (impl_IntAdd.calls k t742 t746 t748 t749 _ A6.out).mono ?_); rintro e w15 ⟨rfl, hb⟩; refine ⟨_, rfl, ?_⟩; have n0_ := Aside0.mk (Kd.V_below (by (with_reducible repeat (first | apply Kd.V_alloc | apply Kd.V_drewN | apply Kd.V_drew)); exact HO745.out) hb); have n1_ := Aside0.mk (below_step (by repeat (first | (with_reducible first | exact HB.out | apply below_alloc | apply pw_below_drewN | apply below_drew1) | exact HB.out)) hb); clear HO745; clear HB; have HO745 := n0_; have HB := n1_; clear n0_ n1_; (try clear hb); (try clear hb2); (try clear hk); (try clear hi)) | ((with_reducible refine gate_callee (f := 31) rfl ?_); refine goesL_ (some 40) rfl rfl Try.func31 (by kernel_rfl) rfl #[.string t741, .string t742] rfl (by (try simp only [List.map_toArray, List.map_cons, List.map_nil]); first | done | rfl | (simp only [List.length_drop, List.length_take]; rfl)) ?_; (with_reducible refine (impl_IntMul.calls k t741 t742 t750 t751 _ A7.out).mono ?_); rintro e w16 ⟨rfl, hb⟩; refine ⟨_, rfl, ?_⟩; have n0_ := Aside0.mk (Kd.V_below (by (with_reducible repeat (first | apply Kd.V_alloc | apply Kd.V_drewN | apply Kd.V_drew)); exact HO745.out) hb); have n1_ := Aside0.mk (below_step (by repeat (first | (with_reducible first | exact HB.out | apply below_alloc | apply pw_below_drewN | apply below_drew1) | exact HB.out)) hb); clear HO745; clear HB; have HO745 := n0_; have HB := n1_; clear n0_ n1_; (try clear hb); (try clear hb2); (try clear hk); (try clear hi)) | ((with_reducible refine gate_callee (f := 31) rfl ?_); refine goesL_ (some 46) rfl rfl Try.func31 (by kernel_rfl) rfl #[.string t741, .string t746] rfl (by (try simp only [List.map_toArray, List.map_cons, List.map_nil]); first | done | rfl | (simp only [List.length_drop, List.length_take]; rfl)) ?_; (with_reducible refine (impl_IntMul.calls k t741 t746 t752 t753 _ A8.out).mono ?_); rintro e w17 ⟨rfl, hb⟩; refine ⟨_, rfl, ?_⟩; have n0_ := Aside0.mk (Kd.V_below (by (with_reducible repeat (first | apply Kd.V_alloc | apply Kd.V_drewN | apply Kd.V_drew)); exact HO745.out) hb); have n1_ := Aside0.mk (below_step (by repeat (first | (with_reducible first | exact HB.out | apply below_alloc | apply pw_below_drewN | apply below_drew1) | exact HB.out)) hb); clear HO745; clear HB; have HO745 := n0_; have HB := n1_; clear n0_ n1_; (try clear hb); (try clear hb2); (try clear hk); (try clear hi)) | ((with_reducible refine gate_callee (f := 31) rfl ?_); refine goesL_ (some 52) rfl rfl Try.func31 (by kernel_rfl) rfl #[.string t741, .string t748] rfl (by (try simp only [List.map_toArray, List.map_cons, List.map_nil]); first | done | rfl | (simp only [List.length_drop, List.length_take]; rfl)) ?_; (with_reducible refine (impl_IntMul.calls k t741 t748 t754 t755 _ A9.out).mono ?_); rintro e w18 ⟨rfl, hb⟩; refine ⟨_, rfl, ?_⟩; have n0_ := Aside0.mk (Kd.V_below (by (with_reducible repeat (first | apply Kd.V_alloc | apply Kd.V_drewN | apply Kd.V_drew)); exact HO745.out) hb); have n1_ := Aside0.mk (below_step (by repeat (first | (with_reducible first | exact HB.out | apply below_alloc | apply pw_below_drewN | apply below_drew1) | exact HB.out)) hb); clear HO745; clear HB; have HO745 := n0_; have HB := n1_; clear n0_ n1_; (try clear hb); (try clear hb2); (try clear hk); (try clear hi)))
    (try simp only [Act.put, List.setIfInBounds_toArray, List.set_cons_zero, List.set_cons_succ])
    go_cut [68] (fun v68 wc => ∃ (kq : Nat) (x68_9 : Bool), v68 = .bool x68_9 ∧ Aside0 (laws_FnIntShares.j0 kq t741 t750 t752 t754 x68_9 = some r) ∧ Aside0 (kq ≤ k) ∧ Aside0 (Below w.heap.size w wc))
    case first =>
      have H := HC10.out
      clear HC10
      by_cases c19 : t749 = true
      · subst c19
        have H1 : (if t751 = true then (if t753 = true then (laws_FnIntShares.j0 k t741 t750 t752 t754 (!t755)) else (laws_FnIntShares.j0 k t741 t750 t752 t754 true)) else (laws_FnIntShares.j0 k t741 t750 t752 t754 true)) = some r := by rw [if_pos rfl] at H; exact H
        clear H
        have H := H1
        clear H1
        by_cases c20 : t751 = true
        · subst c20
          have H1 : (if t753 = true then (laws_FnIntShares.j0 k t741 t750 t752 t754 (!t755)) else (laws_FnIntShares.j0 k t741 t750 t752 t754 true)) = some r := by rw [if_pos rfl] at H; exact H
          clear H
          have H := H1
          clear H1
          by_cases c21 : t753 = true
          · subst c21
            have H1 : (laws_FnIntShares.j0 k t741 t750 t752 t754 (!t755)) = some r := by rw [if_pos rfl] at H; exact H
            clear H
            have H := H1
            clear H1
            have H' := Aside0.mk H
            clear H
            go_wp2
            go_meet
            case rel => exact ⟨_, (!t755), (by first | rfl | (simp; done) | (simp [*]; done)), H', ⟨by first | omega | exact Nat.le_refl _⟩, ⟨by repeat (first | (with_reducible first | exact HB.out | apply below_alloc | apply pw_below_drewN | apply below_drew1) | exact HB.out)⟩⟩
          · replace c21 := Bool.eq_false_iff.mpr c21
            subst c21
            have H1 : (laws_FnIntShares.j0 k t741 t750 t752 t754 true) = some r := by rw [if_neg (show ¬ (false = true) by decide)] at H; exact H
            clear H
            have H := H1
            clear H1
            have H' := Aside0.mk H
            clear H
            go_wp2
            go_meet
            case rel => exact ⟨_, (true), (by first | rfl | (simp; done) | (simp [*]; done)), H', ⟨by first | omega | exact Nat.le_refl _⟩, ⟨by repeat (first | (with_reducible first | exact HB.out | apply below_alloc | apply pw_below_drewN | apply below_drew1) | exact HB.out)⟩⟩
        · replace c20 := Bool.eq_false_iff.mpr c20
          subst c20
          have H1 : (laws_FnIntShares.j0 k t741 t750 t752 t754 true) = some r := by rw [if_neg (show ¬ (false = true) by decide)] at H; exact H
          clear H
          have H := H1
          clear H1
          have H' := Aside0.mk H
          clear H
          go_wp2
          go_meet
          case rel => exact ⟨_, (true), (by first | rfl | (simp; done) | (simp [*]; done)), H', ⟨by first | omega | exact Nat.le_refl _⟩, ⟨by repeat (first | (with_reducible first | exact HB.out | apply below_alloc | apply pw_below_drewN | apply below_drew1) | exact HB.out)⟩⟩
      · replace c19 := Bool.eq_false_iff.mpr c19
        subst c19
        have H1 : (laws_FnIntShares.j0 k t741 t750 t752 t754 true) = some r := by rw [if_neg (show ¬ (false = true) by decide)] at H; exact H
        clear H
        have H := H1
        clear H1
        have H' := Aside0.mk H
        clear H
        go_wp2
        go_meet
        case rel => exact ⟨_, (true), (by first | rfl | (simp; done) | (simp [*]; done)), H', ⟨by first | omega | exact Nat.le_refl _⟩, ⟨by repeat (first | (with_reducible first | exact HB.out | apply below_alloc | apply pw_below_drewN | apply below_drew1) | exact HB.out)⟩⟩
    case rest =>
      clear HC10
      try clear c1
      try clear c2
      try clear c2b0
      try clear c2b1
      try clear p2
      try clear c3
      try clear c10
      try clear c17
      try clear c19
      try clear c20
      try clear c21
      obtain ⟨kq, x68_9, rfl, HA, HJ9, HB⟩ := hcut
      cases kq with
      | zero => exact absurd HA.out (by simp [laws_FnIntShares.j0])
      | succ kj9 =>
        have H := HA.out
        clear HA
        simp only [laws_FnIntShares.j0] at H
        by_cases c22 : x68_9 = true
        · subst c22
          have H1 : ((spec_IntOk.f kj9 t741).bind fun t756 => ((impl_IntOk.f kj9 t741).bind fun t757 => (if (t756 == t757) = true then (some true) else (some false)))) = some r := by rw [if_pos rfl] at H; exact H
          clear H
          have H := H1
          clear H1
          replace H := Option.bind_eq_some_iff.mp H
          obtain ⟨t756, A230, H⟩ := H
          replace H : ((impl_IntOk.f kj9 t741).bind fun t757 => (if (t756 == t757) = true then (some true) else (some false))) = some r := H
          have A23 := Aside0.mk A230
          clear A230
          replace H := Option.bind_eq_some_iff.mp H
          obtain ⟨t757, A240, H⟩ := H
          replace H : (if (t756 == t757) = true then (some true) else (some false)) = some r := H
          have A24 := Aside0.mk A240
          clear A240
          by_cases c25 : (t756 == t757) = true
          · rw [if_pos c25] at H
            have c25b0 : (t756 == t757) = true := c25
            (try (have c25b1 : decide (t756 = t757) = true := by simpa using c25))
            (try (have c25b2 : (t756 == t757) = true := by simpa using c25))
            clear c25
            obtain rfl := Option.some.inj H
            go_wp2_with (first | ((with_reducible refine gate_callee (f := 28) rfl ?_); refine goesL_ (some 70) rfl rfl Try.func28 (by kernel_rfl) rfl #[.string t741] rfl (by (try simp only [List.map_toArray, List.map_cons, List.map_nil]); first | done | rfl | (simp only [List.length_drop, List.length_take]; rfl)) ?_; (with_reducible refine (spec_IntOk.calls kj9 t741 t756 _ A23.out).mono ?_); rintro e w' ⟨rfl, ⟨nd, rfl⟩⟩; refine ⟨_, rfl, ?_⟩) | ((with_reducible refine gate_callee (f := 27) rfl ?_); refine goesL_ (some 72) rfl rfl Try.func27 (by kernel_rfl) rfl #[.string t741] rfl (by (try simp only [List.map_toArray, List.map_cons, List.map_nil]); first | done | rfl | (simp only [List.length_drop, List.length_take]; rfl)) ?_; (with_reducible refine (impl_IntOk.calls kj9 t741 t757 _ A24.out).mono ?_); rintro e w26 ⟨rfl, hb⟩; refine ⟨_, rfl, ?_⟩; have n0_ := Aside0.mk (below_step (by repeat (first | (with_reducible first | exact HB.out | apply below_alloc | apply pw_below_drewN | apply below_drew1) | exact HB.out)) hb); clear HB; have HB := n0_; clear n0_; (try clear hb); (try clear hb2); (try clear hk); (try clear hi)))
            go_ret
            exact ⟨by first | rfl | (simp [errW_none, errW_some] <;> rfl) | (simp [*, errW_none, errW_some] <;> rfl), by repeat (first | (with_reducible first | exact HB.out | apply below_alloc | apply pw_below_drewN | apply below_drew1) | exact HB.out)⟩
          · rw [if_neg c25] at H
            have c25b0 : (t756 == t757) = false := by simpa using c25
            (try (have c25b1 : decide (t756 = t757) = false := by simpa using c25))
            (try (have c25b2 : (t756 == t757) = false := by simpa using c25))
            (try (have c25b3 : ¬ (t756 = t757) := by simpa using c25))
            clear c25
            obtain rfl := Option.some.inj H
            go_wp2_with (first | ((with_reducible refine gate_callee (f := 28) rfl ?_); refine goesL_ (some 70) rfl rfl Try.func28 (by kernel_rfl) rfl #[.string t741] rfl (by (try simp only [List.map_toArray, List.map_cons, List.map_nil]); first | done | rfl | (simp only [List.length_drop, List.length_take]; rfl)) ?_; (with_reducible refine (spec_IntOk.calls kj9 t741 t756 _ A23.out).mono ?_); rintro e w' ⟨rfl, ⟨nd, rfl⟩⟩; refine ⟨_, rfl, ?_⟩) | ((with_reducible refine gate_callee (f := 27) rfl ?_); refine goesL_ (some 72) rfl rfl Try.func27 (by kernel_rfl) rfl #[.string t741] rfl (by (try simp only [List.map_toArray, List.map_cons, List.map_nil]); first | done | rfl | (simp only [List.length_drop, List.length_take]; rfl)) ?_; (with_reducible refine (impl_IntOk.calls kj9 t741 t757 _ A24.out).mono ?_); rintro e w27 ⟨rfl, hb⟩; refine ⟨_, rfl, ?_⟩; have n0_ := Aside0.mk (below_step (by repeat (first | (with_reducible first | exact HB.out | apply below_alloc | apply pw_below_drewN | apply below_drew1) | exact HB.out)) hb); clear HB; have HB := n0_; clear n0_; (try clear hb); (try clear hb2); (try clear hk); (try clear hi)))
            go_ret
            exact ⟨by first | rfl | (simp [errW_none, errW_some] <;> rfl) | (simp [*, errW_none, errW_some] <;> rfl), by repeat (first | (with_reducible first | exact HB.out | apply below_alloc | apply pw_below_drewN | apply below_drew1) | exact HB.out)⟩
        · replace c22 := Bool.eq_false_iff.mpr c22
          subst c22
          have H1 : ((impl_IntAdd.f kj9 t750 t752).bind fun bt758 => (if bt758.2 = true then (if bt758.1.toList = t754.toList then (some true) else (some false)) else (some false))) = some r := by rw [if_neg (show ¬ (false = true) by decide)] at H; exact H
          clear H
          have H := H1
          clear H1
          replace H := Option.bind_eq_some_iff.mp H
          obtain ⟨⟨t758, t759⟩, A280, H⟩ := H
          replace H : (if t759 = true then (if t758.toList = t754.toList then (some true) else (some false)) else (some false)) = some r := H
          have A28 := Aside0.mk A280
          clear A280
          by_cases c29 : t759 = true
          · subst c29
            have H1 : (if t758.toList = t754.toList then (some true) else (some false)) = some r := by rw [if_pos rfl] at H; exact H
            clear H
            have H := H1
            clear H1
            by_cases c30 : t758.toList = t754.toList
            · rw [if_pos c30] at H
              have c30b0 : (t758.toList == t754.toList) = true := beq_iff_eq.mpr c30
              have c30b1 : (t758.toList != t754.toList) = false := bne_eq_false_iff_eq.mpr c30
              clear c30
              obtain rfl := Option.some.inj H
              go_wp2_with (first | ((with_reducible refine gate_callee (f := 17) rfl ?_); refine goesL_ (some 77) rfl rfl Try.func17 (by kernel_rfl) rfl #[.string t750, .string t752] rfl (by (try simp only [List.map_toArray, List.map_cons, List.map_nil]); first | done | rfl | (simp only [List.length_drop, List.length_take]; rfl)) ?_; (with_reducible refine (impl_IntAdd.calls kj9 t750 t752 t758 true _ A28.out).mono ?_); rintro e w31 ⟨rfl, hb⟩; refine ⟨_, rfl, ?_⟩; have n0_ := Aside0.mk (below_step (by repeat (first | (with_reducible first | exact HB.out | apply below_alloc | apply pw_below_drewN | apply below_drew1) | exact HB.out)) hb); clear HB; have HB := n0_; clear n0_; (try clear hb); (try clear hb2); (try clear hk); (try clear hi)))
              go_ret
              exact ⟨by first | rfl | (simp [errW_none, errW_some] <;> rfl) | (simp [*, errW_none, errW_some] <;> rfl), by repeat (first | (with_reducible first | exact HB.out | apply below_alloc | apply pw_below_drewN | apply below_drew1) | exact HB.out)⟩
            · rw [if_neg c30] at H
              have c30b0 : (t758.toList == t754.toList) = false := beq_eq_false_iff_ne.mpr c30
              have c30b1 : (t758.toList != t754.toList) = true := bne_iff_ne.mpr c30
              obtain rfl := Option.some.inj H
              go_wp2_with (first | ((with_reducible refine gate_callee (f := 17) rfl ?_); refine goesL_ (some 77) rfl rfl Try.func17 (by kernel_rfl) rfl #[.string t750, .string t752] rfl (by (try simp only [List.map_toArray, List.map_cons, List.map_nil]); first | done | rfl | (simp only [List.length_drop, List.length_take]; rfl)) ?_; (with_reducible refine (impl_IntAdd.calls kj9 t750 t752 t758 true _ A28.out).mono ?_); rintro e w32 ⟨rfl, hb⟩; refine ⟨_, rfl, ?_⟩; have n0_ := Aside0.mk (below_step (by repeat (first | (with_reducible first | exact HB.out | apply below_alloc | apply pw_below_drewN | apply below_drew1) | exact HB.out)) hb); clear HB; have HB := n0_; clear n0_; (try clear hb); (try clear hb2); (try clear hk); (try clear hi)))
              go_ret
              exact ⟨by first | rfl | (simp [errW_none, errW_some] <;> rfl) | (simp [*, errW_none, errW_some] <;> rfl), by repeat (first | (with_reducible first | exact HB.out | apply below_alloc | apply pw_below_drewN | apply below_drew1) | exact HB.out)⟩
          · replace c29 := Bool.eq_false_iff.mpr c29
            subst c29
            have H1 : (some false) = some r := by rw [if_neg (show ¬ (false = true) by decide)] at H; exact H
            clear H
            have H := H1
            clear H1
            obtain rfl := Option.some.inj H
            go_wp2_with (first | ((with_reducible refine gate_callee (f := 17) rfl ?_); refine goesL_ (some 77) rfl rfl Try.func17 (by kernel_rfl) rfl #[.string t750, .string t752] rfl (by (try simp only [List.map_toArray, List.map_cons, List.map_nil]); first | done | rfl | (simp only [List.length_drop, List.length_take]; rfl)) ?_; (with_reducible refine (impl_IntAdd.calls kj9 t750 t752 t758 false _ A28.out).mono ?_); rintro e w33 ⟨rfl, hb⟩; refine ⟨_, rfl, ?_⟩; have n0_ := Aside0.mk (below_step (by repeat (first | (with_reducible first | exact HB.out | apply below_alloc | apply pw_below_drewN | apply below_drew1) | exact HB.out)) hb); clear HB; have HB := n0_; clear n0_; (try clear hb); (try clear hb2); (try clear hk); (try clear hi)))
            go_ret
            exact ⟨by first | rfl | (simp [errW_none, errW_some] <;> rfl) | (simp [*, errW_none, errW_some] <;> rfl), by repeat (first | (with_reducible first | exact HB.out | apply below_alloc | apply pw_below_drewN | apply below_drew1) | exact HB.out)⟩

/-- THE ONE PURE STATEMENT of laws_FnIntShares: yours. -/
def laws_FnIntShares.Pure : Prop := ∀ (l0 : List Int), l0.length ≤ maxLen → l0.length * 1 ≤ 140737488351232 → (∀ x ∈ l0, (Lit.int .u8 x).wf = true) → ∃ k, laws_FnIntShares.f k l0 = some true
theorem laws_FnIntShares.walk (P : laws_FnIntShares.Pure) (a0 : Option Addr) (len0 cap0 : Nat) (z0 : List Int) (w : World) (w0 : (a0 = none ∧ len0 = 0 ∧ cap0 = 0 ∧ z0 = []) ∨ ∃ x, a0 = some x ∧ len0 ≤ cap0 ∧ cap0 ≤ maxLen ∧ z0.length = cap0 ∧ (∀ i, i < z0.length → w.cell? (x.add i) = some (.int .u8 (z0.getD i 0))) ∧ ∀ n ∈ z0, (Lit.int .u8 n).wf = true) (y0 : len0 * 1 ≤ 140737488351232) :
    Calls Try.prog 10 #[.slice a0 len0 cap0] w fun e w' => e = .returned (.bool true) ∧ Below w.heap.size w w' := by
  obtain ⟨l0, rfl, hr0, hm0, hw0, hc0⟩ := ReadsInt.ofRowC w0
  obtain ⟨k, h⟩ := P l0 hm0 y0 hw0
  refine (laws_FnIntShares.calls k _ _ l0 true w (Kd.C_of_reads (d := (0 : Int)) (h1 := fun _ => rfl) hr0) hc0 h).mono ?_
  rintro e w' ⟨rfl, hd⟩
  exact ⟨rfl, hd⟩

end Go.Proofs.Ytccdaiagameobaa.Q
