-- Printed by a program of this project's own, for this seat.
import Derived.Test.YtdhjkfoijaifcaaQ0
import Derived.Test.YtdhjkfoijaifcaaQ7
import Derived.Test.YtdhjkfoijaifcaaQ8
import Derived.Test.YtdhjkfoijaifcaaQ9
import Derived.Test.YtdhjkfoijaifcaaQ14
namespace Go.Proofs.Ytdhjkfoijaifcaa.Q
open Go.RowKit Go.Proofs.YtdhjkfoijaifcaaW.PrintWords Go.Proofs.YtdhjkfoijaifcaaW.PrintLast Go.Proofs.YtdhjkfoijaifcaaW.PrintMore
attribute [local go_sem] max2_int min2_int max_two min_two max_three min_three max_four min_four   -- for this text's walks alone
set_option linter.unusedVariables false
set_option linter.unusedSimpArgs false

/-! ### laws_FnCollectUpTo: function 4 -/
mutual
def laws_FnCollectUpTo.j0 : Nat → List (List Int) → List Int → List Int → Int → List Int → Bool → Bool → Option (Bool)
 | 0, _, _, _, _, _, _, _ => none
 | k + 1, x3, x4, x5, x6, x7, x9, x41 => if x41 = true then (some x9) else ((impl_ReachedFrom.f k x3 x4).bind fun t455 => (laws_FnCollectUpTo.l0 k x5 x6 x7 t455 0))
def laws_FnCollectUpTo.l0 : Nat → List Int → Int → List Int → List Int → Int → Option (Bool)
 | 0, _, _, _, _, _ => none
 | k + 1, x5, x6, x7, x10, x11 => if x11 < (x7.length : Int) then (if 0 ≤ x11 then (if (rd x7 x11) < 0 then ((spec_HasInt.f k x10 x11).bind fun t459 => (if t459 = true then (laws_FnCollectUpTo.j2 k x5 x6 x7 x10 x11 true) else (if (rd x7 x11) ≥ 0 then (if x11 < (x5.length : Int) then (if (rd x7 x11) < (rd x5 x11) then (laws_FnCollectUpTo.j2 k x5 x6 x7 x10 x11 true) else (if x6 = 2 then ((spec_HasInt.f k x10 x11).bind fun t464 => (laws_FnCollectUpTo.j2 k x5 x6 x7 x10 x11 (!t464))) else (laws_FnCollectUpTo.j2 k x5 x6 x7 x10 x11 false))) else (none)) else (if x6 = 2 then (laws_FnCollectUpTo.j2 k x5 x6 x7 x10 x11 false) else (laws_FnCollectUpTo.j2 k x5 x6 x7 x10 x11 false))))) else (if (rd x7 x11) ≥ 0 then (if x11 < (x5.length : Int) then (if (rd x7 x11) < (rd x5 x11) then (laws_FnCollectUpTo.j2 k x5 x6 x7 x10 x11 true) else (if x6 = 2 then ((spec_HasInt.f k x10 x11).bind fun t470 => (laws_FnCollectUpTo.j2 k x5 x6 x7 x10 x11 (!t470))) else (laws_FnCollectUpTo.j2 k x5 x6 x7 x10 x11 false))) else (none)) else (if x6 = 2 then (laws_FnCollectUpTo.j2 k x5 x6 x7 x10 x11 false) else (laws_FnCollectUpTo.j2 k x5 x6 x7 x10 x11 false)))) else (none)) else (if (x7.length : Int) = (x5.length : Int) then (some true) else (some false))
def laws_FnCollectUpTo.j2 : Nat → List Int → Int → List Int → List Int → Int → Bool → Option (Bool)
 | 0, _, _, _, _, _, _ => none
 | k + 1, x5, x6, x7, x10, x11, x96 => if x96 = true then (some false) else (laws_FnCollectUpTo.l0 k x5 x6 x7 x10 (wrap64 (x11 + 1)))
end
def laws_FnCollectUpTo.f (k : Nat) (l0 : List Int) : Option (Bool) := if (l0.length : Int) > 1048576 then (some true) else ((spec_DrawCollectUpTo.f k l0).bind fun bt438 => ((impl_CollectUpTo.f k bt438.1 bt438.2.1 bt438.2.2.1 bt438.2.2.2).bind fun t448 => ((spec_CollectUpTo.f k bt438.1 bt438.2.1 bt438.2.2.1 bt438.2.2.2).bind fun t451 => ((spec_SameInts.f k t448 t451).bind fun t454 => (if t454 = true then (laws_FnCollectUpTo.j0 k bt438.1 bt438.2.1 bt438.2.2.1 bt438.2.2.2 t448 t454 ((t448.length : Int) == 0)) else (laws_FnCollectUpTo.j0 k bt438.1 bt438.2.1 bt438.2.2.1 bt438.2.2.2 t448 t454 true))))))
theorem laws_FnCollectUpTo.mono_l : ∀ k, (∀ y0 y1 y2 y3 y4 y5 y6, LeO (laws_FnCollectUpTo.j0 k y0 y1 y2 y3 y4 y5 y6) (laws_FnCollectUpTo.j0 (k + 1) y0 y1 y2 y3 y4 y5 y6)) ∧ (∀ y0 y1 y2 y3 y4, LeO (laws_FnCollectUpTo.l0 k y0 y1 y2 y3 y4) (laws_FnCollectUpTo.l0 (k + 1) y0 y1 y2 y3 y4)) ∧ (∀ y0 y1 y2 y3 y4 y5, LeO (laws_FnCollectUpTo.j2 k y0 y1 y2 y3 y4 y5) (laws_FnCollectUpTo.j2 (k + 1) y0 y1 y2 y3 y4 y5))
 | 0 => ⟨fun _ _ _ _ _ _ _ r h => by simp [laws_FnCollectUpTo.j0] at h, fun _ _ _ _ _ r h => by simp [laws_FnCollectUpTo.l0] at h, fun _ _ _ _ _ _ r h => by simp [laws_FnCollectUpTo.j2] at h⟩
 | k + 1 => by
  obtain ⟨ih0, ih1, ih2⟩ := laws_FnCollectUpTo.mono_l k
  refine ⟨?_, ?_, ?_⟩
  ·intro y0 y1 y2 y3 y4 y5 y6
   unfold laws_FnCollectUpTo.j0
   repeat' first
   | (with_reducible exact ih0 _ _ _ _ _ _ _)
   | (with_reducible exact ih1 _ _ _ _ _)
   | (with_reducible exact ih2 _ _ _ _ _ _)
   | (with_reducible exact impl_CollectUpTo.mono _ _ _ _ _)
   | (with_reducible exact impl_ReachedFrom.mono _ _ _)
   | (with_reducible exact spec_CollectUpTo.mono _ _ _ _ _)
   | (with_reducible exact spec_DrawCollectUpTo.mono _ _)
   | (with_reducible exact spec_HasInt.mono _ _ _)
   | (with_reducible exact spec_SameInts.mono _ _ _)
   | (with_reducible exact LeO.refl _)
   | (with_reducible exact LeO.none _)
   | (with_reducible refine LeO.ite ?_ ?_)
   | (with_reducible refine LeO.bind ?_ (fun _ => ?_))
   | exact ih0 _ _ _ _ _ _ _
   | exact ih1 _ _ _ _ _
   | exact ih2 _ _ _ _ _ _
   | exact impl_CollectUpTo.mono _ _ _ _ _
   | exact impl_ReachedFrom.mono _ _ _
   | exact spec_CollectUpTo.mono _ _ _ _ _
   | exact spec_DrawCollectUpTo.mono _ _
   | exact spec_HasInt.mono _ _ _
   | exact spec_SameInts.mono _ _ _
   | exact LeO.none _
   | refine LeO.ite ?_ ?_
   | refine LeO.bind ?_ (fun _ => ?_)
  ·intro y0 y1 y2 y3 y4
   unfold laws_FnCollectUpTo.l0
   repeat' first
   | (with_reducible exact ih0 _ _ _ _ _ _ _)
   | (with_reducible exact ih1 _ _ _ _ _)
   | (with_reducible exact ih2 _ _ _ _ _ _)
   | (with_reducible exact impl_CollectUpTo.mono _ _ _ _ _)
   | (with_reducible exact impl_ReachedFrom.mono _ _ _)
   | (with_reducible exact spec_CollectUpTo.mono _ _ _ _ _)
   | (with_reducible exact spec_DrawCollectUpTo.mono _ _)
   | (with_reducible exact spec_HasInt.mono _ _ _)
   | (with_reducible exact spec_SameInts.mono _ _ _)
   | (with_reducible exact LeO.refl _)
   | (with_reducible exact LeO.none _)
   | (with_reducible refine LeO.ite ?_ ?_)
   | (with_reducible refine LeO.bind ?_ (fun _ => ?_))
   | exact ih0 _ _ _ _ _ _ _
   | exact ih1 _ _ _ _ _
   | exact ih2 _ _ _ _ _ _
   | exact impl_CollectUpTo.mono _ _ _ _ _
   | exact impl_ReachedFrom.mono _ _ _
   | exact spec_CollectUpTo.mono _ _ _ _ _
   | exact spec_DrawCollectUpTo.mono _ _
   | exact spec_HasInt.mono _ _ _
   | exact spec_SameInts.mono _ _ _
   | exact LeO.none _
   | refine LeO.ite ?_ ?_
   | refine LeO.bind ?_ (fun _ => ?_)
  ·intro y0 y1 y2 y3 y4 y5
   unfold laws_FnCollectUpTo.j2
   repeat' first
   | (with_reducible exact ih0 _ _ _ _ _ _ _)
   | (with_reducible exact ih1 _ _ _ _ _)
   | (with_reducible exact ih2 _ _ _ _ _ _)
   | (with_reducible exact impl_CollectUpTo.mono _ _ _ _ _)
   | (with_reducible exact impl_ReachedFrom.mono _ _ _)
   | (with_reducible exact spec_CollectUpTo.mono _ _ _ _ _)
   | (with_reducible exact spec_DrawCollectUpTo.mono _ _)
   | (with_reducible exact spec_HasInt.mono _ _ _)
   | (with_reducible exact spec_SameInts.mono _ _ _)
   | (with_reducible exact LeO.refl _)
   | (with_reducible exact LeO.none _)
   | (with_reducible refine LeO.ite ?_ ?_)
   | (with_reducible refine LeO.bind ?_ (fun _ => ?_))
   | exact ih0 _ _ _ _ _ _ _
   | exact ih1 _ _ _ _ _
   | exact ih2 _ _ _ _ _ _
   | exact impl_CollectUpTo.mono _ _ _ _ _
   | exact impl_ReachedFrom.mono _ _ _
   | exact spec_CollectUpTo.mono _ _ _ _ _
   | exact spec_DrawCollectUpTo.mono _ _
   | exact spec_HasInt.mono _ _ _
   | exact spec_SameInts.mono _ _ _
   | exact LeO.none _
   | refine LeO.ite ?_ ?_
   | refine LeO.bind ?_ (fun _ => ?_)
theorem laws_FnCollectUpTo.mono : ∀ a0 k, LeO (laws_FnCollectUpTo.f k a0) (laws_FnCollectUpTo.f (k + 1) a0) := by
 intro a0 k
 obtain ⟨ih0, ih1, ih2⟩ := laws_FnCollectUpTo.mono_l k
 unfold laws_FnCollectUpTo.f
 repeat' first
   | (with_reducible exact ih0 _ _ _ _ _ _ _)
   | (with_reducible exact ih1 _ _ _ _ _)
   | (with_reducible exact ih2 _ _ _ _ _ _)
   | (with_reducible exact impl_CollectUpTo.mono _ _ _ _ _)
   | (with_reducible exact impl_ReachedFrom.mono _ _ _)
   | (with_reducible exact spec_CollectUpTo.mono _ _ _ _ _)
   | (with_reducible exact spec_DrawCollectUpTo.mono _ _)
   | (with_reducible exact spec_HasInt.mono _ _ _)
   | (with_reducible exact spec_SameInts.mono _ _ _)
   | (with_reducible exact LeO.refl _)
   | (with_reducible exact LeO.none _)
   | (with_reducible refine LeO.ite ?_ ?_)
   | (with_reducible refine LeO.bind ?_ (fun _ => ?_))
   | exact ih0 _ _ _ _ _ _ _
   | exact ih1 _ _ _ _ _
   | exact ih2 _ _ _ _ _ _
   | exact impl_CollectUpTo.mono _ _ _ _ _
   | exact impl_ReachedFrom.mono _ _ _
   | exact spec_CollectUpTo.mono _ _ _ _ _
   | exact spec_DrawCollectUpTo.mono _ _
   | exact spec_HasInt.mono _ _ _
   | exact spec_SameInts.mono _ _ _
   | exact LeO.none _
   | refine LeO.ite ?_ ?_
   | refine LeO.bind ?_ (fun _ => ?_)
def laws_FnCollectUpTo.T13 : Bool × List (List Nat × List Nat) := (true, [([], []), ([], []), ([0, 1], [0, 1]), ([2], [2]), ([3], [3]), ([4], [4]), ([5], [5]), ([5], [5]), ([6, 7, 5, 5], [5, 6, 7]), ([5, 8], [5, 8]), ([9, 8], [9]), ([10], [10]), ([10], [10]), ([11, 12, 10], [10, 11, 12]), ([13, 10], [10, 13]), ([14, 10], [10, 14]), ([15, 10, 10], [10, 15]), ([16], [16]), ([16], [16]), ([17, 18, 16], [16, 17, 18]), ([19, 16], [16, 19]), ([16], [16]), ([16], [16]), ([21, 22, 16], [16, 21, 22]), ([23, 16], [16, 23]), ([20, 24, 16], [16, 20, 24]), ([16, 25, 10], [10, 16, 25]), ([10, 26], [10, 26]), ([27, 16], [27]), ([28], [28]), ([29, 28], [28, 29]), ([30, 28, 28], [28, 30]), ([31], [31]), ([31], [31]), ([32, 33, 31], [31, 32, 33]), ([34, 31], [31, 34]), ([35, 31], [31, 35]), ([31, 36, 28], [28, 31, 36]), ([37, 31, 28], [28, 37]), ([38], [38]), ([38], [38]), ([39, 40, 38, 38], [38, 39, 40]), ([41, 38], [38, 41]), ([38, 42, 28], [28, 38, 42]), ([28, 43], [28, 43])])
def laws_FnCollectUpTo.B13 : List Nat := [0, 0, 3, 7, 15, 31, 63, 63, 255, 511, 1023, 2047, 2047, 8191, 16383, 32767, 65535, 131071, 131071, 524287, 1048575, 131071, 131071, 6422527, 14811135, 33554431, 67108863, 134217727, 268435455, 536870911, 1073741823, 2147483647, 4294967295, 4294967295, 17179869183, 34359738367, 68719476735, 137438953471, 274877906943, 549755813887, 549755813887, 2199023255551, 4398046511103, 8796093022207, 17592186044415]
theorem laws_FnCollectUpTo.tab13 : rtab .any (opsOf Try.f4 13) = laws_FnCollectUpTo.T13 := by kernel_rfl
theorem laws_FnCollectUpTo.bits13 : waitsOk laws_FnCollectUpTo.T13.2 laws_FnCollectUpTo.B13 = true := by kernel_rfl
set_option maxHeartbeats 8000000 in
set_option maxRecDepth 100000 in
theorem laws_FnCollectUpTo.calls (k : Nat) (A0 : Option Addr) (c0 : Nat) (l0 : List Int) (r : Bool) (w : World) (hr0 : Kd.C (Kd.int .u8) w A0 l0.length l0) (hc0 : l0.length ≤ c0) (h : laws_FnCollectUpTo.f k l0 = some r) :
  Calls Try.prog 4 #[.slice A0 l0.length c0] w fun e w' => e = .returned (.bool r) ∧ Below w.heap.size w w' := by
 have HR0 := Aside0.mk hr0
 have HC0 := Aside0.mk hc0
 clear hr0 hc0
 have HB := Aside0.mk (Below.refl w.heap.size w)
 have H : (if (l0.length : Int) > 1048576 then (some true) else ((spec_DrawCollectUpTo.f k l0).bind fun bt438 => ((impl_CollectUpTo.f k bt438.1 bt438.2.1 bt438.2.2.1 bt438.2.2.2).bind fun t448 => ((spec_CollectUpTo.f k bt438.1 bt438.2.1 bt438.2.2.1 bt438.2.2.2).bind fun t451 => ((spec_SameInts.f k t448 t451).bind fun t454 => (if t454 = true then (laws_FnCollectUpTo.j0 k bt438.1 bt438.2.1 bt438.2.2.1 bt438.2.2.2 t448 t454 ((t448.length : Int) == 0)) else (laws_FnCollectUpTo.j0 k bt438.1 bt438.2.1 bt438.2.2.1 bt438.2.2.2 t448 t454 true))))))) = some r := h
 clear h
 by_cases c2 : (l0.length : Int) > 1048576
 ·rw [if_pos c2] at H
  have c2b0 : decide (1048576 < (l0.length : Int)) = true := decide_eq_true c2
  have c2b1 : decide (1048576 < l0.length) = true := decide_eq_true (by omega)
  clear c2
  obtain rfl := Option.some.inj H
  go_enter Try.func4, Try.ntmps4
  go_wp2
  go_ret
  exact ⟨by first | rfl | (simp [errW_none, errW_some] <;> rfl) | (simp [*, errW_none, errW_some] <;> rfl), by repeat (first | (with_reducible first | exact HB.out | apply below_alloc | apply pw_below_drewN | apply below_drew1) | exact HB.out)⟩
 ·rw [if_neg c2] at H
  have c2b0 : decide (1048576 < (l0.length : Int)) = false := decide_eq_false c2
  have c2b1 : decide (1048576 < l0.length) = false := decide_eq_false (by omega)
  clear c2
  replace H := Option.bind_eq_some_iff.mp H
  obtain ⟨⟨t438, t439, t440, t441⟩, A30, H⟩ := H
  replace H : ((impl_CollectUpTo.f k t438 t439 t440 t441).bind fun t448 => ((spec_CollectUpTo.f k t438 t439 t440 t441).bind fun t451 => ((spec_SameInts.f k t448 t451).bind fun t454 => (if t454 = true then (laws_FnCollectUpTo.j0 k t438 t439 t440 t441 t448 t454 ((t448.length : Int) == 0)) else (laws_FnCollectUpTo.j0 k t438 t439 t440 t441 t448 t454 true))))) = some r := H
  have A3 := Aside0.mk A30
  clear A30
  replace H := Option.bind_eq_some_iff.mp H
  obtain ⟨t448, A40, H⟩ := H
  replace H : ((spec_CollectUpTo.f k t438 t439 t440 t441).bind fun t451 => ((spec_SameInts.f k t448 t451).bind fun t454 => (if t454 = true then (laws_FnCollectUpTo.j0 k t438 t439 t440 t441 t448 t454 ((t448.length : Int) == 0)) else (laws_FnCollectUpTo.j0 k t438 t439 t440 t441 t448 t454 true)))) = some r := H
  have A4 := Aside0.mk A40
  clear A40
  replace H := Option.bind_eq_some_iff.mp H
  obtain ⟨t451, A50, H⟩ := H
  replace H : ((spec_SameInts.f k t448 t451).bind fun t454 => (if t454 = true then (laws_FnCollectUpTo.j0 k t438 t439 t440 t441 t448 t454 ((t448.length : Int) == 0)) else (laws_FnCollectUpTo.j0 k t438 t439 t440 t441 t448 t454 true))) = some r := H
  have A5 := Aside0.mk A50
  clear A50
  replace H := Option.bind_eq_some_iff.mp H
  obtain ⟨t454, A60, H⟩ := H
  replace H : (if t454 = true then (laws_FnCollectUpTo.j0 k t438 t439 t440 t441 t448 t454 ((t448.length : Int) == 0)) else (laws_FnCollectUpTo.j0 k t438 t439 t440 t441 t448 t454 true)) = some r := H
  have A6 := Aside0.mk A60
  clear A60
  have HC7 := Aside0.mk H
  clear H
  go_enter Try.func4, Try.ntmps4
  go_upto_region 7 with (first | ((with_reducible refine gate_callee (f := 12) rfl ?_); refine goesL_ (some 17) rfl rfl Try.func12 (by kernel_rfl) rfl #[.slice A0 l0.length c0] rfl (by (try simp only [List.map_toArray, List.map_cons, List.map_nil]); first | done | rfl | (simp only [List.length_drop, List.length_take]; rfl)) ?_; (with_reducible refine (spec_DrawCollectUpTo.calls k _ _ l0 t438 t439 t440 t441 _ ?side1 ?side2 A3.out).mono ?_); (case side1 => repeat (first | exact HR0.out | (with_reducible refine Kd.C_alloc ?_ _) | (with_reducible refine Kd.C_drewN ?_ _) | (with_reducible refine Kd.C_drew ?_))); (case side2 => exact HC0.out); rintro e w8 ⟨v442, v444, v446, rfl, ho0, ho1, ho2, hb⟩; refine ⟨_, rfl, ?_⟩; have n0_ := Aside0.mk (Kd.S_lower ho0 (below_size (by repeat (first | (with_reducible first | exact HB.out | apply below_alloc | apply pw_below_drewN | apply below_drew1) | exact HB.out)))); have n1_ := Aside0.mk (Kd.R_lower ho1 (below_size (by repeat (first | (with_reducible first | exact HB.out | apply below_alloc | apply pw_below_drewN | apply below_drew1) | exact HB.out)))); have n2_ := Aside0.mk (Kd.R_lower ho2 (below_size (by repeat (first | (with_reducible first | exact HB.out | apply below_alloc | apply pw_below_drewN | apply below_drew1) | exact HB.out)))); have n3_ := Aside0.mk (below_step (by repeat (first | (with_reducible first | exact HB.out | apply below_alloc | apply pw_below_drewN | apply below_drew1) | exact HB.out)) hb); clear HB; have HO443 := n0_; have HO445 := n1_; have HO447 := n2_; have HB := n3_; clear n0_ n1_ n2_ n3_; (try clear hb); (try clear hb2); (try clear hk); (try clear hi); (try clear ho0); (try clear ho1); (try clear ho2); obtain ⟨Ao9, co9, eo9⟩ := Kd.S_slice HO443.out; subst eo9; obtain ⟨Ao10, co10, eo10⟩ := Kd.R_slice HO445.out; subst eo10; obtain ⟨Ao11, co11, eo11⟩ := Kd.R_slice HO447.out; subst eo11) | ((with_reducible refine gate_callee (f := 13) rfl ?_); refine goesL_ (some 26) rfl rfl Try.func13 (by kernel_rfl) rfl #[.slice Ao9 t438.length co9, .slice Ao10 t439.length co10, .slice Ao11 t440.length co11, .int .i64 t441] rfl (by (try simp only [List.map_toArray, List.map_cons, List.map_nil]); first | done | rfl | (simp only [List.length_drop, List.length_take]; rfl)) ?_; (with_reducible refine (impl_CollectUpTo.calls k _ _ t438 _ _ t439 _ _ t440 t441 t448 _ ?side1 ?side2 ?side3 ?side4 ?side5 ?side6 A4.out).mono ?_); (case side1 => repeat (first | exact (Kd.S_reads' HO443.out).2.2 | (with_reducible refine Kd.C_alloc ?_ _) | (with_reducible refine Kd.C_drewN ?_ _) | (with_reducible refine Kd.C_drew ?_))); (case side2 => exact (Kd.S_reads' HO443.out).2.1); (case side3 => repeat (first | exact (Kd.R_reads' HO445.out).2.2 | (with_reducible refine Kd.C_alloc ?_ _) | (with_reducible refine Kd.C_drewN ?_ _) | (with_reducible refine Kd.C_drew ?_))); (case side4 => exact (Kd.R_reads' HO445.out).2.1); (case side5 => repeat (first | exact (Kd.R_reads' HO447.out).2.2 | (with_reducible refine Kd.C_alloc ?_ _) | (with_reducible refine Kd.C_drewN ?_ _) | (with_reducible refine Kd.C_drew ?_))); (case side6 => exact (Kd.R_reads' HO447.out).2.1); rintro e w12 ⟨v449, rfl, ho0, hb⟩; refine ⟨_, rfl, ?_⟩; have n0_ := Aside0.mk (Kd.S_elder' (by (with_reducible repeat (first | apply Kd.S_alloc | apply Kd.S_drewN | apply Kd.S_drew)); exact HO443.out) (Kd.R_base ho0) hb); have n1_ := Aside0.mk (Kd.R_elder' (by (with_reducible repeat (first | apply Kd.R_alloc | apply Kd.R_drewN | apply Kd.R_drew)); exact HO445.out) (Kd.R_base ho0) hb); have n2_ := Aside0.mk (Kd.R_elder' (by (with_reducible repeat (first | apply Kd.R_alloc | apply Kd.R_drewN | apply Kd.R_drew)); exact HO447.out) (Kd.R_base ho0) hb); have n3_ := Aside0.mk (Kd.R_lower (Kd.R_new' (Kd.R_new' ho0 (Kd.R_lt (by (with_reducible repeat (first | apply Kd.R_alloc | apply Kd.R_drewN | apply Kd.R_drew)); exact HO445.out))) (Kd.R_lt (by (with_reducible repeat (first | apply Kd.R_alloc | apply Kd.R_drewN | apply Kd.R_drew)); exact HO447.out))) (below_size (by repeat (first | (with_reducible first | exact HB.out | apply below_alloc | apply pw_below_drewN | apply below_drew1) | exact HB.out)))); have n4_ := Aside0.mk (below_step (by repeat (first | (with_reducible first | exact HB.out | apply below_alloc | apply pw_below_drewN | apply below_drew1) | exact HB.out)) hb); clear HO443; clear HO445; clear HO447; clear HB; have HO443 := n0_; have HO445 := n1_; have HO447 := n2_; have HO450 := n3_; have HB := n4_; clear n0_ n1_ n2_ n3_ n4_; (try clear hb); (try clear hb2); (try clear hk); (try clear hi); (try clear ho0)) | ((with_reducible refine gate_callee (f := 15) rfl ?_); refine goesL_ (some 31) rfl rfl Try.func15 (by kernel_rfl) rfl #[.slice Ao9 t438.length co9, .slice Ao10 t439.length co10, .slice Ao11 t440.length co11, .int .i64 t441] rfl (by (try simp only [List.map_toArray, List.map_cons, List.map_nil]); first | done | rfl | (simp only [List.length_drop, List.length_take]; rfl)) ?_; (with_reducible refine (spec_CollectUpTo.calls k _ _ t438 _ _ t439 _ _ t440 t441 t451 _ ?side1 ?side2 ?side3 ?side4 ?side5 ?side6 A5.out).mono ?_); (case side1 => repeat (first | exact (Kd.S_reads' HO443.out).2.2 | (with_reducible refine Kd.C_alloc ?_ _) | (with_reducible refine Kd.C_drewN ?_ _) | (with_reducible refine Kd.C_drew ?_))); (case side2 => exact (Kd.S_reads' HO443.out).2.1); (case side3 => repeat (first | exact (Kd.R_reads' HO445.out).2.2 | (with_reducible refine Kd.C_alloc ?_ _) | (with_reducible refine Kd.C_drewN ?_ _) | (with_reducible refine Kd.C_drew ?_))); (case side4 => exact (Kd.R_reads' HO445.out).2.1); (case side5 => repeat (first | exact (Kd.R_reads' HO447.out).2.2 | (with_reducible refine Kd.C_alloc ?_ _) | (with_reducible refine Kd.C_drewN ?_ _) | (with_reducible refine Kd.C_drew ?_))); (case side6 => exact (Kd.R_reads' HO447.out).2.1); rintro e w13 ⟨v452, rfl, ho0, hb⟩; refine ⟨_, rfl, ?_⟩; have n0_ := Aside0.mk (Kd.S_elder' (by (with_reducible repeat (first | apply Kd.S_alloc | apply Kd.S_drewN | apply Kd.S_drew)); exact HO443.out) (Kd.R_base ho0) hb); have n1_ := Aside0.mk (Kd.R_elder' (by (with_reducible repeat (first | apply Kd.R_alloc | apply Kd.R_drewN | apply Kd.R_drew)); exact HO445.out) (Kd.R_base ho0) hb); have n2_ := Aside0.mk (Kd.R_elder' (by (with_reducible repeat (first | apply Kd.R_alloc | apply Kd.R_drewN | apply Kd.R_drew)); exact HO447.out) (Kd.R_base ho0) hb); have n3_ := Aside0.mk (Kd.R_elder' (by (with_reducible repeat (first | apply Kd.R_alloc | apply Kd.R_drewN | apply Kd.R_drew)); exact HO450.out) (Kd.R_base ho0) hb); have n4_ := Aside0.mk (Kd.R_lower (Kd.R_new' (Kd.R_new' (Kd.R_new' ho0 (Kd.R_lt (by (with_reducible repeat (first | apply Kd.R_alloc | apply Kd.R_drewN | apply Kd.R_drew)); exact HO445.out))) (Kd.R_lt (by (with_reducible repeat (first | apply Kd.R_alloc | apply Kd.R_drewN | apply Kd.R_drew)); exact HO447.out))) (Kd.R_lt (by (with_reducible repeat (first | apply Kd.R_alloc | apply Kd.R_drewN | apply Kd.R_drew)); exact HO450.out))) (below_size (by repeat (first | (with_reducible first | exact HB.out | apply below_alloc | apply pw_below_drewN | apply below_drew1) | exact HB.out)))); have n5_ := Aside0.mk (below_step (by repeat (first | (with_reducible first | exact HB.out | apply below_alloc | apply pw_below_drewN | apply below_drew1) | exact HB.out)) hb); clear HO443; clear HO445; clear HO447; clear HO450; clear HB; have HO443 := n0_; have HO445 := n1_; have HO447 := n2_; have HO450 := n3_; have HO453 := n4_; have HB := n5_; clear n0_ n1_ n2_ n3_ n4_ n5_; (try clear hb); (try clear hb2); (try clear hk); (try clear hi); (try clear ho0); obtain ⟨Ao14, co14, eo14⟩ := Kd.R_slice HO450.out; subst eo14; obtain ⟨Ao15, co15, eo15⟩ := Kd.R_slice HO453.out; subst eo15) | ((with_reducible refine gate_callee (f := 14) rfl ?_); refine goesL_ (some 34) rfl rfl Try.func14 (by kernel_rfl) rfl #[.slice Ao14 t448.length co14, .slice Ao15 t451.length co15] rfl (by (try simp only [List.map_toArray, List.map_cons, List.map_nil]); first | done | rfl | (simp only [List.length_drop, List.length_take]; rfl)) ?_; (with_reducible refine (spec_SameInts.calls k _ _ t448 _ _ t451 t454 _ ?side1 ?side2 ?side3 ?side4 A6.out).mono ?_); (case side1 => repeat (first | exact (Kd.R_reads' HO450.out).2.2 | (with_reducible refine Kd.C_alloc ?_ _) | (with_reducible refine Kd.C_drewN ?_ _) | (with_reducible refine Kd.C_drew ?_))); (case side2 => exact (Kd.R_reads' HO450.out).2.1); (case side3 => repeat (first | exact (Kd.R_reads' HO453.out).2.2 | (with_reducible refine Kd.C_alloc ?_ _) | (with_reducible refine Kd.C_drewN ?_ _) | (with_reducible refine Kd.C_drew ?_))); (case side4 => exact (Kd.R_reads' HO453.out).2.1); rintro e w' ⟨rfl, ⟨nd, rfl⟩⟩; refine ⟨_, rfl, ?_⟩))
  (try simp only [Act.put, List.setIfInBounds_toArray, List.set_cons_zero, List.set_cons_succ])
  go_cut [41] (fun v41 wc => ∃ (kq : Nat) (x41_6 : Bool), v41 = .bool x41_6 ∧ Aside0 (laws_FnCollectUpTo.j0 kq t438 t439 t440 t441 t448 t454 x41_6 = some r) ∧ Aside0 (kq ≤ k) ∧ Aside0 (Kd.S (Kd.slice 3 (Kd.int .i64)) 24 wc w.heap.size (fun k_ => some k_ ≠ ((.slice Ao10 t439.length co10) : Value).ownBlock ∧ some k_ ≠ ((.slice Ao11 t440.length co11) : Value).ownBlock ∧ some k_ ≠ ((.slice Ao14 t448.length co14) : Value).ownBlock) (.slice Ao9 t438.length co9) t438) ∧ Aside0 (Kd.R (Kd.int .i64) 3 wc w.heap.size (fun k_ => some k_ ≠ ((.slice Ao11 t440.length co11) : Value).ownBlock ∧ some k_ ≠ ((.slice Ao14 t448.length co14) : Value).ownBlock) (.slice Ao10 t439.length co10) t439) ∧ Aside0 (Kd.R (Kd.int .i64) 3 wc w.heap.size (fun k_ => some k_ ≠ ((.slice Ao10 t439.length co10) : Value).ownBlock ∧ some k_ ≠ ((.slice Ao14 t448.length co14) : Value).ownBlock) (.slice Ao11 t440.length co11) t440) ∧ Aside0 (Kd.R (Kd.int .i64) 3 wc w.heap.size (fun k_ => some k_ ≠ ((.slice Ao10 t439.length co10) : Value).ownBlock ∧ some k_ ≠ ((.slice Ao11 t440.length co11) : Value).ownBlock) (.slice Ao14 t448.length co14) t448) ∧ Aside0 (Below w.heap.size w wc))
  case first =>
   have H := HC7.out
   clear HC7
   by_cases c16 : t454 = true
   ·subst c16
    have H1 : (laws_FnCollectUpTo.j0 k t438 t439 t440 t441 t448 true ((t448.length : Int) == 0)) = some r := by rw [if_pos rfl] at H; exact H
    clear H
    have H := H1
    clear H1
    have H' := Aside0.mk H
    clear H
    go_wp2
    go_meet
    case rel => exact ⟨_, (((t448.length : Int) == 0)), (by first | rfl | (simp; done) | (simp [*]; done)), H', ⟨by first | omega | exact Nat.le_refl _⟩, ⟨by (with_reducible repeat (first | apply Kd.S_alloc | apply Kd.S_drewN | apply Kd.S_drew)); exact Kd.S_mono HO443.out (fun _ hk => ⟨hk.1.1.1, ⟨hk.1.1.2, hk.1.2⟩⟩)⟩, ⟨by (with_reducible repeat (first | apply Kd.R_alloc | apply Kd.R_drewN | apply Kd.R_drew)); exact Kd.R_mono HO445.out (fun _ hk => ⟨hk.1.1, hk.1.2⟩)⟩, ⟨by (with_reducible repeat (first | apply Kd.R_alloc | apply Kd.R_drewN | apply Kd.R_drew)); exact Kd.R_mono HO447.out (fun _ hk => ⟨hk.1.1, hk.1.2⟩)⟩, ⟨by (with_reducible repeat (first | apply Kd.R_alloc | apply Kd.R_drewN | apply Kd.R_drew)); exact Kd.R_mono HO450.out (fun _ hk => ⟨hk.1.1.2, hk.1.2⟩)⟩, ⟨by repeat (first | (with_reducible first | exact HB.out | apply below_alloc | apply pw_below_drewN | apply below_drew1) | exact HB.out)⟩⟩
   ·replace c16 := Bool.eq_false_iff.mpr c16
    subst c16
    have H1 : (laws_FnCollectUpTo.j0 k t438 t439 t440 t441 t448 false true) = some r := by rw [if_neg (show ¬ (false = true) by decide)] at H; exact H
    clear H
    have H := H1
    clear H1
    have H' := Aside0.mk H
    clear H
    go_wp2
    go_meet
    case rel => exact ⟨_, (true), (by first | rfl | (simp; done) | (simp [*]; done)), H', ⟨by first | omega | exact Nat.le_refl _⟩, ⟨by (with_reducible repeat (first | apply Kd.S_alloc | apply Kd.S_drewN | apply Kd.S_drew)); exact Kd.S_mono HO443.out (fun _ hk => ⟨hk.1.1.1, ⟨hk.1.1.2, hk.1.2⟩⟩)⟩, ⟨by (with_reducible repeat (first | apply Kd.R_alloc | apply Kd.R_drewN | apply Kd.R_drew)); exact Kd.R_mono HO445.out (fun _ hk => ⟨hk.1.1, hk.1.2⟩)⟩, ⟨by (with_reducible repeat (first | apply Kd.R_alloc | apply Kd.R_drewN | apply Kd.R_drew)); exact Kd.R_mono HO447.out (fun _ hk => ⟨hk.1.1, hk.1.2⟩)⟩, ⟨by (with_reducible repeat (first | apply Kd.R_alloc | apply Kd.R_drewN | apply Kd.R_drew)); exact Kd.R_mono HO450.out (fun _ hk => ⟨hk.1.1.2, hk.1.2⟩)⟩, ⟨by repeat (first | (with_reducible first | exact HB.out | apply below_alloc | apply pw_below_drewN | apply below_drew1) | exact HB.out)⟩⟩
  case rest =>
   clear HC7
   try clear c1
   try clear c2
   try clear c2b0
   try clear c2b1
   try clear p2
   try clear c4
   try clear c12
   try clear c13
   try clear c14
   try clear c15
   try clear c16
   obtain ⟨kq, x41_6, rfl, HA, HJ6, HO_3, HO_4, HO_5, HO_7, HB⟩ := hcut
   cases kq with
   | zero => exact absurd HA.out (by simp [laws_FnCollectUpTo.j0])
   | succ kj6 =>
    have H := HA.out
    clear HA
    simp only [laws_FnCollectUpTo.j0] at H
    by_cases c17 : x41_6 = true
    ·subst c17
     have H1 : (some t454) = some r := by rw [if_pos rfl] at H; exact H
     clear H
     have H := H1
     clear H1
     obtain rfl := Option.some.inj H
     go_wp2
     go_ret
     exact ⟨by first | rfl | (simp [errW_none, errW_some] <;> rfl) | (simp [*, errW_none, errW_some] <;> rfl), by repeat (first | (with_reducible first | exact HB.out | apply below_alloc | apply pw_below_drewN | apply below_drew1) | exact HB.out)⟩
    ·replace c17 := Bool.eq_false_iff.mpr c17
     subst c17
     have H1 : ((impl_ReachedFrom.f kj6 t438 t439).bind fun t455 => (laws_FnCollectUpTo.l0 kj6 t440 t441 t448 t455 0)) = some r := by rw [if_neg (show ¬ (false = true) by decide)] at H; exact H
     clear H
     have H := H1
     clear H1
     replace H := Option.bind_eq_some_iff.mp H
     obtain ⟨t455, A180, H⟩ := H
     replace H : (laws_FnCollectUpTo.l0 kj6 t440 t441 t448 t455 0) = some r := H
     have A18 := Aside0.mk A180
     clear A180
     have H' := Aside0.mk H
     clear H
     go_wp2_with (first | ((with_reducible refine gate_callee (f := 16) rfl ?_); refine goesL_ (some 45) rfl rfl Try.func16 (by kernel_rfl) rfl #[.slice Ao9 t438.length co9, .slice Ao10 t439.length co10] rfl (by (try simp only [List.map_toArray, List.map_cons, List.map_nil]); first | done | rfl | (simp only [List.length_drop, List.length_take]; rfl)) ?_; (with_reducible refine (impl_ReachedFrom.calls kj6 _ _ t438 _ _ t439 t455 _ ?side1 ?side2 ?side3 ?side4 A18.out).mono ?_); (case side1 => repeat (first | exact (Kd.S_reads' HO_3.out).2.2 | (with_reducible refine Kd.C_alloc ?_ _) | (with_reducible refine Kd.C_drewN ?_ _) | (with_reducible refine Kd.C_drew ?_))); (case side2 => exact (Kd.S_reads' HO_3.out).2.1); (case side3 => repeat (first | exact (Kd.R_reads' HO_4.out).2.2 | (with_reducible refine Kd.C_alloc ?_ _) | (with_reducible refine Kd.C_drewN ?_ _) | (with_reducible refine Kd.C_drew ?_))); (case side4 => exact (Kd.R_reads' HO_4.out).2.1); rintro e w19 ⟨v456, rfl, ho0, hb⟩; refine ⟨_, rfl, ?_⟩; have n0_ := Aside0.mk (Kd.S_elder' (by (with_reducible repeat (first | apply Kd.S_alloc | apply Kd.S_drewN | apply Kd.S_drew)); exact HO_3.out) (Kd.R_base ho0) hb); have n1_ := Aside0.mk (Kd.R_elder' (by (with_reducible repeat (first | apply Kd.R_alloc | apply Kd.R_drewN | apply Kd.R_drew)); exact HO_4.out) (Kd.R_base ho0) hb); have n2_ := Aside0.mk (Kd.R_elder' (by (with_reducible repeat (first | apply Kd.R_alloc | apply Kd.R_drewN | apply Kd.R_drew)); exact HO_5.out) (Kd.R_base ho0) hb); have n3_ := Aside0.mk (Kd.R_elder' (by (with_reducible repeat (first | apply Kd.R_alloc | apply Kd.R_drewN | apply Kd.R_drew)); exact HO_7.out) (Kd.R_base ho0) hb); have n4_ := Aside0.mk (Kd.R_lower (Kd.R_new' (Kd.R_new' (Kd.R_new' ho0 (Kd.R_lt (by (with_reducible repeat (first | apply Kd.R_alloc | apply Kd.R_drewN | apply Kd.R_drew)); exact HO_4.out))) (Kd.R_lt (by (with_reducible repeat (first | apply Kd.R_alloc | apply Kd.R_drewN | apply Kd.R_drew)); exact HO_5.out))) (Kd.R_lt (by (with_reducible repeat (first | apply Kd.R_alloc | apply Kd.R_drewN | apply Kd.R_drew)); exact HO_7.out))) (below_size (by repeat (first | (with_reducible first | exact HB.out | apply below_alloc | apply pw_below_drewN | apply below_drew1) | exact HB.out)))); have n5_ := Aside0.mk (below_step (by repeat (first | (with_reducible first | exact HB.out | apply below_alloc | apply pw_below_drewN | apply below_drew1) | exact HB.out)) hb); clear HO_3; clear HO_4; clear HO_5; clear HO_7; clear HB; have HO_3 := n0_; have HO_4 := n1_; have HO_5 := n2_; have HO_7 := n3_; have HO457 := n4_; have HB := n5_; clear n0_ n1_ n2_ n3_ n4_ n5_; (try clear hb); (try clear hb2); (try clear hk); (try clear hi); (try clear ho0)))
     go_loopg [11] kj6 (fun kq v11 w' => ∃ (x11_2 : Int), v11 = .int .i64 x11_2 ∧ Aside0 (laws_FnCollectUpTo.l0 kq t440 t441 t448 t455 x11_2 = some r) ∧ Aside0 (kq ≤ kj6) ∧ Aside0 (Kd.R (Kd.int .i64) 3 w' w.heap.size (fun k_ => some k_ ≠ ((.slice Ao14 t448.length co14) : Value).ownBlock ∧ some k_ ≠ (v456 : Value).ownBlock) (.slice Ao11 t440.length co11) t440) ∧ Aside0 (Kd.R (Kd.int .i64) 3 w' w.heap.size (fun k_ => some k_ ≠ ((.slice Ao11 t440.length co11) : Value).ownBlock ∧ some k_ ≠ (v456 : Value).ownBlock) (.slice Ao14 t448.length co14) t448) ∧ Aside0 (Kd.R (Kd.int .i64) 3 w' w.heap.size (fun k_ => some k_ ≠ ((.slice Ao11 t440.length co11) : Value).ownBlock ∧ some k_ ≠ ((.slice Ao14 t448.length co14) : Value).ownBlock) v456 t455) ∧ Aside0 (Below w.heap.size w w'))
     case atStart => exact ⟨(0), (by first | rfl | (simp; done) | (simp [*]; done)), H', ⟨Nat.le_refl _⟩, ⟨by (with_reducible repeat (first | apply Kd.R_alloc | apply Kd.R_drewN | apply Kd.R_drew)); exact Kd.R_mono HO_5.out (fun _ hk => ⟨hk.1.2, hk.2⟩)⟩, ⟨by (with_reducible repeat (first | apply Kd.R_alloc | apply Kd.R_drewN | apply Kd.R_drew)); exact Kd.R_mono HO_7.out (fun _ hk => ⟨hk.1.2, hk.2⟩)⟩, ⟨by (with_reducible repeat (first | apply Kd.R_alloc | apply Kd.R_drewN | apply Kd.R_drew)); exact Kd.R_mono HO457.out (fun _ hk => ⟨hk.1.2, hk.2⟩)⟩, ⟨by repeat (first | (with_reducible first | exact HB.out | apply below_alloc | apply pw_below_drewN | apply below_drew1) | exact HB.out)⟩⟩
     case round =>
      clear H'
      try clear c1
      try clear c2
      try clear c2b0
      try clear c2b1
      try clear p2
      try clear c4
      try clear c12
      try clear c13
      try clear c14
      try clear c15
      try clear c16
      try clear c17
      try clear p2
      obtain ⟨x11_2, rfl, HA, HK2, HO_5, HO_7, HO_10, HB⟩ := hrel
      cases gk with
      | zero => exact absurd HA.out (by simp [laws_FnCollectUpTo.l0])
      | succ k2 =>
       have H := HA.out
       clear HA
       simp only [laws_FnCollectUpTo.l0] at H
       by_cases c20 : x11_2 < (t448.length : Int)
       ·rw [if_pos c20] at H
        have c20b0 : decide (x11_2 < (t448.length : Int)) = true := decide_eq_true c20
        clear c20
        have HC21 := Aside0.mk H
        clear H
        go_upto_region 13 with (fail)
        go_cut [96] (fun v96 wc => ∃ (kq : Nat) (x96_20 : Bool), v96 = .bool x96_20 ∧ Aside0 (laws_FnCollectUpTo.j2 kq t440 t441 t448 t455 x11_2 x96_20 = some r) ∧ Aside0 (kq ≤ k2) ∧ Aside0 (Kd.R (Kd.int .i64) 3 wc w.heap.size (fun k_ => some k_ ≠ ((.slice Ao14 t448.length co14) : Value).ownBlock ∧ some k_ ≠ (v456 : Value).ownBlock) (.slice Ao11 t440.length co11) t440) ∧ Aside0 (Kd.R (Kd.int .i64) 3 wc w.heap.size (fun k_ => some k_ ≠ ((.slice Ao11 t440.length co11) : Value).ownBlock ∧ some k_ ≠ (v456 : Value).ownBlock) (.slice Ao14 t448.length co14) t448) ∧ Aside0 (Kd.R (Kd.int .i64) 3 wc w.heap.size (fun k_ => some k_ ≠ ((.slice Ao11 t440.length co11) : Value).ownBlock ∧ some k_ ≠ ((.slice Ao14 t448.length co14) : Value).ownBlock) v456 t455) ∧ Aside0 (Below w.heap.size w wc))
        case first =>
         have H := HC21.out
         clear HC21
         by_cases c22 : 0 ≤ x11_2
         ·rw [if_pos c22] at H
          have c22b0 : decide (0 ≤ x11_2) = true := decide_eq_true c22
          clear c22
          (first | rw [c22b0] | (simp only [i64_w, i32_w]; rw [c22b0]) | skip)
          by_cases c23 : (rd t448 x11_2) < 0
          ·rw [if_pos c23] at H
           have c23b0 : decide ((rd t448 x11_2) < 0) = true := decide_eq_true c23
           clear c23
           replace H := Option.bind_eq_some_iff.mp H
           obtain ⟨t459, A240, H⟩ := H
           replace H : (if t459 = true then (laws_FnCollectUpTo.j2 k2 t440 t441 t448 t455 x11_2 true) else (if (rd t448 x11_2) ≥ 0 then (if x11_2 < (t440.length : Int) then (if (rd t448 x11_2) < (rd t440 x11_2) then (laws_FnCollectUpTo.j2 k2 t440 t441 t448 t455 x11_2 true) else (if t441 = 2 then ((spec_HasInt.f k2 t455 x11_2).bind fun t464 => (laws_FnCollectUpTo.j2 k2 t440 t441 t448 t455 x11_2 (!t464))) else (laws_FnCollectUpTo.j2 k2 t440 t441 t448 t455 x11_2 false))) else (none)) else (if t441 = 2 then (laws_FnCollectUpTo.j2 k2 t440 t441 t448 t455 x11_2 false) else (laws_FnCollectUpTo.j2 k2 t440 t441 t448 t455 x11_2 false)))) = some r := H
           have A24 := Aside0.mk A240
           clear A240
           by_cases c25 : t459 = true
           ·subst c25
            have H1 : (laws_FnCollectUpTo.j2 k2 t440 t441 t448 t455 x11_2 true) = some r := by rw [if_pos rfl] at H; exact H
            clear H
            have H := H1
            clear H1
            have H' := Aside0.mk H
            clear H
            try go_wp2
            have n0_ := Aside0.mk (Kd.R_drew HO_5.out)
            have n1_ := Aside0.mk (Kd.R_drew HO_7.out)
            have n2_ := Aside0.mk (Kd.R_drew HO_10.out)
            have n3_ := Aside0.mk (below_drew1 HB.out)
            clear HO_5
            clear HO_7
            clear HO_10
            clear HB
            have HO_5 := n0_
            have HO_7 := n1_
            have HO_10 := n2_
            have HB := n3_
            clear n0_ n1_ n2_ n3_
            have p458 : 0 ≤ (x11_2 : Int) := of_decide_eq_true (by first | (with_reducible assumption) | assumption)
            have q458 : x11_2 < (t448.length : Int) := of_decide_eq_true (by first | (with_reducible assumption) | assumption)
            obtain ⟨ad458, e458, hx458_0⟩ := Kd.at_int (Kd.R_reads' HO_7.out).2.2 x11_2 p458 q458
            cases e458
            replace p458 := eq_true p458
            replace q458 := eq_true q458
            obtain ⟨Ao27, co27, eo27⟩ := Kd.R_slice HO_10.out
            (first | subst eo27 | (injection eo27 with f1_ f2_ f3_; have f4_ := f1_.symm; have f5_ := f3_.symm; clear f1_ f2_ f3_; subst f4_; subst f5_))
            refine start_ (n := 45) (S := fun w' => w'.cell? (ad458.add (x11_2).toNat) = some (.int .i64 (rd t448 x11_2))) (ds := []) (px_l 0 45) (by kernel_rfl) rfl rfl (hx458_0) (fun hHeld => ?_); refine with_tabW laws_FnCollectUpTo.tab13 laws_FnCollectUpTo.bits13 (fun HT_ HW_ => ?_)
            generalize wr.drew = w26 at HO_5 HO_7 HO_10 HB hx458_0 hHeld ⊢
            refine pure_ (i := 0) (N := some 52) (v := ?_) (a' := ?_) (px_l 1 44) rfl rfl (any_of HT_.out (by kernel_rfl)) (fun _ _ _ h => h) (Or.inl ⟨by rfl, ?_⟩) ?_ ?_
            rotate_left
            ·intro w'
             go_simp
             with_reducible rfl
            rotate_left
            ·simp only [Act.put, px_a, px_b, px_c, i64_w, i32_w, px_w256]
             rfl
            refine pure_ (i := 1) (N := some 53) (v := ?_) (a' := ?_) (px_l 2 43) rfl rfl (any_of HT_.out (by kernel_rfl)) (fun _ _ _ h => h) (Or.inl ⟨by rfl, ?_⟩) ?_ ?_
            rotate_left
            ·intro w'
             go_simp
             with_reducible rfl
            rotate_left
            ·simp only [Act.put, px_a, px_b, px_c, i64_w, i32_w, px_w256]
             rfl
            refine pure_ (i := 2) (N := some 54) (v := ?_) (a' := ?_) (px_l 3 42) rfl rfl (any_of HT_.out (by kernel_rfl)) (fun _ _ _ h => h) (Or.inl ⟨by rfl, ?_⟩) ?_ ?_
            rotate_left
            ·intro w'
             go_simp
             with_reducible rfl
            rotate_left
            ·simp only [Act.put, px_a, px_b, px_c, i64_w, i32_w, px_w256]
             rfl
            refine take_ (i := 3) (N := some 55) (v := ?_) (a' := ?_) (px_l 4 41) rfl rfl (take_ofW HT_.out HW_.out (by kernel_rfl)) (fun _ _ _ h => h) (Or.inl ⟨by rfl, ?_⟩) hHeld ?_ ?_
            rotate_left
            ·intro w' s0
             go_simp
             with_reducible rfl
            rotate_left
            ·simp only [Act.put, px_a, px_b, px_c, i64_w, i32_w, px_w256]
             rfl
            refine pure_ (i := 4) (N := some 56) (v := ?_) (a' := ?_) (px_l 5 40) rfl rfl (any_of HT_.out (by kernel_rfl)) (fun _ _ _ h => h) (Or.inl ⟨by rfl, ?_⟩) ?_ ?_
            rotate_left
            ·intro w'
             go_simp
             with_reducible rfl
            rotate_left
            ·simp only [Act.put, px_a, px_b, px_c, i64_w, i32_w, px_w256]
             rfl
            refine pure_ (i := 5) (N := some 57) (v := ?_) (a' := ?_) (px_l 6 39) rfl rfl (any_of HT_.out (by kernel_rfl)) (fun _ _ _ h => h) (Or.inl ⟨by rfl, ?_⟩) ?_ ?_
            rotate_left
            ·intro w'
             go_simp
             with_reducible rfl
            rotate_left
            ·simp only [Act.put, px_a, px_b, px_c, i64_w, i32_w, px_w256]
             rfl
            refine pure_ (i := 6) (N := some 58) (v := ?_) (a' := ?_) (px_l 7 38) rfl rfl (any_of HT_.out (by kernel_rfl)) (fun _ _ _ h => h) (Or.inl ⟨by rfl, ?_⟩) ?_ ?_
            rotate_left
            ·intro w'
             go_simp
             with_reducible rfl
            rotate_left
            ·simp only [Act.put, px_a, px_b, px_c, i64_w, i32_w, px_w256]
             rfl
            refine pure_ (i := 7) (N := some 59) (v := ?_) (a' := ?_) (px_l 8 37) rfl rfl (any_of HT_.out (by kernel_rfl)) (fun _ _ _ h => h) (Or.inl ⟨by rfl, ?_⟩) ?_ ?_
            rotate_left
            ·intro w'
             go_simp
             with_reducible rfl
            rotate_left
            ·simp only [Act.put, px_a, px_b, px_c, i64_w, i32_w, px_w256]
             rfl
            refine one_ (i := 8) (N := some 60) (px_l 9 36) rfl rfl (one_of HT_.out (by kernel_rfl)) (by decide) (fun K hK => ?_)
            refine goes_ Try.func17 (by kernel_rfl) rfl #[.slice Ao27 t455.length co27, .int .i64 x11_2] (by rfl) rfl rfl (by (try simp only [List.map_toArray, List.map_cons, List.map_nil]); first | done | rfl | (simp only [List.length_drop, List.length_take]; rfl)) ?_
            with_reducible refine (spec_HasInt.calls k2 _ _ t455 x11_2 true _ ?side1 ?side2 A24.out).mono ?_
            (case side1 => repeat (first | exact (Kd.R_reads' HO_10.out).2.2 | (with_reducible refine Kd.C_alloc ?_ _) | (with_reducible refine Kd.C_drewN ?_ _) | (with_reducible refine Kd.C_drew ?_)))
            (case side2 => exact (Kd.R_reads' HO_10.out).2.1)
            rintro e w' ⟨rfl, ⟨nd, rfl⟩⟩
            refine ⟨_, rfl, ?_⟩
            refine hK.out _ _ (hHeld) (fun hHeld => ?_)
            clear hK K
            refine norm_ (a' := ?_) ?_ ?_
            rotate_left
            ·show Act.put _ (some 60) _ = _
             simp only [Act.put, px_a, px_b, px_c, i64_w, i32_w, px_w256]
             rfl
            refine pure_ (i := 9) (N := some 61) (v := ?_) (a' := ?_) (px_l 10 35) rfl rfl (any_of HT_.out (by kernel_rfl)) (fun _ _ _ h => h) (Or.inl ⟨by rfl, ?_⟩) ?_ ?_
            rotate_left
            ·intro w'
             go_simp
             with_reducible rfl
            rotate_left
            ·simp only [Act.put, px_a, px_b, px_c, i64_w, i32_w, px_w256]
             rfl
            refine pure_ (i := 10) (N := some 62) (v := ?_) (a' := ?_) (px_l 11 34) rfl rfl (any_of HT_.out (by kernel_rfl)) (fun _ _ _ h => h) (Or.inl ⟨by rfl, ?_⟩) ?_ ?_
            rotate_left
            ·intro w'
             go_simp
             with_reducible rfl
            rotate_left
            ·simp only [Act.put, px_a, px_b, px_c, i64_w, i32_w, px_w256]
             rfl
            refine pure_ (i := 11) (N := some 63) (v := undef) (a' := ?_) (px_l 12 33) rfl rfl (any_of HT_.out (by kernel_rfl)) (fun _ _ _ h => h) (Or.inr ⟨by rfl, rfl⟩) ?_ ?_
            rotate_left
            ·simp only [Act.put, px_a, px_b, px_c, i64_w, i32_w, px_w256]
             rfl
            refine pure_ (i := 12) (N := some 64) (v := undef) (a' := ?_) (px_l 13 32) rfl rfl (any_of HT_.out (by kernel_rfl)) (fun _ _ _ h => h) (Or.inr ⟨by rfl, rfl⟩) ?_ ?_
            rotate_left
            ·simp only [Act.put, px_a, px_b, px_c, i64_w, i32_w, px_w256]
             rfl
            refine pure_ (i := 13) (N := some 65) (v := undef) (a' := ?_) (px_l 14 31) rfl rfl (any_of HT_.out (by kernel_rfl)) (fun _ _ _ h => h) (Or.inr ⟨by rfl, rfl⟩) ?_ ?_
            rotate_left
            ·simp only [Act.put, px_a, px_b, px_c, i64_w, i32_w, px_w256]
             rfl
            refine pure_ (i := 14) (N := some 66) (v := undef) (a' := ?_) (px_l 15 30) rfl rfl (any_of HT_.out (by kernel_rfl)) (fun _ _ _ h => h) (Or.inr ⟨by rfl, rfl⟩) ?_ ?_
            rotate_left
            ·simp only [Act.put, px_a, px_b, px_c, i64_w, i32_w, px_w256]
             rfl
            refine pure_ (i := 15) (N := some 67) (v := undef) (a' := ?_) (px_l 16 29) rfl rfl (any_of HT_.out (by kernel_rfl)) (fun _ _ _ h => h) (Or.inr ⟨by rfl, rfl⟩) ?_ ?_
            rotate_left
            ·simp only [Act.put, px_a, px_b, px_c, i64_w, i32_w, px_w256]
             rfl
            refine pure_ (i := 16) (N := some 68) (v := undef) (a' := ?_) (px_l 17 28) rfl rfl (any_of HT_.out (by kernel_rfl)) (fun _ _ _ h => h) (Or.inr ⟨by rfl, rfl⟩) ?_ ?_
            rotate_left
            ·simp only [Act.put, px_a, px_b, px_c, i64_w, i32_w, px_w256]
             rfl
            refine pure_ (i := 17) (N := some 69) (v := undef) (a' := ?_) (px_l 18 27) rfl rfl (any_of HT_.out (by kernel_rfl)) (fun _ _ _ h => h) (Or.inr ⟨by rfl, rfl⟩) ?_ ?_
            rotate_left
            ·simp only [Act.put, px_a, px_b, px_c, i64_w, i32_w, px_w256]
             rfl
            refine pure_ (i := 18) (N := some 70) (v := undef) (a' := ?_) (px_l 19 26) rfl rfl (any_of HT_.out (by kernel_rfl)) (fun _ _ _ h => h) (Or.inr ⟨by rfl, rfl⟩) ?_ ?_
            rotate_left
            ·simp only [Act.put, px_a, px_b, px_c, i64_w, i32_w, px_w256]
             rfl
            refine pure_ (i := 19) (N := some 71) (v := undef) (a' := ?_) (px_l 20 25) rfl rfl (any_of HT_.out (by kernel_rfl)) (fun _ _ _ h => h) (Or.inr ⟨by rfl, rfl⟩) ?_ ?_
            rotate_left
            ·simp only [Act.put, px_a, px_b, px_c, i64_w, i32_w, px_w256]
             rfl
            refine pure_ (i := 20) (N := some 72) (v := undef) (a' := ?_) (px_l 21 24) rfl rfl (any_of HT_.out (by kernel_rfl)) (fun _ _ _ h => h) (Or.inr ⟨by rfl, rfl⟩) ?_ ?_
            rotate_left
            ·simp only [Act.put, px_a, px_b, px_c, i64_w, i32_w, px_w256]
             rfl
            refine pure_ (i := 21) (N := some 73) (v := undef) (a' := ?_) (px_l 22 23) rfl rfl (any_of HT_.out (by kernel_rfl)) (fun _ _ _ h => h) (Or.inr ⟨by rfl, rfl⟩) ?_ ?_
            rotate_left
            ·simp only [Act.put, px_a, px_b, px_c, i64_w, i32_w, px_w256]
             rfl
            refine pure_ (i := 22) (N := some 74) (v := undef) (a' := ?_) (px_l 23 22) rfl rfl (any_of HT_.out (by kernel_rfl)) (fun _ _ _ h => h) (Or.inr ⟨by rfl, rfl⟩) ?_ ?_
            rotate_left
            ·simp only [Act.put, px_a, px_b, px_c, i64_w, i32_w, px_w256]
             rfl
            refine pure_ (i := 23) (N := some 75) (v := undef) (a' := ?_) (px_l 24 21) rfl rfl (any_of HT_.out (by kernel_rfl)) (fun _ _ _ h => h) (Or.inr ⟨by rfl, rfl⟩) ?_ ?_
            rotate_left
            ·simp only [Act.put, px_a, px_b, px_c, i64_w, i32_w, px_w256]
             rfl
            refine pure_ (i := 24) (N := some 76) (v := undef) (a' := ?_) (px_l 25 20) rfl rfl (any_of HT_.out (by kernel_rfl)) (fun _ _ _ h => h) (Or.inr ⟨by rfl, rfl⟩) ?_ ?_
            rotate_left
            ·simp only [Act.put, px_a, px_b, px_c, i64_w, i32_w, px_w256]
             rfl
            refine pure_ (i := 25) (N := some 77) (v := undef) (a' := ?_) (px_l 26 19) rfl rfl (any_of HT_.out (by kernel_rfl)) (fun _ _ _ h => h) (Or.inr ⟨by rfl, rfl⟩) ?_ ?_
            rotate_left
            ·simp only [Act.put, px_a, px_b, px_c, i64_w, i32_w, px_w256]
             rfl
            refine pure_ (i := 26) (N := some 78) (v := undef) (a' := ?_) (px_l 27 18) rfl rfl (any_of HT_.out (by kernel_rfl)) (fun _ _ _ h => h) (Or.inr ⟨by rfl, rfl⟩) ?_ ?_
            rotate_left
            ·simp only [Act.put, px_a, px_b, px_c, i64_w, i32_w, px_w256]
             rfl
            refine pure_ (i := 27) (N := some 79) (v := ?_) (a' := ?_) (px_l 28 17) rfl rfl (any_of HT_.out (by kernel_rfl)) (fun _ _ _ h => h) (Or.inl ⟨by rfl, ?_⟩) ?_ ?_
            rotate_left
            ·intro w'
             go_simp
             with_reducible rfl
            rotate_left
            ·simp only [Act.put, px_a, px_b, px_c, i64_w, i32_w, px_w256]
             rfl
            refine pure_ (i := 28) (N := some 80) (v := ?_) (a' := ?_) (px_l 29 16) rfl rfl (any_of HT_.out (by kernel_rfl)) (fun _ _ _ h => h) (Or.inl ⟨by rfl, ?_⟩) ?_ ?_
            rotate_left
            ·intro w'
             go_simp
             with_reducible rfl
            rotate_left
            ·simp only [Act.put, px_a, px_b, px_c, i64_w, i32_w, px_w256]
             rfl
            refine pure_ (i := 29) (N := some 81) (v := undef) (a' := ?_) (px_l 30 15) rfl rfl (any_of HT_.out (by kernel_rfl)) (fun _ _ _ h => h) (Or.inr ⟨by rfl, rfl⟩) ?_ ?_
            rotate_left
            ·simp only [Act.put, px_a, px_b, px_c, i64_w, i32_w, px_w256]
             rfl
            refine pure_ (i := 30) (N := some 82) (v := undef) (a' := ?_) (px_l 31 14) rfl rfl (any_of HT_.out (by kernel_rfl)) (fun _ _ _ h => h) (Or.inr ⟨by rfl, rfl⟩) ?_ ?_
            rotate_left
            ·simp only [Act.put, px_a, px_b, px_c, i64_w, i32_w, px_w256]
             rfl
            refine pure_ (i := 31) (N := some 83) (v := undef) (a' := ?_) (px_l 32 13) rfl rfl (any_of HT_.out (by kernel_rfl)) (fun _ _ _ h => h) (Or.inr ⟨by rfl, rfl⟩) ?_ ?_
            rotate_left
            ·simp only [Act.put, px_a, px_b, px_c, i64_w, i32_w, px_w256]
             rfl
            refine pure_ (i := 32) (N := some 84) (v := undef) (a' := ?_) (px_l 33 12) rfl rfl (any_of HT_.out (by kernel_rfl)) (fun _ _ _ h => h) (Or.inr ⟨by rfl, rfl⟩) ?_ ?_
            rotate_left
            ·simp only [Act.put, px_a, px_b, px_c, i64_w, i32_w, px_w256]
             rfl
            refine pure_ (i := 33) (N := some 85) (v := undef) (a' := ?_) (px_l 34 11) rfl rfl (any_of HT_.out (by kernel_rfl)) (fun _ _ _ h => h) (Or.inr ⟨by rfl, rfl⟩) ?_ ?_
            rotate_left
            ·simp only [Act.put, px_a, px_b, px_c, i64_w, i32_w, px_w256]
             rfl
            refine pure_ (i := 34) (N := some 86) (v := undef) (a' := ?_) (px_l 35 10) rfl rfl (any_of HT_.out (by kernel_rfl)) (fun _ _ _ h => h) (Or.inr ⟨by rfl, rfl⟩) ?_ ?_
            rotate_left
            ·simp only [Act.put, px_a, px_b, px_c, i64_w, i32_w, px_w256]
             rfl
            refine pure_ (i := 35) (N := some 87) (v := undef) (a' := ?_) (px_l 36 9) rfl rfl (any_of HT_.out (by kernel_rfl)) (fun _ _ _ h => h) (Or.inr ⟨by rfl, rfl⟩) ?_ ?_
            rotate_left
            ·simp only [Act.put, px_a, px_b, px_c, i64_w, i32_w, px_w256]
             rfl
            refine pure_ (i := 36) (N := some 88) (v := undef) (a' := ?_) (px_l 37 8) rfl rfl (any_of HT_.out (by kernel_rfl)) (fun _ _ _ h => h) (Or.inr ⟨by rfl, rfl⟩) ?_ ?_
            rotate_left
            ·simp only [Act.put, px_a, px_b, px_c, i64_w, i32_w, px_w256]
             rfl
            refine pure_ (i := 37) (N := some 89) (v := undef) (a' := ?_) (px_l 38 7) rfl rfl (any_of HT_.out (by kernel_rfl)) (fun _ _ _ h => h) (Or.inr ⟨by rfl, rfl⟩) ?_ ?_
            rotate_left
            ·simp only [Act.put, px_a, px_b, px_c, i64_w, i32_w, px_w256]
             rfl
            refine pure_ (i := 38) (N := some 90) (v := undef) (a' := ?_) (px_l 39 6) rfl rfl (any_of HT_.out (by kernel_rfl)) (fun _ _ _ h => h) (Or.inr ⟨by rfl, rfl⟩) ?_ ?_
            rotate_left
            ·simp only [Act.put, px_a, px_b, px_c, i64_w, i32_w, px_w256]
             rfl
            refine pure_ (i := 39) (N := some 91) (v := undef) (a' := ?_) (px_l 40 5) rfl rfl (any_of HT_.out (by kernel_rfl)) (fun _ _ _ h => h) (Or.inr ⟨by rfl, rfl⟩) ?_ ?_
            rotate_left
            ·simp only [Act.put, px_a, px_b, px_c, i64_w, i32_w, px_w256]
             rfl
            refine pure_ (i := 40) (N := some 92) (v := undef) (a' := ?_) (px_l 41 4) rfl rfl (any_of HT_.out (by kernel_rfl)) (fun _ _ _ h => h) (Or.inr ⟨by rfl, rfl⟩) ?_ ?_
            rotate_left
            ·simp only [Act.put, px_a, px_b, px_c, i64_w, i32_w, px_w256]
             rfl
            refine pure_ (i := 41) (N := some 93) (v := undef) (a' := ?_) (px_l 42 3) rfl rfl (any_of HT_.out (by kernel_rfl)) (fun _ _ _ h => h) (Or.inr ⟨by rfl, rfl⟩) ?_ ?_
            rotate_left
            ·simp only [Act.put, px_a, px_b, px_c, i64_w, i32_w, px_w256]
             rfl
            refine pure_ (i := 42) (N := some 94) (v := undef) (a' := ?_) (px_l 43 2) rfl rfl (any_of HT_.out (by kernel_rfl)) (fun _ _ _ h => h) (Or.inr ⟨by rfl, rfl⟩) ?_ ?_
            rotate_left
            ·simp only [Act.put, px_a, px_b, px_c, i64_w, i32_w, px_w256]
             rfl
            refine pure_ (i := 43) (N := some 95) (v := undef) (a' := ?_) (px_l 44 1) rfl rfl (any_of HT_.out (by kernel_rfl)) (fun _ _ _ h => h) (Or.inr ⟨by rfl, rfl⟩) ?_ ?_
            rotate_left
            ·simp only [Act.put, px_a, px_b, px_c, i64_w, i32_w, px_w256]
             rfl
            refine pure_ (i := 44) (N := some 96) (v := ?_) (a' := ?_) (px_l 45 0) rfl rfl (any_of HT_.out (by kernel_rfl)) (fun _ _ _ h => h) (Or.inl ⟨by rfl, ?_⟩) ?_ ?_
            rotate_left
            ·intro w'
             go_simp
             with_reducible rfl
            rotate_left
            ·simp only [Act.put, px_a, px_b, px_c, i64_w, i32_w, px_w256]
             rfl
            refine done_ (done_of HT_.out (by kernel_rfl)) ?_
            try go_wp2
            go_meet
            case rel => exact ⟨_, (true), (by first | rfl | (simp; done) | (simp [*]; done)), H', ⟨by have := HJ6.out; have := HK2.out; first | omega | exact Nat.le_refl _⟩, ⟨by (with_reducible repeat (first | apply Kd.R_alloc | apply Kd.R_drewN | apply Kd.R_drew)); exact HO_5.out⟩, ⟨by (with_reducible repeat (first | apply Kd.R_alloc | apply Kd.R_drewN | apply Kd.R_drew)); exact HO_7.out⟩, ⟨by (with_reducible repeat (first | apply Kd.R_alloc | apply Kd.R_drewN | apply Kd.R_drew)); exact HO_10.out⟩, ⟨by repeat (first | (with_reducible first | exact HB.out | apply below_alloc | apply pw_below_drewN | apply below_drew1) | exact HB.out)⟩⟩
           ·replace c25 := Bool.eq_false_iff.mpr c25
            subst c25
            have H1 : (if (rd t448 x11_2) ≥ 0 then (if x11_2 < (t440.length : Int) then (if (rd t448 x11_2) < (rd t440 x11_2) then (laws_FnCollectUpTo.j2 k2 t440 t441 t448 t455 x11_2 true) else (if t441 = 2 then ((spec_HasInt.f k2 t455 x11_2).bind fun t464 => (laws_FnCollectUpTo.j2 k2 t440 t441 t448 t455 x11_2 (!t464))) else (laws_FnCollectUpTo.j2 k2 t440 t441 t448 t455 x11_2 false))) else (none)) else (if t441 = 2 then (laws_FnCollectUpTo.j2 k2 t440 t441 t448 t455 x11_2 false) else (laws_FnCollectUpTo.j2 k2 t440 t441 t448 t455 x11_2 false))) = some r := by rw [if_neg (show ¬ (false = true) by decide)] at H; exact H
            clear H
            have H := H1
            clear H1
            by_cases c28 : (rd t448 x11_2) ≥ 0
            ·rw [if_pos c28] at H
             have c28b0 : decide (0 ≤ (rd t448 x11_2)) = true := decide_eq_true c28
             clear c28
             by_cases c29 : x11_2 < (t440.length : Int)
             ·rw [if_pos c29] at H
              have c29b0 : decide (x11_2 < (t440.length : Int)) = true := decide_eq_true c29
              clear c29
              by_cases c30 : (rd t448 x11_2) < (rd t440 x11_2)
              ·rw [if_pos c30] at H
               have c30b0 : decide ((rd t448 x11_2) < (rd t440 x11_2)) = true := decide_eq_true c30
               clear c30
               have H' := Aside0.mk H
               clear H
               try go_wp2
               have n0_ := Aside0.mk (Kd.R_drew HO_5.out)
               have n1_ := Aside0.mk (Kd.R_drew HO_7.out)
               have n2_ := Aside0.mk (Kd.R_drew HO_10.out)
               have n3_ := Aside0.mk (below_drew1 HB.out)
               clear HO_5
               clear HO_7
               clear HO_10
               clear HB
               have HO_5 := n0_
               have HO_7 := n1_
               have HO_10 := n2_
               have HB := n3_
               clear n0_ n1_ n2_ n3_
               have p458 : 0 ≤ (x11_2 : Int) := of_decide_eq_true (by first | (with_reducible assumption) | assumption)
               have q458 : x11_2 < (t448.length : Int) := of_decide_eq_true (by first | (with_reducible assumption) | assumption)
               obtain ⟨ad458, e458, hx458_0⟩ := Kd.at_int (Kd.R_reads' HO_7.out).2.2 x11_2 p458 q458
               cases e458
               replace p458 := eq_true p458
               replace q458 := eq_true q458
               obtain ⟨Ao32, co32, eo32⟩ := Kd.R_slice HO_10.out
               (first | subst eo32 | (injection eo32 with f1_ f2_ f3_; have f4_ := f1_.symm; have f5_ := f3_.symm; clear f1_ f2_ f3_; subst f4_; subst f5_))
               have p460 : 0 ≤ (x11_2 : Int) := of_decide_eq_true (by first | (with_reducible assumption) | assumption)
               have q460 : x11_2 < (t448.length : Int) := of_decide_eq_true (by first | (with_reducible assumption) | assumption)
               obtain ⟨ad460, e460, hx460_0⟩ := Kd.at_int (Kd.R_reads' HO_7.out).2.2 x11_2 p460 q460
               obtain rfl : ad458 = ad460 := (by injection e460)
               replace p460 := eq_true p460
               replace q460 := eq_true q460
               have p461 : 0 ≤ (x11_2 : Int) := of_decide_eq_true (by first | (with_reducible assumption) | assumption)
               have q461 : x11_2 < (t448.length : Int) := of_decide_eq_true (by first | (with_reducible assumption) | assumption)
               obtain ⟨ad461, e461, hx461_0⟩ := Kd.at_int (Kd.R_reads' HO_7.out).2.2 x11_2 p461 q461
               obtain rfl : ad458 = ad461 := (by injection e461)
               replace p461 := eq_true p461
               replace q461 := eq_true q461
               have p462 : 0 ≤ (x11_2 : Int) := of_decide_eq_true (by first | (with_reducible assumption) | assumption)
               have q462 : x11_2 < (t440.length : Int) := of_decide_eq_true (by first | (with_reducible assumption) | assumption)
               obtain ⟨ad462, e462, hx462_0⟩ := Kd.at_int (Kd.R_reads' HO_5.out).2.2 x11_2 p462 q462
               cases e462
               replace p462 := eq_true p462
               replace q462 := eq_true q462
               refine start_ (n := 45) (S := fun w' => w'.cell? (ad458.add (x11_2).toNat) = some (.int .i64 (rd t448 x11_2)) ∧ w'.cell? (ad458.add (x11_2).toNat) = some (.int .i64 (rd t448 x11_2)) ∧ w'.cell? (ad458.add (x11_2).toNat) = some (.int .i64 (rd t448 x11_2)) ∧ w'.cell? (ad462.add (x11_2).toNat) = some (.int .i64 (rd t440 x11_2))) (ds := []) (px_l 0 45) (by kernel_rfl) rfl rfl ⟨hx458_0, hx460_0, hx461_0, hx462_0⟩ (fun hHeld => ?_); refine with_tabW laws_FnCollectUpTo.tab13 laws_FnCollectUpTo.bits13 (fun HT_ HW_ => ?_)
               generalize wr.drew = w31 at HO_5 HO_7 HO_10 HB hx458_0 hx460_0 hx461_0 hx462_0 hHeld ⊢
               refine pure_ (i := 0) (N := some 52) (v := ?_) (a' := ?_) (px_l 1 44) rfl rfl (any_of HT_.out (by kernel_rfl)) (fun _ _ _ h => h) (Or.inl ⟨by rfl, ?_⟩) ?_ ?_
               rotate_left
               ·intro w'
                go_simp
                with_reducible rfl
               rotate_left
               ·simp only [Act.put, px_a, px_b, px_c, i64_w, i32_w, px_w256]
                rfl
               refine pure_ (i := 1) (N := some 53) (v := ?_) (a' := ?_) (px_l 2 43) rfl rfl (any_of HT_.out (by kernel_rfl)) (fun _ _ _ h => h) (Or.inl ⟨by rfl, ?_⟩) ?_ ?_
               rotate_left
               ·intro w'
                go_simp
                with_reducible rfl
               rotate_left
               ·simp only [Act.put, px_a, px_b, px_c, i64_w, i32_w, px_w256]
                rfl
               refine pure_ (i := 2) (N := some 54) (v := ?_) (a' := ?_) (px_l 3 42) rfl rfl (any_of HT_.out (by kernel_rfl)) (fun _ _ _ h => h) (Or.inl ⟨by rfl, ?_⟩) ?_ ?_
               rotate_left
               ·intro w'
                go_simp
                with_reducible rfl
               rotate_left
               ·simp only [Act.put, px_a, px_b, px_c, i64_w, i32_w, px_w256]
                rfl
               refine take_ (i := 3) (N := some 55) (v := ?_) (a' := ?_) (px_l 4 41) rfl rfl (take_ofW HT_.out HW_.out (by kernel_rfl)) (fun _ _ _ h => h) (Or.inl ⟨by rfl, ?_⟩) hHeld ?_ ?_
               rotate_left
               ·rintro w' ⟨s0, s1, s2, s3⟩
                go_simp
                with_reducible rfl
               rotate_left
               ·simp only [Act.put, px_a, px_b, px_c, i64_w, i32_w, px_w256]
                rfl
               refine pure_ (i := 4) (N := some 56) (v := ?_) (a' := ?_) (px_l 5 40) rfl rfl (any_of HT_.out (by kernel_rfl)) (fun _ _ _ h => h) (Or.inl ⟨by rfl, ?_⟩) ?_ ?_
               rotate_left
               ·intro w'
                go_simp
                with_reducible rfl
               rotate_left
               ·simp only [Act.put, px_a, px_b, px_c, i64_w, i32_w, px_w256]
                rfl
               refine pure_ (i := 5) (N := some 57) (v := ?_) (a' := ?_) (px_l 6 39) rfl rfl (any_of HT_.out (by kernel_rfl)) (fun _ _ _ h => h) (Or.inl ⟨by rfl, ?_⟩) ?_ ?_
               rotate_left
               ·intro w'
                go_simp
                with_reducible rfl
               rotate_left
               ·simp only [Act.put, px_a, px_b, px_c, i64_w, i32_w, px_w256]
                rfl
               refine pure_ (i := 6) (N := some 58) (v := ?_) (a' := ?_) (px_l 7 38) rfl rfl (any_of HT_.out (by kernel_rfl)) (fun _ _ _ h => h) (Or.inl ⟨by rfl, ?_⟩) ?_ ?_
               rotate_left
               ·intro w'
                go_simp
                with_reducible rfl
               rotate_left
               ·simp only [Act.put, px_a, px_b, px_c, i64_w, i32_w, px_w256]
                rfl
               refine pure_ (i := 7) (N := some 59) (v := ?_) (a' := ?_) (px_l 8 37) rfl rfl (any_of HT_.out (by kernel_rfl)) (fun _ _ _ h => h) (Or.inl ⟨by rfl, ?_⟩) ?_ ?_
               rotate_left
               ·intro w'
                go_simp
                with_reducible rfl
               rotate_left
               ·simp only [Act.put, px_a, px_b, px_c, i64_w, i32_w, px_w256]
                rfl
               refine one_ (i := 8) (N := some 60) (px_l 9 36) rfl rfl (one_of HT_.out (by kernel_rfl)) (by decide) (fun K hK => ?_)
               refine goes_ Try.func17 (by kernel_rfl) rfl #[.slice Ao32 t455.length co32, .int .i64 x11_2] (by rfl) rfl rfl (by (try simp only [List.map_toArray, List.map_cons, List.map_nil]); first | done | rfl | (simp only [List.length_drop, List.length_take]; rfl)) ?_
               with_reducible refine (spec_HasInt.calls k2 _ _ t455 x11_2 false _ ?side1 ?side2 A24.out).mono ?_
               (case side1 => repeat (first | exact (Kd.R_reads' HO_10.out).2.2 | (with_reducible refine Kd.C_alloc ?_ _) | (with_reducible refine Kd.C_drewN ?_ _) | (with_reducible refine Kd.C_drew ?_)))
               (case side2 => exact (Kd.R_reads' HO_10.out).2.1)
               rintro e w' ⟨rfl, ⟨nd, rfl⟩⟩
               refine ⟨_, rfl, ?_⟩
               refine hK.out _ _ ⟨hHeld.1, hHeld.2.1, hHeld.2.2.1, hHeld.2.2.2⟩ (fun hHeld => ?_)
               clear hK K
               refine norm_ (a' := ?_) ?_ ?_
               rotate_left
               ·show Act.put _ (some 60) _ = _
                simp only [Act.put, px_a, px_b, px_c, i64_w, i32_w, px_w256]
                rfl
               refine pure_ (i := 9) (N := some 61) (v := ?_) (a' := ?_) (px_l 10 35) rfl rfl (any_of HT_.out (by kernel_rfl)) (fun _ _ _ h => h) (Or.inl ⟨by rfl, ?_⟩) ?_ ?_
               rotate_left
               ·intro w'
                go_simp
                with_reducible rfl
               rotate_left
               ·simp only [Act.put, px_a, px_b, px_c, i64_w, i32_w, px_w256]
                rfl
               refine pure_ (i := 10) (N := some 62) (v := ?_) (a' := ?_) (px_l 11 34) rfl rfl (any_of HT_.out (by kernel_rfl)) (fun _ _ _ h => h) (Or.inl ⟨by rfl, ?_⟩) ?_ ?_
               rotate_left
               ·intro w'
                go_simp
                with_reducible rfl
               rotate_left
               ·simp only [Act.put, px_a, px_b, px_c, i64_w, i32_w, px_w256]
                rfl
               refine pure_ (i := 11) (N := some 63) (v := ?_) (a' := ?_) (px_l 12 33) rfl rfl (any_of HT_.out (by kernel_rfl)) (fun _ _ _ h => h) (Or.inl ⟨by rfl, ?_⟩) ?_ ?_
               rotate_left
               ·intro w'
                go_simp
                with_reducible rfl
               rotate_left
               ·simp only [Act.put, px_a, px_b, px_c, i64_w, i32_w, px_w256]
                rfl
               refine pure_ (i := 12) (N := some 64) (v := ?_) (a' := ?_) (px_l 13 32) rfl rfl (any_of HT_.out (by kernel_rfl)) (fun _ _ _ h => h) (Or.inl ⟨by rfl, ?_⟩) ?_ ?_
               rotate_left
               ·intro w'
                go_simp
                with_reducible rfl
               rotate_left
               ·simp only [Act.put, px_a, px_b, px_c, i64_w, i32_w, px_w256]
                rfl
               refine pure_ (i := 13) (N := some 65) (v := ?_) (a' := ?_) (px_l 14 31) rfl rfl (any_of HT_.out (by kernel_rfl)) (fun _ _ _ h => h) (Or.inl ⟨by rfl, ?_⟩) ?_ ?_
               rotate_left
               ·intro w'
                go_simp
                with_reducible rfl
               rotate_left
               ·simp only [Act.put, px_a, px_b, px_c, i64_w, i32_w, px_w256]
                rfl
               refine take_ (i := 14) (N := some 66) (v := ?_) (a' := ?_) (px_l 15 30) rfl rfl (take_ofW HT_.out HW_.out (by kernel_rfl)) (fun _ _ _ h => h) (Or.inl ⟨by rfl, ?_⟩) hHeld ?_ ?_
               rotate_left
               ·rintro w' ⟨s0, s1, s2, s3⟩
                go_simp
                with_reducible rfl
               rotate_left
               ·simp only [Act.put, px_a, px_b, px_c, i64_w, i32_w, px_w256]
                rfl
               refine pure_ (i := 15) (N := some 67) (v := ?_) (a' := ?_) (px_l 16 29) rfl rfl (any_of HT_.out (by kernel_rfl)) (fun _ _ _ h => h) (Or.inl ⟨by rfl, ?_⟩) ?_ ?_
               rotate_left
               ·intro w'
                go_simp
                with_reducible rfl
               rotate_left
               ·simp only [Act.put, px_a, px_b, px_c, i64_w, i32_w, px_w256]
                rfl
               refine pure_ (i := 16) (N := some 68) (v := ?_) (a' := ?_) (px_l 17 28) rfl rfl (any_of HT_.out (by kernel_rfl)) (fun _ _ _ h => h) (Or.inl ⟨by rfl, ?_⟩) ?_ ?_
               rotate_left
               ·intro w'
                go_simp
                with_reducible rfl
               rotate_left
               ·simp only [Act.put, px_a, px_b, px_c, i64_w, i32_w, px_w256]
                rfl
               refine pure_ (i := 17) (N := some 69) (v := ?_) (a' := ?_) (px_l 18 27) rfl rfl (any_of HT_.out (by kernel_rfl)) (fun _ _ _ h => h) (Or.inl ⟨by rfl, ?_⟩) ?_ ?_
               rotate_left
               ·intro w'
                go_simp
                with_reducible rfl
               rotate_left
               ·simp only [Act.put, px_a, px_b, px_c, i64_w, i32_w, px_w256]
                rfl
               refine pure_ (i := 18) (N := some 70) (v := ?_) (a' := ?_) (px_l 19 26) rfl rfl (any_of HT_.out (by kernel_rfl)) (fun _ _ _ h => h) (Or.inl ⟨by rfl, ?_⟩) ?_ ?_
               rotate_left
               ·intro w'
                go_simp
                with_reducible rfl
               rotate_left
               ·simp only [Act.put, px_a, px_b, px_c, i64_w, i32_w, px_w256]
                rfl
               refine pure_ (i := 19) (N := some 71) (v := ?_) (a' := ?_) (px_l 20 25) rfl rfl (any_of HT_.out (by kernel_rfl)) (fun _ _ _ h => h) (Or.inl ⟨by rfl, ?_⟩) ?_ ?_
               rotate_left
               ·intro w'
                go_simp
                with_reducible rfl
               rotate_left
               ·simp only [Act.put, px_a, px_b, px_c, i64_w, i32_w, px_w256]
                rfl
               refine pure_ (i := 21) (N := some 73) (v := ?_) (a' := ?_) #[true, true, true, true, true, true, true, true, true, true, true, true, true, true, true, true, true, true, true, true, false, true, false, false, false, false, false, false, false, false, false, false, false, false, false, false, false, false, false, false, false, false, false, false, false] rfl rfl (any_of HT_.out (by kernel_rfl)) (fun _ _ _ h => h) (Or.inl ⟨by rfl, ?_⟩) ?_ ?_
               rotate_left
               ·intro w'
                go_simp
                with_reducible rfl
               rotate_left
               ·simp only [Act.put, px_a, px_b, px_c, i64_w, i32_w, px_w256]
                rfl
               refine pure_ (i := 22) (N := some 74) (v := ?_) (a' := ?_) #[true, true, true, true, true, true, true, true, true, true, true, true, true, true, true, true, true, true, true, true, false, true, true, false, false, false, false, false, false, false, false, false, false, false, false, false, false, false, false, false, false, false, false, false, false] rfl rfl (any_of HT_.out (by kernel_rfl)) (fun _ _ _ h => h) (Or.inl ⟨by rfl, ?_⟩) ?_ ?_
               rotate_left
               ·intro w'
                go_simp
                with_reducible rfl
               rotate_left
               ·simp only [Act.put, px_a, px_b, px_c, i64_w, i32_w, px_w256]
                rfl
               refine pure_ (i := 23) (N := some 75) (v := ?_) (a' := ?_) #[true, true, true, true, true, true, true, true, true, true, true, true, true, true, true, true, true, true, true, true, false, true, true, true, false, false, false, false, false, false, false, false, false, false, false, false, false, false, false, false, false, false, false, false, false] rfl rfl (any_of HT_.out (by kernel_rfl)) (fun _ _ _ h => h) (Or.inl ⟨by rfl, ?_⟩) ?_ ?_
               rotate_left
               ·intro w'
                go_simp
                with_reducible rfl
               rotate_left
               ·simp only [Act.put, px_a, px_b, px_c, i64_w, i32_w, px_w256]
                rfl
               refine take_ (i := 20) (N := some 72) (v := ?_) (a' := ?_) (px_l 24 21) rfl rfl (take_ofW HT_.out HW_.out (by kernel_rfl)) (fun _ _ _ h => h) (Or.inl ⟨by rfl, ?_⟩) hHeld ?_ ?_
               rotate_left
               ·rintro w' ⟨s0, s1, s2, s3⟩
                go_simp
                with_reducible rfl
               rotate_left
               ·simp only [Act.put, px_a, px_b, px_c, i64_w, i32_w, px_w256]
                rfl
               refine take_ (i := 24) (N := some 76) (v := ?_) (a' := ?_) (px_l 25 20) rfl rfl (take_ofW HT_.out HW_.out (by kernel_rfl)) (fun _ _ _ h => h) (Or.inl ⟨by rfl, ?_⟩) hHeld ?_ ?_
               rotate_left
               ·rintro w' ⟨s0, s1, s2, s3⟩
                go_simp
                with_reducible rfl
               rotate_left
               ·simp only [Act.put, px_a, px_b, px_c, i64_w, i32_w, px_w256]
                rfl
               refine pure_ (i := 25) (N := some 77) (v := ?_) (a' := ?_) (px_l 26 19) rfl rfl (any_of HT_.out (by kernel_rfl)) (fun _ _ _ h => h) (Or.inl ⟨by rfl, ?_⟩) ?_ ?_
               rotate_left
               ·intro w'
                go_simp
                with_reducible rfl
               rotate_left
               ·simp only [Act.put, px_a, px_b, px_c, i64_w, i32_w, px_w256]
                rfl
               refine pure_ (i := 26) (N := some 78) (v := ?_) (a' := ?_) (px_l 27 18) rfl rfl (any_of HT_.out (by kernel_rfl)) (fun _ _ _ h => h) (Or.inl ⟨by rfl, ?_⟩) ?_ ?_
               rotate_left
               ·intro w'
                go_simp
                with_reducible rfl
               rotate_left
               ·simp only [Act.put, px_a, px_b, px_c, i64_w, i32_w, px_w256]
                rfl
               refine pure_ (i := 27) (N := some 79) (v := ?_) (a' := ?_) (px_l 28 17) rfl rfl (any_of HT_.out (by kernel_rfl)) (fun _ _ _ h => h) (Or.inl ⟨by rfl, ?_⟩) ?_ ?_
               rotate_left
               ·intro w'
                go_simp
                with_reducible rfl
               rotate_left
               ·simp only [Act.put, px_a, px_b, px_c, i64_w, i32_w, px_w256]
                rfl
               refine pure_ (i := 28) (N := some 80) (v := ?_) (a' := ?_) (px_l 29 16) rfl rfl (any_of HT_.out (by kernel_rfl)) (fun _ _ _ h => h) (Or.inl ⟨by rfl, ?_⟩) ?_ ?_
               rotate_left
               ·intro w'
                go_simp
                with_reducible rfl
               rotate_left
               ·simp only [Act.put, px_a, px_b, px_c, i64_w, i32_w, px_w256]
                rfl
               refine pure_ (i := 29) (N := some 81) (v := undef) (a' := ?_) (px_l 30 15) rfl rfl (any_of HT_.out (by kernel_rfl)) (fun _ _ _ h => h) (Or.inr ⟨by rfl, rfl⟩) ?_ ?_
               rotate_left
               ·simp only [Act.put, px_a, px_b, px_c, i64_w, i32_w, px_w256]
                rfl
               refine pure_ (i := 30) (N := some 82) (v := undef) (a' := ?_) (px_l 31 14) rfl rfl (any_of HT_.out (by kernel_rfl)) (fun _ _ _ h => h) (Or.inr ⟨by rfl, rfl⟩) ?_ ?_
               rotate_left
               ·simp only [Act.put, px_a, px_b, px_c, i64_w, i32_w, px_w256]
                rfl
               refine pure_ (i := 31) (N := some 83) (v := undef) (a' := ?_) (px_l 32 13) rfl rfl (any_of HT_.out (by kernel_rfl)) (fun _ _ _ h => h) (Or.inr ⟨by rfl, rfl⟩) ?_ ?_
               rotate_left
               ·simp only [Act.put, px_a, px_b, px_c, i64_w, i32_w, px_w256]
                rfl
               refine pure_ (i := 32) (N := some 84) (v := undef) (a' := ?_) (px_l 33 12) rfl rfl (any_of HT_.out (by kernel_rfl)) (fun _ _ _ h => h) (Or.inr ⟨by rfl, rfl⟩) ?_ ?_
               rotate_left
               ·simp only [Act.put, px_a, px_b, px_c, i64_w, i32_w, px_w256]
                rfl
               refine pure_ (i := 33) (N := some 85) (v := undef) (a' := ?_) (px_l 34 11) rfl rfl (any_of HT_.out (by kernel_rfl)) (fun _ _ _ h => h) (Or.inr ⟨by rfl, rfl⟩) ?_ ?_
               rotate_left
               ·simp only [Act.put, px_a, px_b, px_c, i64_w, i32_w, px_w256]
                rfl
               refine pure_ (i := 34) (N := some 86) (v := undef) (a' := ?_) (px_l 35 10) rfl rfl (any_of HT_.out (by kernel_rfl)) (fun _ _ _ h => h) (Or.inr ⟨by rfl, rfl⟩) ?_ ?_
               rotate_left
               ·simp only [Act.put, px_a, px_b, px_c, i64_w, i32_w, px_w256]
                rfl
               refine pure_ (i := 35) (N := some 87) (v := undef) (a' := ?_) (px_l 36 9) rfl rfl (any_of HT_.out (by kernel_rfl)) (fun _ _ _ h => h) (Or.inr ⟨by rfl, rfl⟩) ?_ ?_
               rotate_left
               ·simp only [Act.put, px_a, px_b, px_c, i64_w, i32_w, px_w256]
                rfl
               refine pure_ (i := 36) (N := some 88) (v := undef) (a' := ?_) (px_l 37 8) rfl rfl (any_of HT_.out (by kernel_rfl)) (fun _ _ _ h => h) (Or.inr ⟨by rfl, rfl⟩) ?_ ?_
               rotate_left
               ·simp only [Act.put, px_a, px_b, px_c, i64_w, i32_w, px_w256]
                rfl
               refine pure_ (i := 37) (N := some 89) (v := undef) (a' := ?_) (px_l 38 7) rfl rfl (any_of HT_.out (by kernel_rfl)) (fun _ _ _ h => h) (Or.inr ⟨by rfl, rfl⟩) ?_ ?_
               rotate_left
               ·simp only [Act.put, px_a, px_b, px_c, i64_w, i32_w, px_w256]
                rfl
               refine pure_ (i := 38) (N := some 90) (v := undef) (a' := ?_) (px_l 39 6) rfl rfl (any_of HT_.out (by kernel_rfl)) (fun _ _ _ h => h) (Or.inr ⟨by rfl, rfl⟩) ?_ ?_
               rotate_left
               ·simp only [Act.put, px_a, px_b, px_c, i64_w, i32_w, px_w256]
                rfl
               refine pure_ (i := 39) (N := some 91) (v := undef) (a' := ?_) (px_l 40 5) rfl rfl (any_of HT_.out (by kernel_rfl)) (fun _ _ _ h => h) (Or.inr ⟨by rfl, rfl⟩) ?_ ?_
               rotate_left
               ·simp only [Act.put, px_a, px_b, px_c, i64_w, i32_w, px_w256]
                rfl
               refine pure_ (i := 40) (N := some 92) (v := undef) (a' := ?_) (px_l 41 4) rfl rfl (any_of HT_.out (by kernel_rfl)) (fun _ _ _ h => h) (Or.inr ⟨by rfl, rfl⟩) ?_ ?_
               rotate_left
               ·simp only [Act.put, px_a, px_b, px_c, i64_w, i32_w, px_w256]
                rfl
               refine pure_ (i := 41) (N := some 93) (v := undef) (a' := ?_) (px_l 42 3) rfl rfl (any_of HT_.out (by kernel_rfl)) (fun _ _ _ h => h) (Or.inr ⟨by rfl, rfl⟩) ?_ ?_
               rotate_left
               ·simp only [Act.put, px_a, px_b, px_c, i64_w, i32_w, px_w256]
                rfl
               refine pure_ (i := 42) (N := some 94) (v := undef) (a' := ?_) (px_l 43 2) rfl rfl (any_of HT_.out (by kernel_rfl)) (fun _ _ _ h => h) (Or.inr ⟨by rfl, rfl⟩) ?_ ?_
               rotate_left
               ·simp only [Act.put, px_a, px_b, px_c, i64_w, i32_w, px_w256]
                rfl
               refine pure_ (i := 43) (N := some 95) (v := undef) (a' := ?_) (px_l 44 1) rfl rfl (any_of HT_.out (by kernel_rfl)) (fun _ _ _ h => h) (Or.inr ⟨by rfl, rfl⟩) ?_ ?_
               rotate_left
               ·simp only [Act.put, px_a, px_b, px_c, i64_w, i32_w, px_w256]
                rfl
               refine pure_ (i := 44) (N := some 96) (v := ?_) (a' := ?_) (px_l 45 0) rfl rfl (any_of HT_.out (by kernel_rfl)) (fun _ _ _ h => h) (Or.inl ⟨by rfl, ?_⟩) ?_ ?_
               rotate_left
               ·intro w'
                go_simp
                with_reducible rfl
               rotate_left
               ·simp only [Act.put, px_a, px_b, px_c, i64_w, i32_w, px_w256]
                rfl
               refine done_ (done_of HT_.out (by kernel_rfl)) ?_
               try go_wp2
               go_meet
               case rel => exact ⟨_, (true), (by first | rfl | (simp; done) | (simp [*]; done)), H', ⟨by have := HJ6.out; have := HK2.out; first | omega | exact Nat.le_refl _⟩, ⟨by (with_reducible repeat (first | apply Kd.R_alloc | apply Kd.R_drewN | apply Kd.R_drew)); exact HO_5.out⟩, ⟨by (with_reducible repeat (first | apply Kd.R_alloc | apply Kd.R_drewN | apply Kd.R_drew)); exact HO_7.out⟩, ⟨by (with_reducible repeat (first | apply Kd.R_alloc | apply Kd.R_drewN | apply Kd.R_drew)); exact HO_10.out⟩, ⟨by repeat (first | (with_reducible first | exact HB.out | apply below_alloc | apply pw_below_drewN | apply below_drew1) | exact HB.out)⟩⟩
              ·rw [if_neg c30] at H
               have c30b0 : decide ((rd t448 x11_2) < (rd t440 x11_2)) = false := decide_eq_false c30
               clear c30
               by_cases c33 : t441 = 2
               ·rw [if_pos c33] at H
                have c33b0 : (t441 == 2) = true := beq_iff_eq.mpr c33
                have c33b1 : (t441 != 2) = false := bne_eq_false_iff_eq.mpr c33
                clear c33
                replace H := Option.bind_eq_some_iff.mp H
                obtain ⟨t464, A340, H⟩ := H
                replace H : (laws_FnCollectUpTo.j2 k2 t440 t441 t448 t455 x11_2 (!t464)) = some r := H
                have A34 := Aside0.mk A340
                clear A340
                have H' := Aside0.mk H
                clear H
                try go_wp2
                have n0_ := Aside0.mk (Kd.R_drew HO_5.out)
                have n1_ := Aside0.mk (Kd.R_drew HO_7.out)
                have n2_ := Aside0.mk (Kd.R_drew HO_10.out)
                have n3_ := Aside0.mk (below_drew1 HB.out)
                clear HO_5
                clear HO_7
                clear HO_10
                clear HB
                have HO_5 := n0_
                have HO_7 := n1_
                have HO_10 := n2_
                have HB := n3_
                clear n0_ n1_ n2_ n3_
                have p458 : 0 ≤ (x11_2 : Int) := of_decide_eq_true (by first | (with_reducible assumption) | assumption)
                have q458 : x11_2 < (t448.length : Int) := of_decide_eq_true (by first | (with_reducible assumption) | assumption)
                obtain ⟨ad458, e458, hx458_0⟩ := Kd.at_int (Kd.R_reads' HO_7.out).2.2 x11_2 p458 q458
                cases e458
                replace p458 := eq_true p458
                replace q458 := eq_true q458
                obtain ⟨Ao36, co36, eo36⟩ := Kd.R_slice HO_10.out
                (first | subst eo36 | (injection eo36 with f1_ f2_ f3_; have f4_ := f1_.symm; have f5_ := f3_.symm; clear f1_ f2_ f3_; subst f4_; subst f5_))
                have p460 : 0 ≤ (x11_2 : Int) := of_decide_eq_true (by first | (with_reducible assumption) | assumption)
                have q460 : x11_2 < (t448.length : Int) := of_decide_eq_true (by first | (with_reducible assumption) | assumption)
                obtain ⟨ad460, e460, hx460_0⟩ := Kd.at_int (Kd.R_reads' HO_7.out).2.2 x11_2 p460 q460
                obtain rfl : ad458 = ad460 := (by injection e460)
                replace p460 := eq_true p460
                replace q460 := eq_true q460
                have p461 : 0 ≤ (x11_2 : Int) := of_decide_eq_true (by first | (with_reducible assumption) | assumption)
                have q461 : x11_2 < (t448.length : Int) := of_decide_eq_true (by first | (with_reducible assumption) | assumption)
                obtain ⟨ad461, e461, hx461_0⟩ := Kd.at_int (Kd.R_reads' HO_7.out).2.2 x11_2 p461 q461
                obtain rfl : ad458 = ad461 := (by injection e461)
                replace p461 := eq_true p461
                replace q461 := eq_true q461
                have p462 : 0 ≤ (x11_2 : Int) := of_decide_eq_true (by first | (with_reducible assumption) | assumption)
                have q462 : x11_2 < (t440.length : Int) := of_decide_eq_true (by first | (with_reducible assumption) | assumption)
                obtain ⟨ad462, e462, hx462_0⟩ := Kd.at_int (Kd.R_reads' HO_5.out).2.2 x11_2 p462 q462
                cases e462
                replace p462 := eq_true p462
                replace q462 := eq_true q462
                have p463 : 0 ≤ (x11_2 : Int) := of_decide_eq_true (by first | (with_reducible assumption) | assumption)
                have q463 : x11_2 < (t448.length : Int) := of_decide_eq_true (by first | (with_reducible assumption) | assumption)
                obtain ⟨ad463, e463, hx463_0⟩ := Kd.at_int (Kd.R_reads' HO_7.out).2.2 x11_2 p463 q463
                obtain rfl : ad458 = ad463 := (by injection e463)
                replace p463 := eq_true p463
                replace q463 := eq_true q463
                refine start_ (n := 45) (S := fun w' => w'.cell? (ad458.add (x11_2).toNat) = some (.int .i64 (rd t448 x11_2)) ∧ w'.cell? (ad458.add (x11_2).toNat) = some (.int .i64 (rd t448 x11_2)) ∧ w'.cell? (ad458.add (x11_2).toNat) = some (.int .i64 (rd t448 x11_2)) ∧ w'.cell? (ad462.add (x11_2).toNat) = some (.int .i64 (rd t440 x11_2)) ∧ w'.cell? (ad458.add (x11_2).toNat) = some (.int .i64 (rd t448 x11_2))) (ds := []) (px_l 0 45) (by kernel_rfl) rfl rfl ⟨hx458_0, hx460_0, hx461_0, hx462_0, hx463_0⟩ (fun hHeld => ?_); refine with_tabW laws_FnCollectUpTo.tab13 laws_FnCollectUpTo.bits13 (fun HT_ HW_ => ?_)
                generalize wr.drew = w35 at HO_5 HO_7 HO_10 HB hx458_0 hx460_0 hx461_0 hx462_0 hx463_0 hHeld ⊢
                refine pure_ (i := 0) (N := some 52) (v := ?_) (a' := ?_) (px_l 1 44) rfl rfl (any_of HT_.out (by kernel_rfl)) (fun _ _ _ h => h) (Or.inl ⟨by rfl, ?_⟩) ?_ ?_
                rotate_left
                ·intro w'
                 go_simp
                 with_reducible rfl
                rotate_left
                ·simp only [Act.put, px_a, px_b, px_c, i64_w, i32_w, px_w256]
                 rfl
                refine pure_ (i := 1) (N := some 53) (v := ?_) (a' := ?_) (px_l 2 43) rfl rfl (any_of HT_.out (by kernel_rfl)) (fun _ _ _ h => h) (Or.inl ⟨by rfl, ?_⟩) ?_ ?_
                rotate_left
                ·intro w'
                 go_simp
                 with_reducible rfl
                rotate_left
                ·simp only [Act.put, px_a, px_b, px_c, i64_w, i32_w, px_w256]
                 rfl
                refine pure_ (i := 2) (N := some 54) (v := ?_) (a' := ?_) (px_l 3 42) rfl rfl (any_of HT_.out (by kernel_rfl)) (fun _ _ _ h => h) (Or.inl ⟨by rfl, ?_⟩) ?_ ?_
                rotate_left
                ·intro w'
                 go_simp
                 with_reducible rfl
                rotate_left
                ·simp only [Act.put, px_a, px_b, px_c, i64_w, i32_w, px_w256]
                 rfl
                refine take_ (i := 3) (N := some 55) (v := ?_) (a' := ?_) (px_l 4 41) rfl rfl (take_ofW HT_.out HW_.out (by kernel_rfl)) (fun _ _ _ h => h) (Or.inl ⟨by rfl, ?_⟩) hHeld ?_ ?_
                rotate_left
                ·rintro w' ⟨s0, s1, s2, s3, s4⟩
                 go_simp
                 with_reducible rfl
                rotate_left
                ·simp only [Act.put, px_a, px_b, px_c, i64_w, i32_w, px_w256]
                 rfl
                refine pure_ (i := 4) (N := some 56) (v := ?_) (a' := ?_) (px_l 5 40) rfl rfl (any_of HT_.out (by kernel_rfl)) (fun _ _ _ h => h) (Or.inl ⟨by rfl, ?_⟩) ?_ ?_
                rotate_left
                ·intro w'
                 go_simp
                 with_reducible rfl
                rotate_left
                ·simp only [Act.put, px_a, px_b, px_c, i64_w, i32_w, px_w256]
                 rfl
                refine pure_ (i := 5) (N := some 57) (v := ?_) (a' := ?_) (px_l 6 39) rfl rfl (any_of HT_.out (by kernel_rfl)) (fun _ _ _ h => h) (Or.inl ⟨by rfl, ?_⟩) ?_ ?_
                rotate_left
                ·intro w'
                 go_simp
                 with_reducible rfl
                rotate_left
                ·simp only [Act.put, px_a, px_b, px_c, i64_w, i32_w, px_w256]
                 rfl
                refine pure_ (i := 6) (N := some 58) (v := ?_) (a' := ?_) (px_l 7 38) rfl rfl (any_of HT_.out (by kernel_rfl)) (fun _ _ _ h => h) (Or.inl ⟨by rfl, ?_⟩) ?_ ?_
                rotate_left
                ·intro w'
                 go_simp
                 with_reducible rfl
                rotate_left
                ·simp only [Act.put, px_a, px_b, px_c, i64_w, i32_w, px_w256]
                 rfl
                refine pure_ (i := 7) (N := some 59) (v := ?_) (a' := ?_) (px_l 8 37) rfl rfl (any_of HT_.out (by kernel_rfl)) (fun _ _ _ h => h) (Or.inl ⟨by rfl, ?_⟩) ?_ ?_
                rotate_left
                ·intro w'
                 go_simp
                 with_reducible rfl
                rotate_left
                ·simp only [Act.put, px_a, px_b, px_c, i64_w, i32_w, px_w256]
                 rfl
                refine one_ (i := 8) (N := some 60) (px_l 9 36) rfl rfl (one_of HT_.out (by kernel_rfl)) (by decide) (fun K hK => ?_)
                refine goes_ Try.func17 (by kernel_rfl) rfl #[.slice Ao36 t455.length co36, .int .i64 x11_2] (by rfl) rfl rfl (by (try simp only [List.map_toArray, List.map_cons, List.map_nil]); first | done | rfl | (simp only [List.length_drop, List.length_take]; rfl)) ?_
                with_reducible refine (spec_HasInt.calls k2 _ _ t455 x11_2 false _ ?side1 ?side2 A24.out).mono ?_
                (case side1 => repeat (first | exact (Kd.R_reads' HO_10.out).2.2 | (with_reducible refine Kd.C_alloc ?_ _) | (with_reducible refine Kd.C_drewN ?_ _) | (with_reducible refine Kd.C_drew ?_)))
                (case side2 => exact (Kd.R_reads' HO_10.out).2.1)
                rintro e w' ⟨rfl, ⟨nd, rfl⟩⟩
                refine ⟨_, rfl, ?_⟩
                refine hK.out _ _ ⟨hHeld.1, hHeld.2.1, hHeld.2.2.1, hHeld.2.2.2.1, hHeld.2.2.2.2⟩ (fun hHeld => ?_)
                clear hK K
                refine norm_ (a' := ?_) ?_ ?_
                rotate_left
                ·show Act.put _ (some 60) _ = _
                 simp only [Act.put, px_a, px_b, px_c, i64_w, i32_w, px_w256]
                 rfl
                refine pure_ (i := 9) (N := some 61) (v := ?_) (a' := ?_) (px_l 10 35) rfl rfl (any_of HT_.out (by kernel_rfl)) (fun _ _ _ h => h) (Or.inl ⟨by rfl, ?_⟩) ?_ ?_
                rotate_left
                ·intro w'
                 go_simp
                 with_reducible rfl
                rotate_left
                ·simp only [Act.put, px_a, px_b, px_c, i64_w, i32_w, px_w256]
                 rfl
                refine pure_ (i := 10) (N := some 62) (v := ?_) (a' := ?_) (px_l 11 34) rfl rfl (any_of HT_.out (by kernel_rfl)) (fun _ _ _ h => h) (Or.inl ⟨by rfl, ?_⟩) ?_ ?_
                rotate_left
                ·intro w'
                 go_simp
                 with_reducible rfl
                rotate_left
                ·simp only [Act.put, px_a, px_b, px_c, i64_w, i32_w, px_w256]
                 rfl
                refine pure_ (i := 11) (N := some 63) (v := ?_) (a' := ?_) (px_l 12 33) rfl rfl (any_of HT_.out (by kernel_rfl)) (fun _ _ _ h => h) (Or.inl ⟨by rfl, ?_⟩) ?_ ?_
                rotate_left
                ·intro w'
                 go_simp
                 with_reducible rfl
                rotate_left
                ·simp only [Act.put, px_a, px_b, px_c, i64_w, i32_w, px_w256]
                 rfl
                refine pure_ (i := 12) (N := some 64) (v := ?_) (a' := ?_) (px_l 13 32) rfl rfl (any_of HT_.out (by kernel_rfl)) (fun _ _ _ h => h) (Or.inl ⟨by rfl, ?_⟩) ?_ ?_
                rotate_left
                ·intro w'
                 go_simp
                 with_reducible rfl
                rotate_left
                ·simp only [Act.put, px_a, px_b, px_c, i64_w, i32_w, px_w256]
                 rfl
                refine pure_ (i := 13) (N := some 65) (v := ?_) (a' := ?_) (px_l 14 31) rfl rfl (any_of HT_.out (by kernel_rfl)) (fun _ _ _ h => h) (Or.inl ⟨by rfl, ?_⟩) ?_ ?_
                rotate_left
                ·intro w'
                 go_simp
                 with_reducible rfl
                rotate_left
                ·simp only [Act.put, px_a, px_b, px_c, i64_w, i32_w, px_w256]
                 rfl
                refine take_ (i := 14) (N := some 66) (v := ?_) (a' := ?_) (px_l 15 30) rfl rfl (take_ofW HT_.out HW_.out (by kernel_rfl)) (fun _ _ _ h => h) (Or.inl ⟨by rfl, ?_⟩) hHeld ?_ ?_
                rotate_left
                ·rintro w' ⟨s0, s1, s2, s3, s4⟩
                 go_simp
                 with_reducible rfl
                rotate_left
                ·simp only [Act.put, px_a, px_b, px_c, i64_w, i32_w, px_w256]
                 rfl
                refine pure_ (i := 15) (N := some 67) (v := ?_) (a' := ?_) (px_l 16 29) rfl rfl (any_of HT_.out (by kernel_rfl)) (fun _ _ _ h => h) (Or.inl ⟨by rfl, ?_⟩) ?_ ?_
                rotate_left
                ·intro w'
                 go_simp
                 with_reducible rfl
                rotate_left
                ·simp only [Act.put, px_a, px_b, px_c, i64_w, i32_w, px_w256]
                 rfl
                refine pure_ (i := 16) (N := some 68) (v := ?_) (a' := ?_) (px_l 17 28) rfl rfl (any_of HT_.out (by kernel_rfl)) (fun _ _ _ h => h) (Or.inl ⟨by rfl, ?_⟩) ?_ ?_
                rotate_left
                ·intro w'
                 go_simp
                 with_reducible rfl
                rotate_left
                ·simp only [Act.put, px_a, px_b, px_c, i64_w, i32_w, px_w256]
                 rfl
                refine pure_ (i := 17) (N := some 69) (v := ?_) (a' := ?_) (px_l 18 27) rfl rfl (any_of HT_.out (by kernel_rfl)) (fun _ _ _ h => h) (Or.inl ⟨by rfl, ?_⟩) ?_ ?_
                rotate_left
                ·intro w'
                 go_simp
                 with_reducible rfl
                rotate_left
                ·simp only [Act.put, px_a, px_b, px_c, i64_w, i32_w, px_w256]
                 rfl
                refine pure_ (i := 18) (N := some 70) (v := ?_) (a' := ?_) (px_l 19 26) rfl rfl (any_of HT_.out (by kernel_rfl)) (fun _ _ _ h => h) (Or.inl ⟨by rfl, ?_⟩) ?_ ?_
                rotate_left
                ·intro w'
                 go_simp
                 with_reducible rfl
                rotate_left
                ·simp only [Act.put, px_a, px_b, px_c, i64_w, i32_w, px_w256]
                 rfl
                refine pure_ (i := 19) (N := some 71) (v := ?_) (a' := ?_) (px_l 20 25) rfl rfl (any_of HT_.out (by kernel_rfl)) (fun _ _ _ h => h) (Or.inl ⟨by rfl, ?_⟩) ?_ ?_
                rotate_left
                ·intro w'
                 go_simp
                 with_reducible rfl
                rotate_left
                ·simp only [Act.put, px_a, px_b, px_c, i64_w, i32_w, px_w256]
                 rfl
                refine pure_ (i := 21) (N := some 73) (v := ?_) (a' := ?_) #[true, true, true, true, true, true, true, true, true, true, true, true, true, true, true, true, true, true, true, true, false, true, false, false, false, false, false, false, false, false, false, false, false, false, false, false, false, false, false, false, false, false, false, false, false] rfl rfl (any_of HT_.out (by kernel_rfl)) (fun _ _ _ h => h) (Or.inl ⟨by rfl, ?_⟩) ?_ ?_
                rotate_left
                ·intro w'
                 go_simp
                 with_reducible rfl
                rotate_left
                ·simp only [Act.put, px_a, px_b, px_c, i64_w, i32_w, px_w256]
                 rfl
                refine pure_ (i := 22) (N := some 74) (v := ?_) (a' := ?_) #[true, true, true, true, true, true, true, true, true, true, true, true, true, true, true, true, true, true, true, true, false, true, true, false, false, false, false, false, false, false, false, false, false, false, false, false, false, false, false, false, false, false, false, false, false] rfl rfl (any_of HT_.out (by kernel_rfl)) (fun _ _ _ h => h) (Or.inl ⟨by rfl, ?_⟩) ?_ ?_
                rotate_left
                ·intro w'
                 go_simp
                 with_reducible rfl
                rotate_left
                ·simp only [Act.put, px_a, px_b, px_c, i64_w, i32_w, px_w256]
                 rfl
                refine pure_ (i := 23) (N := some 75) (v := ?_) (a' := ?_) #[true, true, true, true, true, true, true, true, true, true, true, true, true, true, true, true, true, true, true, true, false, true, true, true, false, false, false, false, false, false, false, false, false, false, false, false, false, false, false, false, false, false, false, false, false] rfl rfl (any_of HT_.out (by kernel_rfl)) (fun _ _ _ h => h) (Or.inl ⟨by rfl, ?_⟩) ?_ ?_
                rotate_left
                ·intro w'
                 go_simp
                 with_reducible rfl
                rotate_left
                ·simp only [Act.put, px_a, px_b, px_c, i64_w, i32_w, px_w256]
                 rfl
                refine take_ (i := 20) (N := some 72) (v := ?_) (a' := ?_) (px_l 24 21) rfl rfl (take_ofW HT_.out HW_.out (by kernel_rfl)) (fun _ _ _ h => h) (Or.inl ⟨by rfl, ?_⟩) hHeld ?_ ?_
                rotate_left
                ·rintro w' ⟨s0, s1, s2, s3, s4⟩
                 go_simp
                 with_reducible rfl
                rotate_left
                ·simp only [Act.put, px_a, px_b, px_c, i64_w, i32_w, px_w256]
                 rfl
                refine take_ (i := 24) (N := some 76) (v := ?_) (a' := ?_) (px_l 25 20) rfl rfl (take_ofW HT_.out HW_.out (by kernel_rfl)) (fun _ _ _ h => h) (Or.inl ⟨by rfl, ?_⟩) hHeld ?_ ?_
                rotate_left
                ·rintro w' ⟨s0, s1, s2, s3, s4⟩
                 go_simp
                 with_reducible rfl
                rotate_left
                ·simp only [Act.put, px_a, px_b, px_c, i64_w, i32_w, px_w256]
                 rfl
                refine pure_ (i := 25) (N := some 77) (v := ?_) (a' := ?_) (px_l 26 19) rfl rfl (any_of HT_.out (by kernel_rfl)) (fun _ _ _ h => h) (Or.inl ⟨by rfl, ?_⟩) ?_ ?_
                rotate_left
                ·intro w'
                 go_simp
                 with_reducible rfl
                rotate_left
                ·simp only [Act.put, px_a, px_b, px_c, i64_w, i32_w, px_w256]
                 rfl
                refine pure_ (i := 26) (N := some 78) (v := ?_) (a' := ?_) (px_l 27 18) rfl rfl (any_of HT_.out (by kernel_rfl)) (fun _ _ _ h => h) (Or.inl ⟨by rfl, ?_⟩) ?_ ?_
                rotate_left
                ·intro w'
                 go_simp
                 with_reducible rfl
                rotate_left
                ·simp only [Act.put, px_a, px_b, px_c, i64_w, i32_w, px_w256]
                 rfl
                refine pure_ (i := 27) (N := some 79) (v := ?_) (a' := ?_) (px_l 28 17) rfl rfl (any_of HT_.out (by kernel_rfl)) (fun _ _ _ h => h) (Or.inl ⟨by rfl, ?_⟩) ?_ ?_
                rotate_left
                ·intro w'
                 go_simp
                 with_reducible rfl
                rotate_left
                ·simp only [Act.put, px_a, px_b, px_c, i64_w, i32_w, px_w256]
                 rfl
                refine pure_ (i := 28) (N := some 80) (v := ?_) (a' := ?_) (px_l 29 16) rfl rfl (any_of HT_.out (by kernel_rfl)) (fun _ _ _ h => h) (Or.inl ⟨by rfl, ?_⟩) ?_ ?_
                rotate_left
                ·intro w'
                 go_simp
                 with_reducible rfl
                rotate_left
                ·simp only [Act.put, px_a, px_b, px_c, i64_w, i32_w, px_w256]
                 rfl
                refine pure_ (i := 29) (N := some 81) (v := ?_) (a' := ?_) (px_l 30 15) rfl rfl (any_of HT_.out (by kernel_rfl)) (fun _ _ _ h => h) (Or.inl ⟨by rfl, ?_⟩) ?_ ?_
                rotate_left
                ·intro w'
                 go_simp
                 with_reducible rfl
                rotate_left
                ·simp only [Act.put, px_a, px_b, px_c, i64_w, i32_w, px_w256]
                 rfl
                refine pure_ (i := 30) (N := some 82) (v := ?_) (a' := ?_) (px_l 31 14) rfl rfl (any_of HT_.out (by kernel_rfl)) (fun _ _ _ h => h) (Or.inl ⟨by rfl, ?_⟩) ?_ ?_
                rotate_left
                ·intro w'
                 go_simp
                 with_reducible rfl
                rotate_left
                ·simp only [Act.put, px_a, px_b, px_c, i64_w, i32_w, px_w256]
                 rfl
                refine pure_ (i := 31) (N := some 83) (v := ?_) (a' := ?_) (px_l 32 13) rfl rfl (any_of HT_.out (by kernel_rfl)) (fun _ _ _ h => h) (Or.inl ⟨by rfl, ?_⟩) ?_ ?_
                rotate_left
                ·intro w'
                 go_simp
                 with_reducible rfl
                rotate_left
                ·simp only [Act.put, px_a, px_b, px_c, i64_w, i32_w, px_w256]
                 rfl
                refine pure_ (i := 32) (N := some 84) (v := ?_) (a' := ?_) (px_l 33 12) rfl rfl (any_of HT_.out (by kernel_rfl)) (fun _ _ _ h => h) (Or.inl ⟨by rfl, ?_⟩) ?_ ?_
                rotate_left
                ·intro w'
                 go_simp
                 with_reducible rfl
                rotate_left
                ·simp only [Act.put, px_a, px_b, px_c, i64_w, i32_w, px_w256]
                 rfl
                refine pure_ (i := 33) (N := some 85) (v := ?_) (a' := ?_) (px_l 34 11) rfl rfl (any_of HT_.out (by kernel_rfl)) (fun _ _ _ h => h) (Or.inl ⟨by rfl, ?_⟩) ?_ ?_
                rotate_left
                ·intro w'
                 go_simp
                 with_reducible rfl
                rotate_left
                ·simp only [Act.put, px_a, px_b, px_c, i64_w, i32_w, px_w256]
                 rfl
                refine pure_ (i := 34) (N := some 86) (v := ?_) (a' := ?_) (px_l 35 10) rfl rfl (any_of HT_.out (by kernel_rfl)) (fun _ _ _ h => h) (Or.inl ⟨by rfl, ?_⟩) ?_ ?_
                rotate_left
                ·intro w'
                 go_simp
                 with_reducible rfl
                rotate_left
                ·simp only [Act.put, px_a, px_b, px_c, i64_w, i32_w, px_w256]
                 rfl
                refine take_ (i := 35) (N := some 87) (v := ?_) (a' := ?_) (px_l 36 9) rfl rfl (take_ofW HT_.out HW_.out (by kernel_rfl)) (fun _ _ _ h => h) (Or.inl ⟨by rfl, ?_⟩) hHeld ?_ ?_
                rotate_left
                ·rintro w' ⟨s0, s1, s2, s3, s4⟩
                 go_simp
                 with_reducible rfl
                rotate_left
                ·simp only [Act.put, px_a, px_b, px_c, i64_w, i32_w, px_w256]
                 rfl
                refine pure_ (i := 36) (N := some 88) (v := ?_) (a' := ?_) (px_l 37 8) rfl rfl (any_of HT_.out (by kernel_rfl)) (fun _ _ _ h => h) (Or.inl ⟨by rfl, ?_⟩) ?_ ?_
                rotate_left
                ·intro w'
                 go_simp
                 with_reducible rfl
                rotate_left
                ·simp only [Act.put, px_a, px_b, px_c, i64_w, i32_w, px_w256]
                 rfl
                refine pure_ (i := 37) (N := some 89) (v := ?_) (a' := ?_) (px_l 38 7) rfl rfl (any_of HT_.out (by kernel_rfl)) (fun _ _ _ h => h) (Or.inl ⟨by rfl, ?_⟩) ?_ ?_
                rotate_left
                ·intro w'
                 go_simp
                 with_reducible rfl
                rotate_left
                ·simp only [Act.put, px_a, px_b, px_c, i64_w, i32_w, px_w256]
                 rfl
                refine pure_ (i := 38) (N := some 90) (v := ?_) (a' := ?_) (px_l 39 6) rfl rfl (any_of HT_.out (by kernel_rfl)) (fun _ _ _ h => h) (Or.inl ⟨by rfl, ?_⟩) ?_ ?_
                rotate_left
                ·intro w'
                 go_simp
                 with_reducible rfl
                rotate_left
                ·simp only [Act.put, px_a, px_b, px_c, i64_w, i32_w, px_w256]
                 rfl
                refine pure_ (i := 39) (N := some 91) (v := ?_) (a' := ?_) (px_l 40 5) rfl rfl (any_of HT_.out (by kernel_rfl)) (fun _ _ _ h => h) (Or.inl ⟨by rfl, ?_⟩) ?_ ?_
                rotate_left
                ·intro w'
                 go_simp
                 with_reducible rfl
                rotate_left
                ·simp only [Act.put, px_a, px_b, px_c, i64_w, i32_w, px_w256]
                 rfl
                refine pure_ (i := 40) (N := some 92) (v := ?_) (a' := ?_) (px_l 41 4) rfl rfl (any_of HT_.out (by kernel_rfl)) (fun _ _ _ h => h) (Or.inl ⟨by rfl, ?_⟩) ?_ ?_
                rotate_left
                ·intro w'
                 go_simp
                 with_reducible rfl
                rotate_left
                ·simp only [Act.put, px_a, px_b, px_c, i64_w, i32_w, px_w256]
                 rfl
                refine one_ (i := 41) (N := some 93) (px_l 42 3) rfl rfl (one_of HT_.out (by kernel_rfl)) (by decide) (fun K hK => ?_)
                refine goes_ Try.func17 (by kernel_rfl) rfl #[.slice Ao36 t455.length co36, .int .i64 x11_2] (by rfl) rfl rfl (by (try simp only [List.map_toArray, List.map_cons, List.map_nil]); first | done | rfl | (simp only [List.length_drop, List.length_take]; rfl)) ?_
                with_reducible refine (spec_HasInt.calls k2 _ _ t455 x11_2 t464 _ ?side1 ?side2 A34.out).mono ?_
                (case side1 => repeat (first | exact (Kd.R_reads' HO_10.out).2.2 | (with_reducible refine Kd.C_alloc ?_ _) | (with_reducible refine Kd.C_drewN ?_ _) | (with_reducible refine Kd.C_drew ?_)))
                (case side2 => exact (Kd.R_reads' HO_10.out).2.1)
                rintro e w' ⟨rfl, ⟨nd, rfl⟩⟩
                refine ⟨_, rfl, ?_⟩
                refine hK.out _ _ ⟨hHeld.1, hHeld.2.1, hHeld.2.2.1, hHeld.2.2.2.1, hHeld.2.2.2.2⟩ (fun hHeld => ?_)
                clear hK K
                refine norm_ (a' := ?_) ?_ ?_
                rotate_left
                ·show Act.put _ (some 93) _ = _
                 simp only [Act.put, px_a, px_b, px_c, i64_w, i32_w, px_w256]
                 rfl
                refine pure_ (i := 42) (N := some 94) (v := ?_) (a' := ?_) (px_l 43 2) rfl rfl (any_of HT_.out (by kernel_rfl)) (fun _ _ _ h => h) (Or.inl ⟨by rfl, ?_⟩) ?_ ?_
                rotate_left
                ·intro w'
                 go_simp
                 with_reducible rfl
                rotate_left
                ·simp only [Act.put, px_a, px_b, px_c, i64_w, i32_w, px_w256]
                 rfl
                refine pure_ (i := 43) (N := some 95) (v := ?_) (a' := ?_) (px_l 44 1) rfl rfl (any_of HT_.out (by kernel_rfl)) (fun _ _ _ h => h) (Or.inl ⟨by rfl, ?_⟩) ?_ ?_
                rotate_left
                ·intro w'
                 go_simp
                 with_reducible rfl
                rotate_left
                ·simp only [Act.put, px_a, px_b, px_c, i64_w, i32_w, px_w256]
                 rfl
                refine pure_ (i := 44) (N := some 96) (v := ?_) (a' := ?_) (px_l 45 0) rfl rfl (any_of HT_.out (by kernel_rfl)) (fun _ _ _ h => h) (Or.inl ⟨by rfl, ?_⟩) ?_ ?_
                rotate_left
                ·intro w'
                 go_simp
                 with_reducible rfl
                rotate_left
                ·simp only [Act.put, px_a, px_b, px_c, i64_w, i32_w, px_w256]
                 rfl
                refine done_ (done_of HT_.out (by kernel_rfl)) ?_
                try go_wp2
                go_meet
                case rel => exact ⟨_, (!t464), (by first | rfl | (simp; done) | (simp [*]; done)), H', ⟨by have := HJ6.out; have := HK2.out; first | omega | exact Nat.le_refl _⟩, ⟨by (with_reducible repeat (first | apply Kd.R_alloc | apply Kd.R_drewN | apply Kd.R_drew)); exact HO_5.out⟩, ⟨by (with_reducible repeat (first | apply Kd.R_alloc | apply Kd.R_drewN | apply Kd.R_drew)); exact HO_7.out⟩, ⟨by (with_reducible repeat (first | apply Kd.R_alloc | apply Kd.R_drewN | apply Kd.R_drew)); exact HO_10.out⟩, ⟨by repeat (first | (with_reducible first | exact HB.out | apply below_alloc | apply pw_below_drewN | apply below_drew1) | exact HB.out)⟩⟩
               ·rw [if_neg c33] at H
                have c33b0 : (t441 == 2) = false := beq_eq_false_iff_ne.mpr c33
                have c33b1 : (t441 != 2) = true := bne_iff_ne.mpr c33
                have H' := Aside0.mk H
                clear H
                try go_wp2
                have n0_ := Aside0.mk (Kd.R_drew HO_5.out)
                have n1_ := Aside0.mk (Kd.R_drew HO_7.out)
                have n2_ := Aside0.mk (Kd.R_drew HO_10.out)
                have n3_ := Aside0.mk (below_drew1 HB.out)
                clear HO_5
                clear HO_7
                clear HO_10
                clear HB
                have HO_5 := n0_
                have HO_7 := n1_
                have HO_10 := n2_
                have HB := n3_
                clear n0_ n1_ n2_ n3_
                have p458 : 0 ≤ (x11_2 : Int) := of_decide_eq_true (by first | (with_reducible assumption) | assumption)
                have q458 : x11_2 < (t448.length : Int) := of_decide_eq_true (by first | (with_reducible assumption) | assumption)
                obtain ⟨ad458, e458, hx458_0⟩ := Kd.at_int (Kd.R_reads' HO_7.out).2.2 x11_2 p458 q458
                cases e458
                replace p458 := eq_true p458
                replace q458 := eq_true q458
                obtain ⟨Ao38, co38, eo38⟩ := Kd.R_slice HO_10.out
                (first | subst eo38 | (injection eo38 with f1_ f2_ f3_; have f4_ := f1_.symm; have f5_ := f3_.symm; clear f1_ f2_ f3_; subst f4_; subst f5_))
                have p460 : 0 ≤ (x11_2 : Int) := of_decide_eq_true (by first | (with_reducible assumption) | assumption)
                have q460 : x11_2 < (t448.length : Int) := of_decide_eq_true (by first | (with_reducible assumption) | assumption)
                obtain ⟨ad460, e460, hx460_0⟩ := Kd.at_int (Kd.R_reads' HO_7.out).2.2 x11_2 p460 q460
                obtain rfl : ad458 = ad460 := (by injection e460)
                replace p460 := eq_true p460
                replace q460 := eq_true q460
                have p461 : 0 ≤ (x11_2 : Int) := of_decide_eq_true (by first | (with_reducible assumption) | assumption)
                have q461 : x11_2 < (t448.length : Int) := of_decide_eq_true (by first | (with_reducible assumption) | assumption)
                obtain ⟨ad461, e461, hx461_0⟩ := Kd.at_int (Kd.R_reads' HO_7.out).2.2 x11_2 p461 q461
                obtain rfl : ad458 = ad461 := (by injection e461)
                replace p461 := eq_true p461
                replace q461 := eq_true q461
                have p462 : 0 ≤ (x11_2 : Int) := of_decide_eq_true (by first | (with_reducible assumption) | assumption)
                have q462 : x11_2 < (t440.length : Int) := of_decide_eq_true (by first | (with_reducible assumption) | assumption)
                obtain ⟨ad462, e462, hx462_0⟩ := Kd.at_int (Kd.R_reads' HO_5.out).2.2 x11_2 p462 q462
                cases e462
                replace p462 := eq_true p462
                replace q462 := eq_true q462
                refine start_ (n := 45) (S := fun w' => w'.cell? (ad458.add (x11_2).toNat) = some (.int .i64 (rd t448 x11_2)) ∧ w'.cell? (ad458.add (x11_2).toNat) = some (.int .i64 (rd t448 x11_2)) ∧ w'.cell? (ad458.add (x11_2).toNat) = some (.int .i64 (rd t448 x11_2)) ∧ w'.cell? (ad462.add (x11_2).toNat) = some (.int .i64 (rd t440 x11_2))) (ds := []) (px_l 0 45) (by kernel_rfl) rfl rfl ⟨hx458_0, hx460_0, hx461_0, hx462_0⟩ (fun hHeld => ?_); refine with_tabW laws_FnCollectUpTo.tab13 laws_FnCollectUpTo.bits13 (fun HT_ HW_ => ?_)
                generalize wr.drew = w37 at HO_5 HO_7 HO_10 HB hx458_0 hx460_0 hx461_0 hx462_0 hHeld ⊢
                refine pure_ (i := 0) (N := some 52) (v := ?_) (a' := ?_) (px_l 1 44) rfl rfl (any_of HT_.out (by kernel_rfl)) (fun _ _ _ h => h) (Or.inl ⟨by rfl, ?_⟩) ?_ ?_
                rotate_left
                ·intro w'
                 go_simp
                 with_reducible rfl
                rotate_left
                ·simp only [Act.put, px_a, px_b, px_c, i64_w, i32_w, px_w256]
                 rfl
                refine pure_ (i := 1) (N := some 53) (v := ?_) (a' := ?_) (px_l 2 43) rfl rfl (any_of HT_.out (by kernel_rfl)) (fun _ _ _ h => h) (Or.inl ⟨by rfl, ?_⟩) ?_ ?_
                rotate_left
                ·intro w'
                 go_simp
                 with_reducible rfl
                rotate_left
                ·simp only [Act.put, px_a, px_b, px_c, i64_w, i32_w, px_w256]
                 rfl
                refine pure_ (i := 2) (N := some 54) (v := ?_) (a' := ?_) (px_l 3 42) rfl rfl (any_of HT_.out (by kernel_rfl)) (fun _ _ _ h => h) (Or.inl ⟨by rfl, ?_⟩) ?_ ?_
                rotate_left
                ·intro w'
                 go_simp
                 with_reducible rfl
                rotate_left
                ·simp only [Act.put, px_a, px_b, px_c, i64_w, i32_w, px_w256]
                 rfl
                refine take_ (i := 3) (N := some 55) (v := ?_) (a' := ?_) (px_l 4 41) rfl rfl (take_ofW HT_.out HW_.out (by kernel_rfl)) (fun _ _ _ h => h) (Or.inl ⟨by rfl, ?_⟩) hHeld ?_ ?_
                rotate_left
                ·rintro w' ⟨s0, s1, s2, s3⟩
                 go_simp
                 with_reducible rfl
                rotate_left
                ·simp only [Act.put, px_a, px_b, px_c, i64_w, i32_w, px_w256]
                 rfl
                refine pure_ (i := 4) (N := some 56) (v := ?_) (a' := ?_) (px_l 5 40) rfl rfl (any_of HT_.out (by kernel_rfl)) (fun _ _ _ h => h) (Or.inl ⟨by rfl, ?_⟩) ?_ ?_
                rotate_left
                ·intro w'
                 go_simp
                 with_reducible rfl
                rotate_left
                ·simp only [Act.put, px_a, px_b, px_c, i64_w, i32_w, px_w256]
                 rfl
                refine pure_ (i := 5) (N := some 57) (v := ?_) (a' := ?_) (px_l 6 39) rfl rfl (any_of HT_.out (by kernel_rfl)) (fun _ _ _ h => h) (Or.inl ⟨by rfl, ?_⟩) ?_ ?_
                rotate_left
                ·intro w'
                 go_simp
                 with_reducible rfl
                rotate_left
                ·simp only [Act.put, px_a, px_b, px_c, i64_w, i32_w, px_w256]
                 rfl
                refine pure_ (i := 6) (N := some 58) (v := ?_) (a' := ?_) (px_l 7 38) rfl rfl (any_of HT_.out (by kernel_rfl)) (fun _ _ _ h => h) (Or.inl ⟨by rfl, ?_⟩) ?_ ?_
                rotate_left
                ·intro w'
                 go_simp
                 with_reducible rfl
                rotate_left
                ·simp only [Act.put, px_a, px_b, px_c, i64_w, i32_w, px_w256]
                 rfl
                refine pure_ (i := 7) (N := some 59) (v := ?_) (a' := ?_) (px_l 8 37) rfl rfl (any_of HT_.out (by kernel_rfl)) (fun _ _ _ h => h) (Or.inl ⟨by rfl, ?_⟩) ?_ ?_
                rotate_left
                ·intro w'
                 go_simp
                 with_reducible rfl
                rotate_left
                ·simp only [Act.put, px_a, px_b, px_c, i64_w, i32_w, px_w256]
                 rfl
                refine one_ (i := 8) (N := some 60) (px_l 9 36) rfl rfl (one_of HT_.out (by kernel_rfl)) (by decide) (fun K hK => ?_)
                refine goes_ Try.func17 (by kernel_rfl) rfl #[.slice Ao38 t455.length co38, .int .i64 x11_2] (by rfl) rfl rfl (by (try simp only [List.map_toArray, List.map_cons, List.map_nil]); first | done | rfl | (simp only [List.length_drop, List.length_take]; rfl)) ?_
                with_reducible refine (spec_HasInt.calls k2 _ _ t455 x11_2 false _ ?side1 ?side2 A24.out).mono ?_
                (case side1 => repeat (first | exact (Kd.R_reads' HO_10.out).2.2 | (with_reducible refine Kd.C_alloc ?_ _) | (with_reducible refine Kd.C_drewN ?_ _) | (with_reducible refine Kd.C_drew ?_)))
                (case side2 => exact (Kd.R_reads' HO_10.out).2.1)
                rintro e w' ⟨rfl, ⟨nd, rfl⟩⟩
                refine ⟨_, rfl, ?_⟩
                refine hK.out _ _ ⟨hHeld.1, hHeld.2.1, hHeld.2.2.1, hHeld.2.2.2⟩ (fun hHeld => ?_)
                clear hK K
                refine norm_ (a' := ?_) ?_ ?_
                rotate_left
                ·show Act.put _ (some 60) _ = _
                 simp only [Act.put, px_a, px_b, px_c, i64_w, i32_w, px_w256]
                 rfl
                refine pure_ (i := 9) (N := some 61) (v := ?_) (a' := ?_) (px_l 10 35) rfl rfl (any_of HT_.out (by kernel_rfl)) (fun _ _ _ h => h) (Or.inl ⟨by rfl, ?_⟩) ?_ ?_
                rotate_left
                ·intro w'
                 go_simp
                 with_reducible rfl
                rotate_left
                ·simp only [Act.put, px_a, px_b, px_c, i64_w, i32_w, px_w256]
                 rfl
                refine pure_ (i := 10) (N := some 62) (v := ?_) (a' := ?_) (px_l 11 34) rfl rfl (any_of HT_.out (by kernel_rfl)) (fun _ _ _ h => h) (Or.inl ⟨by rfl, ?_⟩) ?_ ?_
                rotate_left
                ·intro w'
                 go_simp
                 with_reducible rfl
                rotate_left
                ·simp only [Act.put, px_a, px_b, px_c, i64_w, i32_w, px_w256]
                 rfl
                refine pure_ (i := 11) (N := some 63) (v := ?_) (a' := ?_) (px_l 12 33) rfl rfl (any_of HT_.out (by kernel_rfl)) (fun _ _ _ h => h) (Or.inl ⟨by rfl, ?_⟩) ?_ ?_
                rotate_left
                ·intro w'
                 go_simp
                 with_reducible rfl
                rotate_left
                ·simp only [Act.put, px_a, px_b, px_c, i64_w, i32_w, px_w256]
                 rfl
                refine pure_ (i := 12) (N := some 64) (v := ?_) (a' := ?_) (px_l 13 32) rfl rfl (any_of HT_.out (by kernel_rfl)) (fun _ _ _ h => h) (Or.inl ⟨by rfl, ?_⟩) ?_ ?_
                rotate_left
                ·intro w'
                 go_simp
                 with_reducible rfl
                rotate_left
                ·simp only [Act.put, px_a, px_b, px_c, i64_w, i32_w, px_w256]
                 rfl
                refine pure_ (i := 13) (N := some 65) (v := ?_) (a' := ?_) (px_l 14 31) rfl rfl (any_of HT_.out (by kernel_rfl)) (fun _ _ _ h => h) (Or.inl ⟨by rfl, ?_⟩) ?_ ?_
                rotate_left
                ·intro w'
                 go_simp
                 with_reducible rfl
                rotate_left
                ·simp only [Act.put, px_a, px_b, px_c, i64_w, i32_w, px_w256]
                 rfl
                refine take_ (i := 14) (N := some 66) (v := ?_) (a' := ?_) (px_l 15 30) rfl rfl (take_ofW HT_.out HW_.out (by kernel_rfl)) (fun _ _ _ h => h) (Or.inl ⟨by rfl, ?_⟩) hHeld ?_ ?_
                rotate_left
                ·rintro w' ⟨s0, s1, s2, s3⟩
                 go_simp
                 with_reducible rfl
                rotate_left
                ·simp only [Act.put, px_a, px_b, px_c, i64_w, i32_w, px_w256]
                 rfl
                refine pure_ (i := 15) (N := some 67) (v := ?_) (a' := ?_) (px_l 16 29) rfl rfl (any_of HT_.out (by kernel_rfl)) (fun _ _ _ h => h) (Or.inl ⟨by rfl, ?_⟩) ?_ ?_
                rotate_left
                ·intro w'
                 go_simp
                 with_reducible rfl
                rotate_left
                ·simp only [Act.put, px_a, px_b, px_c, i64_w, i32_w, px_w256]
                 rfl
                refine pure_ (i := 16) (N := some 68) (v := ?_) (a' := ?_) (px_l 17 28) rfl rfl (any_of HT_.out (by kernel_rfl)) (fun _ _ _ h => h) (Or.inl ⟨by rfl, ?_⟩) ?_ ?_
                rotate_left
                ·intro w'
                 go_simp
                 with_reducible rfl
                rotate_left
                ·simp only [Act.put, px_a, px_b, px_c, i64_w, i32_w, px_w256]
                 rfl
                refine pure_ (i := 17) (N := some 69) (v := ?_) (a' := ?_) (px_l 18 27) rfl rfl (any_of HT_.out (by kernel_rfl)) (fun _ _ _ h => h) (Or.inl ⟨by rfl, ?_⟩) ?_ ?_
                rotate_left
                ·intro w'
                 go_simp
                 with_reducible rfl
                rotate_left
                ·simp only [Act.put, px_a, px_b, px_c, i64_w, i32_w, px_w256]
                 rfl
                refine pure_ (i := 18) (N := some 70) (v := ?_) (a' := ?_) (px_l 19 26) rfl rfl (any_of HT_.out (by kernel_rfl)) (fun _ _ _ h => h) (Or.inl ⟨by rfl, ?_⟩) ?_ ?_
                rotate_left
                ·intro w'
                 go_simp
                 with_reducible rfl
                rotate_left
                ·simp only [Act.put, px_a, px_b, px_c, i64_w, i32_w, px_w256]
                 rfl
                refine pure_ (i := 19) (N := some 71) (v := ?_) (a' := ?_) (px_l 20 25) rfl rfl (any_of HT_.out (by kernel_rfl)) (fun _ _ _ h => h) (Or.inl ⟨by rfl, ?_⟩) ?_ ?_
                rotate_left
                ·intro w'
                 go_simp
                 with_reducible rfl
                rotate_left
                ·simp only [Act.put, px_a, px_b, px_c, i64_w, i32_w, px_w256]
                 rfl
                refine pure_ (i := 21) (N := some 73) (v := ?_) (a' := ?_) #[true, true, true, true, true, true, true, true, true, true, true, true, true, true, true, true, true, true, true, true, false, true, false, false, false, false, false, false, false, false, false, false, false, false, false, false, false, false, false, false, false, false, false, false, false] rfl rfl (any_of HT_.out (by kernel_rfl)) (fun _ _ _ h => h) (Or.inl ⟨by rfl, ?_⟩) ?_ ?_
                rotate_left
                ·intro w'
                 go_simp
                 with_reducible rfl
                rotate_left
                ·simp only [Act.put, px_a, px_b, px_c, i64_w, i32_w, px_w256]
                 rfl
                refine pure_ (i := 22) (N := some 74) (v := ?_) (a' := ?_) #[true, true, true, true, true, true, true, true, true, true, true, true, true, true, true, true, true, true, true, true, false, true, true, false, false, false, false, false, false, false, false, false, false, false, false, false, false, false, false, false, false, false, false, false, false] rfl rfl (any_of HT_.out (by kernel_rfl)) (fun _ _ _ h => h) (Or.inl ⟨by rfl, ?_⟩) ?_ ?_
                rotate_left
                ·intro w'
                 go_simp
                 with_reducible rfl
                rotate_left
                ·simp only [Act.put, px_a, px_b, px_c, i64_w, i32_w, px_w256]
                 rfl
                refine pure_ (i := 23) (N := some 75) (v := ?_) (a' := ?_) #[true, true, true, true, true, true, true, true, true, true, true, true, true, true, true, true, true, true, true, true, false, true, true, true, false, false, false, false, false, false, false, false, false, false, false, false, false, false, false, false, false, false, false, false, false] rfl rfl (any_of HT_.out (by kernel_rfl)) (fun _ _ _ h => h) (Or.inl ⟨by rfl, ?_⟩) ?_ ?_
                rotate_left
                ·intro w'
                 go_simp
                 with_reducible rfl
                rotate_left
                ·simp only [Act.put, px_a, px_b, px_c, i64_w, i32_w, px_w256]
                 rfl
                refine take_ (i := 20) (N := some 72) (v := ?_) (a' := ?_) (px_l 24 21) rfl rfl (take_ofW HT_.out HW_.out (by kernel_rfl)) (fun _ _ _ h => h) (Or.inl ⟨by rfl, ?_⟩) hHeld ?_ ?_
                rotate_left
                ·rintro w' ⟨s0, s1, s2, s3⟩
                 go_simp
                 with_reducible rfl
                rotate_left
                ·simp only [Act.put, px_a, px_b, px_c, i64_w, i32_w, px_w256]
                 rfl
                refine take_ (i := 24) (N := some 76) (v := ?_) (a' := ?_) (px_l 25 20) rfl rfl (take_ofW HT_.out HW_.out (by kernel_rfl)) (fun _ _ _ h => h) (Or.inl ⟨by rfl, ?_⟩) hHeld ?_ ?_
                rotate_left
                ·rintro w' ⟨s0, s1, s2, s3⟩
                 go_simp
                 with_reducible rfl
                rotate_left
                ·simp only [Act.put, px_a, px_b, px_c, i64_w, i32_w, px_w256]
                 rfl
                refine pure_ (i := 25) (N := some 77) (v := ?_) (a' := ?_) (px_l 26 19) rfl rfl (any_of HT_.out (by kernel_rfl)) (fun _ _ _ h => h) (Or.inl ⟨by rfl, ?_⟩) ?_ ?_
                rotate_left
                ·intro w'
                 go_simp
                 with_reducible rfl
                rotate_left
                ·simp only [Act.put, px_a, px_b, px_c, i64_w, i32_w, px_w256]
                 rfl
                refine pure_ (i := 26) (N := some 78) (v := ?_) (a' := ?_) (px_l 27 18) rfl rfl (any_of HT_.out (by kernel_rfl)) (fun _ _ _ h => h) (Or.inl ⟨by rfl, ?_⟩) ?_ ?_
                rotate_left
                ·intro w'
                 go_simp
                 with_reducible rfl
                rotate_left
                ·simp only [Act.put, px_a, px_b, px_c, i64_w, i32_w, px_w256]
                 rfl
                refine pure_ (i := 27) (N := some 79) (v := ?_) (a' := ?_) (px_l 28 17) rfl rfl (any_of HT_.out (by kernel_rfl)) (fun _ _ _ h => h) (Or.inl ⟨by rfl, ?_⟩) ?_ ?_
                rotate_left
                ·intro w'
                 go_simp
                 with_reducible rfl
                rotate_left
                ·simp only [Act.put, px_a, px_b, px_c, i64_w, i32_w, px_w256]
                 rfl
                refine pure_ (i := 28) (N := some 80) (v := ?_) (a' := ?_) (px_l 29 16) rfl rfl (any_of HT_.out (by kernel_rfl)) (fun _ _ _ h => h) (Or.inl ⟨by rfl, ?_⟩) ?_ ?_
                rotate_left
                ·intro w'
                 go_simp
                 with_reducible rfl
                rotate_left
                ·simp only [Act.put, px_a, px_b, px_c, i64_w, i32_w, px_w256]
                 rfl
                refine pure_ (i := 29) (N := some 81) (v := ?_) (a' := ?_) (px_l 30 15) rfl rfl (any_of HT_.out (by kernel_rfl)) (fun _ _ _ h => h) (Or.inl ⟨by rfl, ?_⟩) ?_ ?_
                rotate_left
                ·intro w'
                 go_simp
                 with_reducible rfl
                rotate_left
                ·simp only [Act.put, px_a, px_b, px_c, i64_w, i32_w, px_w256]
                 rfl
                refine pure_ (i := 30) (N := some 82) (v := ?_) (a' := ?_) (px_l 31 14) rfl rfl (any_of HT_.out (by kernel_rfl)) (fun _ _ _ h => h) (Or.inl ⟨by rfl, ?_⟩) ?_ ?_
                rotate_left
                ·intro w'
                 go_simp
                 with_reducible rfl
                rotate_left
                ·simp only [Act.put, px_a, px_b, px_c, i64_w, i32_w, px_w256]
                 rfl
                refine pure_ (i := 31) (N := some 83) (v := ?_) (a' := ?_) (px_l 32 13) rfl rfl (any_of HT_.out (by kernel_rfl)) (fun _ _ _ h => h) (Or.inl ⟨by rfl, ?_⟩) ?_ ?_
                rotate_left
                ·intro w'
                 go_simp
                 with_reducible rfl
                rotate_left
                ·simp only [Act.put, px_a, px_b, px_c, i64_w, i32_w, px_w256]
                 rfl
                refine pure_ (i := 32) (N := some 84) (v := undef) (a' := ?_) (px_l 33 12) rfl rfl (any_of HT_.out (by kernel_rfl)) (fun _ _ _ h => h) (Or.inr ⟨by rfl, rfl⟩) ?_ ?_
                rotate_left
                ·simp only [Act.put, px_a, px_b, px_c, i64_w, i32_w, px_w256]
                 rfl
                refine pure_ (i := 33) (N := some 85) (v := undef) (a' := ?_) (px_l 34 11) rfl rfl (any_of HT_.out (by kernel_rfl)) (fun _ _ _ h => h) (Or.inr ⟨by rfl, rfl⟩) ?_ ?_
                rotate_left
                ·simp only [Act.put, px_a, px_b, px_c, i64_w, i32_w, px_w256]
                 rfl
                refine pure_ (i := 34) (N := some 86) (v := undef) (a' := ?_) (px_l 35 10) rfl rfl (any_of HT_.out (by kernel_rfl)) (fun _ _ _ h => h) (Or.inr ⟨by rfl, rfl⟩) ?_ ?_
                rotate_left
                ·simp only [Act.put, px_a, px_b, px_c, i64_w, i32_w, px_w256]
                 rfl
                refine pure_ (i := 35) (N := some 87) (v := undef) (a' := ?_) (px_l 36 9) rfl rfl (any_of HT_.out (by kernel_rfl)) (fun _ _ _ h => h) (Or.inr ⟨by rfl, rfl⟩) ?_ ?_
                rotate_left
                ·simp only [Act.put, px_a, px_b, px_c, i64_w, i32_w, px_w256]
                 rfl
                refine pure_ (i := 36) (N := some 88) (v := undef) (a' := ?_) (px_l 37 8) rfl rfl (any_of HT_.out (by kernel_rfl)) (fun _ _ _ h => h) (Or.inr ⟨by rfl, rfl⟩) ?_ ?_
                rotate_left
                ·simp only [Act.put, px_a, px_b, px_c, i64_w, i32_w, px_w256]
                 rfl
                refine pure_ (i := 37) (N := some 89) (v := ?_) (a' := ?_) (px_l 38 7) rfl rfl (any_of HT_.out (by kernel_rfl)) (fun _ _ _ h => h) (Or.inl ⟨by rfl, ?_⟩) ?_ ?_
                rotate_left
                ·intro w'
                 go_simp
                 with_reducible rfl
                rotate_left
                ·simp only [Act.put, px_a, px_b, px_c, i64_w, i32_w, px_w256]
                 rfl
                refine pure_ (i := 38) (N := some 90) (v := ?_) (a' := ?_) (px_l 39 6) rfl rfl (any_of HT_.out (by kernel_rfl)) (fun _ _ _ h => h) (Or.inl ⟨by rfl, ?_⟩) ?_ ?_
                rotate_left
                ·intro w'
                 go_simp
                 with_reducible rfl
                rotate_left
                ·simp only [Act.put, px_a, px_b, px_c, i64_w, i32_w, px_w256]
                 rfl
                refine pure_ (i := 39) (N := some 91) (v := undef) (a' := ?_) (px_l 40 5) rfl rfl (any_of HT_.out (by kernel_rfl)) (fun _ _ _ h => h) (Or.inr ⟨by rfl, rfl⟩) ?_ ?_
                rotate_left
                ·simp only [Act.put, px_a, px_b, px_c, i64_w, i32_w, px_w256]
                 rfl
                refine pure_ (i := 40) (N := some 92) (v := undef) (a' := ?_) (px_l 41 4) rfl rfl (any_of HT_.out (by kernel_rfl)) (fun _ _ _ h => h) (Or.inr ⟨by rfl, rfl⟩) ?_ ?_
                rotate_left
                ·simp only [Act.put, px_a, px_b, px_c, i64_w, i32_w, px_w256]
                 rfl
                refine pure_ (i := 41) (N := some 93) (v := undef) (a' := ?_) (px_l 42 3) rfl rfl (any_of HT_.out (by kernel_rfl)) (fun _ _ _ h => h) (Or.inr ⟨by rfl, rfl⟩) ?_ ?_
                rotate_left
                ·simp only [Act.put, px_a, px_b, px_c, i64_w, i32_w, px_w256]
                 rfl
                refine pure_ (i := 42) (N := some 94) (v := undef) (a' := ?_) (px_l 43 2) rfl rfl (any_of HT_.out (by kernel_rfl)) (fun _ _ _ h => h) (Or.inr ⟨by rfl, rfl⟩) ?_ ?_
                rotate_left
                ·simp only [Act.put, px_a, px_b, px_c, i64_w, i32_w, px_w256]
                 rfl
                refine pure_ (i := 43) (N := some 95) (v := ?_) (a' := ?_) (px_l 44 1) rfl rfl (any_of HT_.out (by kernel_rfl)) (fun _ _ _ h => h) (Or.inl ⟨by rfl, ?_⟩) ?_ ?_
                rotate_left
                ·intro w'
                 go_simp
                 with_reducible rfl
                rotate_left
                ·simp only [Act.put, px_a, px_b, px_c, i64_w, i32_w, px_w256]
                 rfl
                refine pure_ (i := 44) (N := some 96) (v := ?_) (a' := ?_) (px_l 45 0) rfl rfl (any_of HT_.out (by kernel_rfl)) (fun _ _ _ h => h) (Or.inl ⟨by rfl, ?_⟩) ?_ ?_
                rotate_left
                ·intro w'
                 go_simp
                 with_reducible rfl
                rotate_left
                ·simp only [Act.put, px_a, px_b, px_c, i64_w, i32_w, px_w256]
                 rfl
                refine done_ (done_of HT_.out (by kernel_rfl)) ?_
                try go_wp2
                go_meet
                case rel => exact ⟨_, (false), (by first | rfl | (simp; done) | (simp [*]; done)), H', ⟨by have := HJ6.out; have := HK2.out; first | omega | exact Nat.le_refl _⟩, ⟨by (with_reducible repeat (first | apply Kd.R_alloc | apply Kd.R_drewN | apply Kd.R_drew)); exact HO_5.out⟩, ⟨by (with_reducible repeat (first | apply Kd.R_alloc | apply Kd.R_drewN | apply Kd.R_drew)); exact HO_7.out⟩, ⟨by (with_reducible repeat (first | apply Kd.R_alloc | apply Kd.R_drewN | apply Kd.R_drew)); exact HO_10.out⟩, ⟨by repeat (first | (with_reducible first | exact HB.out | apply below_alloc | apply pw_below_drewN | apply below_drew1) | exact HB.out)⟩⟩
             ·rw [if_neg c29] at H
              exact absurd H (by simp)
            ·rw [if_neg c28] at H
             have c28b0 : decide (0 ≤ (rd t448 x11_2)) = false := decide_eq_false c28
             clear c28
             by_cases c39 : t441 = 2
             ·rw [if_pos c39] at H
              have c39b0 : (t441 == 2) = true := beq_iff_eq.mpr c39
              have c39b1 : (t441 != 2) = false := bne_eq_false_iff_eq.mpr c39
              clear c39
              have H' := Aside0.mk H
              clear H
              try go_wp2
              have n0_ := Aside0.mk (Kd.R_drew HO_5.out)
              have n1_ := Aside0.mk (Kd.R_drew HO_7.out)
              have n2_ := Aside0.mk (Kd.R_drew HO_10.out)
              have n3_ := Aside0.mk (below_drew1 HB.out)
              clear HO_5
              clear HO_7
              clear HO_10
              clear HB
              have HO_5 := n0_
              have HO_7 := n1_
              have HO_10 := n2_
              have HB := n3_
              clear n0_ n1_ n2_ n3_
              have p458 : 0 ≤ (x11_2 : Int) := of_decide_eq_true (by first | (with_reducible assumption) | assumption)
              have q458 : x11_2 < (t448.length : Int) := of_decide_eq_true (by first | (with_reducible assumption) | assumption)
              obtain ⟨ad458, e458, hx458_0⟩ := Kd.at_int (Kd.R_reads' HO_7.out).2.2 x11_2 p458 q458
              cases e458
              replace p458 := eq_true p458
              replace q458 := eq_true q458
              obtain ⟨Ao41, co41, eo41⟩ := Kd.R_slice HO_10.out
              (first | subst eo41 | (injection eo41 with f1_ f2_ f3_; have f4_ := f1_.symm; have f5_ := f3_.symm; clear f1_ f2_ f3_; subst f4_; subst f5_))
              have p460 : 0 ≤ (x11_2 : Int) := of_decide_eq_true (by first | (with_reducible assumption) | assumption)
              have q460 : x11_2 < (t448.length : Int) := of_decide_eq_true (by first | (with_reducible assumption) | assumption)
              obtain ⟨ad460, e460, hx460_0⟩ := Kd.at_int (Kd.R_reads' HO_7.out).2.2 x11_2 p460 q460
              obtain rfl : ad458 = ad460 := (by injection e460)
              replace p460 := eq_true p460
              replace q460 := eq_true q460
              have p465 : 0 ≤ (x11_2 : Int) := of_decide_eq_true (by first | (with_reducible assumption) | assumption)
              have q465 : x11_2 < (t448.length : Int) := of_decide_eq_true (by first | (with_reducible assumption) | assumption)
              obtain ⟨ad465, e465, hx465_0⟩ := Kd.at_int (Kd.R_reads' HO_7.out).2.2 x11_2 p465 q465
              obtain rfl : ad458 = ad465 := (by injection e465)
              replace p465 := eq_true p465
              replace q465 := eq_true q465
              refine start_ (n := 45) (S := fun w' => w'.cell? (ad458.add (x11_2).toNat) = some (.int .i64 (rd t448 x11_2)) ∧ w'.cell? (ad458.add (x11_2).toNat) = some (.int .i64 (rd t448 x11_2)) ∧ w'.cell? (ad458.add (x11_2).toNat) = some (.int .i64 (rd t448 x11_2))) (ds := []) (px_l 0 45) (by kernel_rfl) rfl rfl ⟨hx458_0, hx460_0, hx465_0⟩ (fun hHeld => ?_); refine with_tabW laws_FnCollectUpTo.tab13 laws_FnCollectUpTo.bits13 (fun HT_ HW_ => ?_)
              generalize wr.drew = w40 at HO_5 HO_7 HO_10 HB hx458_0 hx460_0 hx465_0 hHeld ⊢
              refine pure_ (i := 0) (N := some 52) (v := ?_) (a' := ?_) (px_l 1 44) rfl rfl (any_of HT_.out (by kernel_rfl)) (fun _ _ _ h => h) (Or.inl ⟨by rfl, ?_⟩) ?_ ?_
              rotate_left
              ·intro w'
               go_simp
               with_reducible rfl
              rotate_left
              ·simp only [Act.put, px_a, px_b, px_c, i64_w, i32_w, px_w256]
               rfl
              refine pure_ (i := 1) (N := some 53) (v := ?_) (a' := ?_) (px_l 2 43) rfl rfl (any_of HT_.out (by kernel_rfl)) (fun _ _ _ h => h) (Or.inl ⟨by rfl, ?_⟩) ?_ ?_
              rotate_left
              ·intro w'
               go_simp
               with_reducible rfl
              rotate_left
              ·simp only [Act.put, px_a, px_b, px_c, i64_w, i32_w, px_w256]
               rfl
              refine pure_ (i := 2) (N := some 54) (v := ?_) (a' := ?_) (px_l 3 42) rfl rfl (any_of HT_.out (by kernel_rfl)) (fun _ _ _ h => h) (Or.inl ⟨by rfl, ?_⟩) ?_ ?_
              rotate_left
              ·intro w'
               go_simp
               with_reducible rfl
              rotate_left
              ·simp only [Act.put, px_a, px_b, px_c, i64_w, i32_w, px_w256]
               rfl
              refine take_ (i := 3) (N := some 55) (v := ?_) (a' := ?_) (px_l 4 41) rfl rfl (take_ofW HT_.out HW_.out (by kernel_rfl)) (fun _ _ _ h => h) (Or.inl ⟨by rfl, ?_⟩) hHeld ?_ ?_
              rotate_left
              ·rintro w' ⟨s0, s1, s2⟩
               go_simp
               with_reducible rfl
              rotate_left
              ·simp only [Act.put, px_a, px_b, px_c, i64_w, i32_w, px_w256]
               rfl
              refine pure_ (i := 4) (N := some 56) (v := ?_) (a' := ?_) (px_l 5 40) rfl rfl (any_of HT_.out (by kernel_rfl)) (fun _ _ _ h => h) (Or.inl ⟨by rfl, ?_⟩) ?_ ?_
              rotate_left
              ·intro w'
               go_simp
               with_reducible rfl
              rotate_left
              ·simp only [Act.put, px_a, px_b, px_c, i64_w, i32_w, px_w256]
               rfl
              refine pure_ (i := 5) (N := some 57) (v := ?_) (a' := ?_) (px_l 6 39) rfl rfl (any_of HT_.out (by kernel_rfl)) (fun _ _ _ h => h) (Or.inl ⟨by rfl, ?_⟩) ?_ ?_
              rotate_left
              ·intro w'
               go_simp
               with_reducible rfl
              rotate_left
              ·simp only [Act.put, px_a, px_b, px_c, i64_w, i32_w, px_w256]
               rfl
              refine pure_ (i := 6) (N := some 58) (v := ?_) (a' := ?_) (px_l 7 38) rfl rfl (any_of HT_.out (by kernel_rfl)) (fun _ _ _ h => h) (Or.inl ⟨by rfl, ?_⟩) ?_ ?_
              rotate_left
              ·intro w'
               go_simp
               with_reducible rfl
              rotate_left
              ·simp only [Act.put, px_a, px_b, px_c, i64_w, i32_w, px_w256]
               rfl
              refine pure_ (i := 7) (N := some 59) (v := ?_) (a' := ?_) (px_l 8 37) rfl rfl (any_of HT_.out (by kernel_rfl)) (fun _ _ _ h => h) (Or.inl ⟨by rfl, ?_⟩) ?_ ?_
              rotate_left
              ·intro w'
               go_simp
               with_reducible rfl
              rotate_left
              ·simp only [Act.put, px_a, px_b, px_c, i64_w, i32_w, px_w256]
               rfl
              refine one_ (i := 8) (N := some 60) (px_l 9 36) rfl rfl (one_of HT_.out (by kernel_rfl)) (by decide) (fun K hK => ?_)
              refine goes_ Try.func17 (by kernel_rfl) rfl #[.slice Ao41 t455.length co41, .int .i64 x11_2] (by rfl) rfl rfl (by (try simp only [List.map_toArray, List.map_cons, List.map_nil]); first | done | rfl | (simp only [List.length_drop, List.length_take]; rfl)) ?_
              with_reducible refine (spec_HasInt.calls k2 _ _ t455 x11_2 false _ ?side1 ?side2 A24.out).mono ?_
              (case side1 => repeat (first | exact (Kd.R_reads' HO_10.out).2.2 | (with_reducible refine Kd.C_alloc ?_ _) | (with_reducible refine Kd.C_drewN ?_ _) | (with_reducible refine Kd.C_drew ?_)))
              (case side2 => exact (Kd.R_reads' HO_10.out).2.1)
              rintro e w' ⟨rfl, ⟨nd, rfl⟩⟩
              refine ⟨_, rfl, ?_⟩
              refine hK.out _ _ ⟨hHeld.1, hHeld.2.1, hHeld.2.2⟩ (fun hHeld => ?_)
              clear hK K
              refine norm_ (a' := ?_) ?_ ?_
              rotate_left
              ·show Act.put _ (some 60) _ = _
               simp only [Act.put, px_a, px_b, px_c, i64_w, i32_w, px_w256]
               rfl
              refine pure_ (i := 9) (N := some 61) (v := ?_) (a' := ?_) (px_l 10 35) rfl rfl (any_of HT_.out (by kernel_rfl)) (fun _ _ _ h => h) (Or.inl ⟨by rfl, ?_⟩) ?_ ?_
              rotate_left
              ·intro w'
               go_simp
               with_reducible rfl
              rotate_left
              ·simp only [Act.put, px_a, px_b, px_c, i64_w, i32_w, px_w256]
               rfl
              refine pure_ (i := 10) (N := some 62) (v := ?_) (a' := ?_) (px_l 11 34) rfl rfl (any_of HT_.out (by kernel_rfl)) (fun _ _ _ h => h) (Or.inl ⟨by rfl, ?_⟩) ?_ ?_
              rotate_left
              ·intro w'
               go_simp
               with_reducible rfl
              rotate_left
              ·simp only [Act.put, px_a, px_b, px_c, i64_w, i32_w, px_w256]
               rfl
              refine pure_ (i := 11) (N := some 63) (v := ?_) (a' := ?_) (px_l 12 33) rfl rfl (any_of HT_.out (by kernel_rfl)) (fun _ _ _ h => h) (Or.inl ⟨by rfl, ?_⟩) ?_ ?_
              rotate_left
              ·intro w'
               go_simp
               with_reducible rfl
              rotate_left
              ·simp only [Act.put, px_a, px_b, px_c, i64_w, i32_w, px_w256]
               rfl
              refine pure_ (i := 12) (N := some 64) (v := ?_) (a' := ?_) (px_l 13 32) rfl rfl (any_of HT_.out (by kernel_rfl)) (fun _ _ _ h => h) (Or.inl ⟨by rfl, ?_⟩) ?_ ?_
              rotate_left
              ·intro w'
               go_simp
               with_reducible rfl
              rotate_left
              ·simp only [Act.put, px_a, px_b, px_c, i64_w, i32_w, px_w256]
               rfl
              refine pure_ (i := 13) (N := some 65) (v := ?_) (a' := ?_) (px_l 14 31) rfl rfl (any_of HT_.out (by kernel_rfl)) (fun _ _ _ h => h) (Or.inl ⟨by rfl, ?_⟩) ?_ ?_
              rotate_left
              ·intro w'
               go_simp
               with_reducible rfl
              rotate_left
              ·simp only [Act.put, px_a, px_b, px_c, i64_w, i32_w, px_w256]
               rfl
              refine take_ (i := 14) (N := some 66) (v := ?_) (a' := ?_) (px_l 15 30) rfl rfl (take_ofW HT_.out HW_.out (by kernel_rfl)) (fun _ _ _ h => h) (Or.inl ⟨by rfl, ?_⟩) hHeld ?_ ?_
              rotate_left
              ·rintro w' ⟨s0, s1, s2⟩
               go_simp
               with_reducible rfl
              rotate_left
              ·simp only [Act.put, px_a, px_b, px_c, i64_w, i32_w, px_w256]
               rfl
              refine pure_ (i := 15) (N := some 67) (v := ?_) (a' := ?_) (px_l 16 29) rfl rfl (any_of HT_.out (by kernel_rfl)) (fun _ _ _ h => h) (Or.inl ⟨by rfl, ?_⟩) ?_ ?_
              rotate_left
              ·intro w'
               go_simp
               with_reducible rfl
              rotate_left
              ·simp only [Act.put, px_a, px_b, px_c, i64_w, i32_w, px_w256]
               rfl
              refine pure_ (i := 16) (N := some 68) (v := ?_) (a' := ?_) (px_l 17 28) rfl rfl (any_of HT_.out (by kernel_rfl)) (fun _ _ _ h => h) (Or.inl ⟨by rfl, ?_⟩) ?_ ?_
              rotate_left
              ·intro w'
               go_simp
               with_reducible rfl
              rotate_left
              ·simp only [Act.put, px_a, px_b, px_c, i64_w, i32_w, px_w256]
               rfl
              refine pure_ (i := 17) (N := some 69) (v := undef) (a' := ?_) (px_l 18 27) rfl rfl (any_of HT_.out (by kernel_rfl)) (fun _ _ _ h => h) (Or.inr ⟨by rfl, rfl⟩) ?_ ?_
              rotate_left
              ·simp only [Act.put, px_a, px_b, px_c, i64_w, i32_w, px_w256]
               rfl
              refine pure_ (i := 18) (N := some 70) (v := undef) (a' := ?_) (px_l 19 26) rfl rfl (any_of HT_.out (by kernel_rfl)) (fun _ _ _ h => h) (Or.inr ⟨by rfl, rfl⟩) ?_ ?_
              rotate_left
              ·simp only [Act.put, px_a, px_b, px_c, i64_w, i32_w, px_w256]
               rfl
              refine pure_ (i := 19) (N := some 71) (v := undef) (a' := ?_) (px_l 20 25) rfl rfl (any_of HT_.out (by kernel_rfl)) (fun _ _ _ h => h) (Or.inr ⟨by rfl, rfl⟩) ?_ ?_
              rotate_left
              ·simp only [Act.put, px_a, px_b, px_c, i64_w, i32_w, px_w256]
               rfl
              refine pure_ (i := 20) (N := some 72) (v := undef) (a' := ?_) (px_l 21 24) rfl rfl (any_of HT_.out (by kernel_rfl)) (fun _ _ _ h => h) (Or.inr ⟨by rfl, rfl⟩) ?_ ?_
              rotate_left
              ·simp only [Act.put, px_a, px_b, px_c, i64_w, i32_w, px_w256]
               rfl
              refine pure_ (i := 21) (N := some 73) (v := undef) (a' := ?_) (px_l 22 23) rfl rfl (any_of HT_.out (by kernel_rfl)) (fun _ _ _ h => h) (Or.inr ⟨by rfl, rfl⟩) ?_ ?_
              rotate_left
              ·simp only [Act.put, px_a, px_b, px_c, i64_w, i32_w, px_w256]
               rfl
              refine pure_ (i := 22) (N := some 74) (v := undef) (a' := ?_) (px_l 23 22) rfl rfl (any_of HT_.out (by kernel_rfl)) (fun _ _ _ h => h) (Or.inr ⟨by rfl, rfl⟩) ?_ ?_
              rotate_left
              ·simp only [Act.put, px_a, px_b, px_c, i64_w, i32_w, px_w256]
               rfl
              refine pure_ (i := 23) (N := some 75) (v := undef) (a' := ?_) (px_l 24 21) rfl rfl (any_of HT_.out (by kernel_rfl)) (fun _ _ _ h => h) (Or.inr ⟨by rfl, rfl⟩) ?_ ?_
              rotate_left
              ·simp only [Act.put, px_a, px_b, px_c, i64_w, i32_w, px_w256]
               rfl
              refine pure_ (i := 24) (N := some 76) (v := undef) (a' := ?_) (px_l 25 20) rfl rfl (any_of HT_.out (by kernel_rfl)) (fun _ _ _ h => h) (Or.inr ⟨by rfl, rfl⟩) ?_ ?_
              rotate_left
              ·simp only [Act.put, px_a, px_b, px_c, i64_w, i32_w, px_w256]
               rfl
              refine pure_ (i := 25) (N := some 77) (v := undef) (a' := ?_) (px_l 26 19) rfl rfl (any_of HT_.out (by kernel_rfl)) (fun _ _ _ h => h) (Or.inr ⟨by rfl, rfl⟩) ?_ ?_
              rotate_left
              ·simp only [Act.put, px_a, px_b, px_c, i64_w, i32_w, px_w256]
               rfl
              refine pure_ (i := 26) (N := some 78) (v := ?_) (a' := ?_) (px_l 27 18) rfl rfl (any_of HT_.out (by kernel_rfl)) (fun _ _ _ h => h) (Or.inl ⟨by rfl, ?_⟩) ?_ ?_
              rotate_left
              ·intro w'
               go_simp
               with_reducible rfl
              rotate_left
              ·simp only [Act.put, px_a, px_b, px_c, i64_w, i32_w, px_w256]
               rfl
              refine pure_ (i := 27) (N := some 79) (v := ?_) (a' := ?_) (px_l 28 17) rfl rfl (any_of HT_.out (by kernel_rfl)) (fun _ _ _ h => h) (Or.inl ⟨by rfl, ?_⟩) ?_ ?_
              rotate_left
              ·intro w'
               go_simp
               with_reducible rfl
              rotate_left
              ·simp only [Act.put, px_a, px_b, px_c, i64_w, i32_w, px_w256]
               rfl
              refine pure_ (i := 28) (N := some 80) (v := ?_) (a' := ?_) (px_l 29 16) rfl rfl (any_of HT_.out (by kernel_rfl)) (fun _ _ _ h => h) (Or.inl ⟨by rfl, ?_⟩) ?_ ?_
              rotate_left
              ·intro w'
               go_simp
               with_reducible rfl
              rotate_left
              ·simp only [Act.put, px_a, px_b, px_c, i64_w, i32_w, px_w256]
               rfl
              refine pure_ (i := 29) (N := some 81) (v := ?_) (a' := ?_) (px_l 30 15) rfl rfl (any_of HT_.out (by kernel_rfl)) (fun _ _ _ h => h) (Or.inl ⟨by rfl, ?_⟩) ?_ ?_
              rotate_left
              ·intro w'
               go_simp
               with_reducible rfl
              rotate_left
              ·simp only [Act.put, px_a, px_b, px_c, i64_w, i32_w, px_w256]
               rfl
              refine pure_ (i := 30) (N := some 82) (v := ?_) (a' := ?_) (px_l 31 14) rfl rfl (any_of HT_.out (by kernel_rfl)) (fun _ _ _ h => h) (Or.inl ⟨by rfl, ?_⟩) ?_ ?_
              rotate_left
              ·intro w'
               go_simp
               with_reducible rfl
              rotate_left
              ·simp only [Act.put, px_a, px_b, px_c, i64_w, i32_w, px_w256]
               rfl
              refine pure_ (i := 31) (N := some 83) (v := ?_) (a' := ?_) (px_l 32 13) rfl rfl (any_of HT_.out (by kernel_rfl)) (fun _ _ _ h => h) (Or.inl ⟨by rfl, ?_⟩) ?_ ?_
              rotate_left
              ·intro w'
               go_simp
               with_reducible rfl
              rotate_left
              ·simp only [Act.put, px_a, px_b, px_c, i64_w, i32_w, px_w256]
               rfl
              refine pure_ (i := 32) (N := some 84) (v := ?_) (a' := ?_) (px_l 33 12) rfl rfl (any_of HT_.out (by kernel_rfl)) (fun _ _ _ h => h) (Or.inl ⟨by rfl, ?_⟩) ?_ ?_
              rotate_left
              ·intro w'
               go_simp
               with_reducible rfl
              rotate_left
              ·simp only [Act.put, px_a, px_b, px_c, i64_w, i32_w, px_w256]
               rfl
              refine pure_ (i := 33) (N := some 85) (v := ?_) (a' := ?_) (px_l 34 11) rfl rfl (any_of HT_.out (by kernel_rfl)) (fun _ _ _ h => h) (Or.inl ⟨by rfl, ?_⟩) ?_ ?_
              rotate_left
              ·intro w'
               go_simp
               with_reducible rfl
              rotate_left
              ·simp only [Act.put, px_a, px_b, px_c, i64_w, i32_w, px_w256]
               rfl
              refine pure_ (i := 34) (N := some 86) (v := ?_) (a' := ?_) (px_l 35 10) rfl rfl (any_of HT_.out (by kernel_rfl)) (fun _ _ _ h => h) (Or.inl ⟨by rfl, ?_⟩) ?_ ?_
              rotate_left
              ·intro w'
               go_simp
               with_reducible rfl
              rotate_left
              ·simp only [Act.put, px_a, px_b, px_c, i64_w, i32_w, px_w256]
               rfl
              refine take_ (i := 35) (N := some 87) (v := ?_) (a' := ?_) (px_l 36 9) rfl rfl (take_ofW HT_.out HW_.out (by kernel_rfl)) (fun _ _ _ h => h) (Or.inl ⟨by rfl, ?_⟩) hHeld ?_ ?_
              rotate_left
              ·rintro w' ⟨s0, s1, s2⟩
               go_simp
               with_reducible rfl
              rotate_left
              ·simp only [Act.put, px_a, px_b, px_c, i64_w, i32_w, px_w256]
               rfl
              refine pure_ (i := 36) (N := some 88) (v := ?_) (a' := ?_) (px_l 37 8) rfl rfl (any_of HT_.out (by kernel_rfl)) (fun _ _ _ h => h) (Or.inl ⟨by rfl, ?_⟩) ?_ ?_
              rotate_left
              ·intro w'
               go_simp
               with_reducible rfl
              rotate_left
              ·simp only [Act.put, px_a, px_b, px_c, i64_w, i32_w, px_w256]
               rfl
              refine pure_ (i := 37) (N := some 89) (v := ?_) (a' := ?_) (px_l 38 7) rfl rfl (any_of HT_.out (by kernel_rfl)) (fun _ _ _ h => h) (Or.inl ⟨by rfl, ?_⟩) ?_ ?_
              rotate_left
              ·intro w'
               go_simp
               with_reducible rfl
              rotate_left
              ·simp only [Act.put, px_a, px_b, px_c, i64_w, i32_w, px_w256]
               rfl
              refine pure_ (i := 38) (N := some 90) (v := ?_) (a' := ?_) (px_l 39 6) rfl rfl (any_of HT_.out (by kernel_rfl)) (fun _ _ _ h => h) (Or.inl ⟨by rfl, ?_⟩) ?_ ?_
              rotate_left
              ·intro w'
               go_simp
               with_reducible rfl
              rotate_left
              ·simp only [Act.put, px_a, px_b, px_c, i64_w, i32_w, px_w256]
               rfl
              refine pure_ (i := 39) (N := some 91) (v := undef) (a' := ?_) (px_l 40 5) rfl rfl (any_of HT_.out (by kernel_rfl)) (fun _ _ _ h => h) (Or.inr ⟨by rfl, rfl⟩) ?_ ?_
              rotate_left
              ·simp only [Act.put, px_a, px_b, px_c, i64_w, i32_w, px_w256]
               rfl
              refine pure_ (i := 40) (N := some 92) (v := undef) (a' := ?_) (px_l 41 4) rfl rfl (any_of HT_.out (by kernel_rfl)) (fun _ _ _ h => h) (Or.inr ⟨by rfl, rfl⟩) ?_ ?_
              rotate_left
              ·simp only [Act.put, px_a, px_b, px_c, i64_w, i32_w, px_w256]
               rfl
              refine pure_ (i := 41) (N := some 93) (v := undef) (a' := ?_) (px_l 42 3) rfl rfl (any_of HT_.out (by kernel_rfl)) (fun _ _ _ h => h) (Or.inr ⟨by rfl, rfl⟩) ?_ ?_
              rotate_left
              ·simp only [Act.put, px_a, px_b, px_c, i64_w, i32_w, px_w256]
               rfl
              refine pure_ (i := 42) (N := some 94) (v := undef) (a' := ?_) (px_l 43 2) rfl rfl (any_of HT_.out (by kernel_rfl)) (fun _ _ _ h => h) (Or.inr ⟨by rfl, rfl⟩) ?_ ?_
              rotate_left
              ·simp only [Act.put, px_a, px_b, px_c, i64_w, i32_w, px_w256]
               rfl
              refine pure_ (i := 43) (N := some 95) (v := ?_) (a' := ?_) (px_l 44 1) rfl rfl (any_of HT_.out (by kernel_rfl)) (fun _ _ _ h => h) (Or.inl ⟨by rfl, ?_⟩) ?_ ?_
              rotate_left
              ·intro w'
               go_simp
               with_reducible rfl
              rotate_left
              ·simp only [Act.put, px_a, px_b, px_c, i64_w, i32_w, px_w256]
               rfl
              refine pure_ (i := 44) (N := some 96) (v := ?_) (a' := ?_) (px_l 45 0) rfl rfl (any_of HT_.out (by kernel_rfl)) (fun _ _ _ h => h) (Or.inl ⟨by rfl, ?_⟩) ?_ ?_
              rotate_left
              ·intro w'
               go_simp
               with_reducible rfl
              rotate_left
              ·simp only [Act.put, px_a, px_b, px_c, i64_w, i32_w, px_w256]
               rfl
              refine done_ (done_of HT_.out (by kernel_rfl)) ?_
              try go_wp2
              go_meet
              case rel => exact ⟨_, (false), (by first | rfl | (simp; done) | (simp [*]; done)), H', ⟨by have := HJ6.out; have := HK2.out; first | omega | exact Nat.le_refl _⟩, ⟨by (with_reducible repeat (first | apply Kd.R_alloc | apply Kd.R_drewN | apply Kd.R_drew)); exact HO_5.out⟩, ⟨by (with_reducible repeat (first | apply Kd.R_alloc | apply Kd.R_drewN | apply Kd.R_drew)); exact HO_7.out⟩, ⟨by (with_reducible repeat (first | apply Kd.R_alloc | apply Kd.R_drewN | apply Kd.R_drew)); exact HO_10.out⟩, ⟨by repeat (first | (with_reducible first | exact HB.out | apply below_alloc | apply pw_below_drewN | apply below_drew1) | exact HB.out)⟩⟩
             ·rw [if_neg c39] at H
              have c39b0 : (t441 == 2) = false := beq_eq_false_iff_ne.mpr c39
              have c39b1 : (t441 != 2) = true := bne_iff_ne.mpr c39
              have H' := Aside0.mk H
              clear H
              try go_wp2
              have n0_ := Aside0.mk (Kd.R_drew HO_5.out)
              have n1_ := Aside0.mk (Kd.R_drew HO_7.out)
              have n2_ := Aside0.mk (Kd.R_drew HO_10.out)
              have n3_ := Aside0.mk (below_drew1 HB.out)
              clear HO_5
              clear HO_7
              clear HO_10
              clear HB
              have HO_5 := n0_
              have HO_7 := n1_
              have HO_10 := n2_
              have HB := n3_
              clear n0_ n1_ n2_ n3_
              have p458 : 0 ≤ (x11_2 : Int) := of_decide_eq_true (by first | (with_reducible assumption) | assumption)
              have q458 : x11_2 < (t448.length : Int) := of_decide_eq_true (by first | (with_reducible assumption) | assumption)
              obtain ⟨ad458, e458, hx458_0⟩ := Kd.at_int (Kd.R_reads' HO_7.out).2.2 x11_2 p458 q458
              cases e458
              replace p458 := eq_true p458
              replace q458 := eq_true q458
              obtain ⟨Ao43, co43, eo43⟩ := Kd.R_slice HO_10.out
              (first | subst eo43 | (injection eo43 with f1_ f2_ f3_; have f4_ := f1_.symm; have f5_ := f3_.symm; clear f1_ f2_ f3_; subst f4_; subst f5_))
              have p460 : 0 ≤ (x11_2 : Int) := of_decide_eq_true (by first | (with_reducible assumption) | assumption)
              have q460 : x11_2 < (t448.length : Int) := of_decide_eq_true (by first | (with_reducible assumption) | assumption)
              obtain ⟨ad460, e460, hx460_0⟩ := Kd.at_int (Kd.R_reads' HO_7.out).2.2 x11_2 p460 q460
              obtain rfl : ad458 = ad460 := (by injection e460)
              replace p460 := eq_true p460
              replace q460 := eq_true q460
              refine start_ (n := 45) (S := fun w' => w'.cell? (ad458.add (x11_2).toNat) = some (.int .i64 (rd t448 x11_2)) ∧ w'.cell? (ad458.add (x11_2).toNat) = some (.int .i64 (rd t448 x11_2))) (ds := []) (px_l 0 45) (by kernel_rfl) rfl rfl ⟨hx458_0, hx460_0⟩ (fun hHeld => ?_); refine with_tabW laws_FnCollectUpTo.tab13 laws_FnCollectUpTo.bits13 (fun HT_ HW_ => ?_)
              generalize wr.drew = w42 at HO_5 HO_7 HO_10 HB hx458_0 hx460_0 hHeld ⊢
              refine pure_ (i := 0) (N := some 52) (v := ?_) (a' := ?_) (px_l 1 44) rfl rfl (any_of HT_.out (by kernel_rfl)) (fun _ _ _ h => h) (Or.inl ⟨by rfl, ?_⟩) ?_ ?_
              rotate_left
              ·intro w'
               go_simp
               with_reducible rfl
              rotate_left
              ·simp only [Act.put, px_a, px_b, px_c, i64_w, i32_w, px_w256]
               rfl
              refine pure_ (i := 1) (N := some 53) (v := ?_) (a' := ?_) (px_l 2 43) rfl rfl (any_of HT_.out (by kernel_rfl)) (fun _ _ _ h => h) (Or.inl ⟨by rfl, ?_⟩) ?_ ?_
              rotate_left
              ·intro w'
               go_simp
               with_reducible rfl
              rotate_left
              ·simp only [Act.put, px_a, px_b, px_c, i64_w, i32_w, px_w256]
               rfl
              refine pure_ (i := 2) (N := some 54) (v := ?_) (a' := ?_) (px_l 3 42) rfl rfl (any_of HT_.out (by kernel_rfl)) (fun _ _ _ h => h) (Or.inl ⟨by rfl, ?_⟩) ?_ ?_
              rotate_left
              ·intro w'
               go_simp
               with_reducible rfl
              rotate_left
              ·simp only [Act.put, px_a, px_b, px_c, i64_w, i32_w, px_w256]
               rfl
              refine take_ (i := 3) (N := some 55) (v := ?_) (a' := ?_) (px_l 4 41) rfl rfl (take_ofW HT_.out HW_.out (by kernel_rfl)) (fun _ _ _ h => h) (Or.inl ⟨by rfl, ?_⟩) hHeld ?_ ?_
              rotate_left
              ·rintro w' ⟨s0, s1⟩
               go_simp
               with_reducible rfl
              rotate_left
              ·simp only [Act.put, px_a, px_b, px_c, i64_w, i32_w, px_w256]
               rfl
              refine pure_ (i := 4) (N := some 56) (v := ?_) (a' := ?_) (px_l 5 40) rfl rfl (any_of HT_.out (by kernel_rfl)) (fun _ _ _ h => h) (Or.inl ⟨by rfl, ?_⟩) ?_ ?_
              rotate_left
              ·intro w'
               go_simp
               with_reducible rfl
              rotate_left
              ·simp only [Act.put, px_a, px_b, px_c, i64_w, i32_w, px_w256]
               rfl
              refine pure_ (i := 5) (N := some 57) (v := ?_) (a' := ?_) (px_l 6 39) rfl rfl (any_of HT_.out (by kernel_rfl)) (fun _ _ _ h => h) (Or.inl ⟨by rfl, ?_⟩) ?_ ?_
              rotate_left
              ·intro w'
               go_simp
               with_reducible rfl
              rotate_left
              ·simp only [Act.put, px_a, px_b, px_c, i64_w, i32_w, px_w256]
               rfl
              refine pure_ (i := 6) (N := some 58) (v := ?_) (a' := ?_) (px_l 7 38) rfl rfl (any_of HT_.out (by kernel_rfl)) (fun _ _ _ h => h) (Or.inl ⟨by rfl, ?_⟩) ?_ ?_
              rotate_left
              ·intro w'
               go_simp
               with_reducible rfl
              rotate_left
              ·simp only [Act.put, px_a, px_b, px_c, i64_w, i32_w, px_w256]
               rfl
              refine pure_ (i := 7) (N := some 59) (v := ?_) (a' := ?_) (px_l 8 37) rfl rfl (any_of HT_.out (by kernel_rfl)) (fun _ _ _ h => h) (Or.inl ⟨by rfl, ?_⟩) ?_ ?_
              rotate_left
              ·intro w'
               go_simp
               with_reducible rfl
              rotate_left
              ·simp only [Act.put, px_a, px_b, px_c, i64_w, i32_w, px_w256]
               rfl
              refine one_ (i := 8) (N := some 60) (px_l 9 36) rfl rfl (one_of HT_.out (by kernel_rfl)) (by decide) (fun K hK => ?_)
              refine goes_ Try.func17 (by kernel_rfl) rfl #[.slice Ao43 t455.length co43, .int .i64 x11_2] (by rfl) rfl rfl (by (try simp only [List.map_toArray, List.map_cons, List.map_nil]); first | done | rfl | (simp only [List.length_drop, List.length_take]; rfl)) ?_
              with_reducible refine (spec_HasInt.calls k2 _ _ t455 x11_2 false _ ?side1 ?side2 A24.out).mono ?_
              (case side1 => repeat (first | exact (Kd.R_reads' HO_10.out).2.2 | (with_reducible refine Kd.C_alloc ?_ _) | (with_reducible refine Kd.C_drewN ?_ _) | (with_reducible refine Kd.C_drew ?_)))
              (case side2 => exact (Kd.R_reads' HO_10.out).2.1)
              rintro e w' ⟨rfl, ⟨nd, rfl⟩⟩
              refine ⟨_, rfl, ?_⟩
              refine hK.out _ _ ⟨hHeld.1, hHeld.2⟩ (fun hHeld => ?_)
              clear hK K
              refine norm_ (a' := ?_) ?_ ?_
              rotate_left
              ·show Act.put _ (some 60) _ = _
               simp only [Act.put, px_a, px_b, px_c, i64_w, i32_w, px_w256]
               rfl
              refine pure_ (i := 9) (N := some 61) (v := ?_) (a' := ?_) (px_l 10 35) rfl rfl (any_of HT_.out (by kernel_rfl)) (fun _ _ _ h => h) (Or.inl ⟨by rfl, ?_⟩) ?_ ?_
              rotate_left
              ·intro w'
               go_simp
               with_reducible rfl
              rotate_left
              ·simp only [Act.put, px_a, px_b, px_c, i64_w, i32_w, px_w256]
               rfl
              refine pure_ (i := 10) (N := some 62) (v := ?_) (a' := ?_) (px_l 11 34) rfl rfl (any_of HT_.out (by kernel_rfl)) (fun _ _ _ h => h) (Or.inl ⟨by rfl, ?_⟩) ?_ ?_
              rotate_left
              ·intro w'
               go_simp
               with_reducible rfl
              rotate_left
              ·simp only [Act.put, px_a, px_b, px_c, i64_w, i32_w, px_w256]
               rfl
              refine pure_ (i := 11) (N := some 63) (v := ?_) (a' := ?_) (px_l 12 33) rfl rfl (any_of HT_.out (by kernel_rfl)) (fun _ _ _ h => h) (Or.inl ⟨by rfl, ?_⟩) ?_ ?_
              rotate_left
              ·intro w'
               go_simp
               with_reducible rfl
              rotate_left
              ·simp only [Act.put, px_a, px_b, px_c, i64_w, i32_w, px_w256]
               rfl
              refine pure_ (i := 12) (N := some 64) (v := ?_) (a' := ?_) (px_l 13 32) rfl rfl (any_of HT_.out (by kernel_rfl)) (fun _ _ _ h => h) (Or.inl ⟨by rfl, ?_⟩) ?_ ?_
              rotate_left
              ·intro w'
               go_simp
               with_reducible rfl
              rotate_left
              ·simp only [Act.put, px_a, px_b, px_c, i64_w, i32_w, px_w256]
               rfl
              refine pure_ (i := 13) (N := some 65) (v := ?_) (a' := ?_) (px_l 14 31) rfl rfl (any_of HT_.out (by kernel_rfl)) (fun _ _ _ h => h) (Or.inl ⟨by rfl, ?_⟩) ?_ ?_
              rotate_left
              ·intro w'
               go_simp
               with_reducible rfl
              rotate_left
              ·simp only [Act.put, px_a, px_b, px_c, i64_w, i32_w, px_w256]
               rfl
              refine take_ (i := 14) (N := some 66) (v := ?_) (a' := ?_) (px_l 15 30) rfl rfl (take_ofW HT_.out HW_.out (by kernel_rfl)) (fun _ _ _ h => h) (Or.inl ⟨by rfl, ?_⟩) hHeld ?_ ?_
              rotate_left
              ·rintro w' ⟨s0, s1⟩
               go_simp
               with_reducible rfl
              rotate_left
              ·simp only [Act.put, px_a, px_b, px_c, i64_w, i32_w, px_w256]
               rfl
              refine pure_ (i := 15) (N := some 67) (v := ?_) (a' := ?_) (px_l 16 29) rfl rfl (any_of HT_.out (by kernel_rfl)) (fun _ _ _ h => h) (Or.inl ⟨by rfl, ?_⟩) ?_ ?_
              rotate_left
              ·intro w'
               go_simp
               with_reducible rfl
              rotate_left
              ·simp only [Act.put, px_a, px_b, px_c, i64_w, i32_w, px_w256]
               rfl
              refine pure_ (i := 16) (N := some 68) (v := ?_) (a' := ?_) (px_l 17 28) rfl rfl (any_of HT_.out (by kernel_rfl)) (fun _ _ _ h => h) (Or.inl ⟨by rfl, ?_⟩) ?_ ?_
              rotate_left
              ·intro w'
               go_simp
               with_reducible rfl
              rotate_left
              ·simp only [Act.put, px_a, px_b, px_c, i64_w, i32_w, px_w256]
               rfl
              refine pure_ (i := 17) (N := some 69) (v := undef) (a' := ?_) (px_l 18 27) rfl rfl (any_of HT_.out (by kernel_rfl)) (fun _ _ _ h => h) (Or.inr ⟨by rfl, rfl⟩) ?_ ?_
              rotate_left
              ·simp only [Act.put, px_a, px_b, px_c, i64_w, i32_w, px_w256]
               rfl
              refine pure_ (i := 18) (N := some 70) (v := undef) (a' := ?_) (px_l 19 26) rfl rfl (any_of HT_.out (by kernel_rfl)) (fun _ _ _ h => h) (Or.inr ⟨by rfl, rfl⟩) ?_ ?_
              rotate_left
              ·simp only [Act.put, px_a, px_b, px_c, i64_w, i32_w, px_w256]
               rfl
              refine pure_ (i := 19) (N := some 71) (v := undef) (a' := ?_) (px_l 20 25) rfl rfl (any_of HT_.out (by kernel_rfl)) (fun _ _ _ h => h) (Or.inr ⟨by rfl, rfl⟩) ?_ ?_
              rotate_left
              ·simp only [Act.put, px_a, px_b, px_c, i64_w, i32_w, px_w256]
               rfl
              refine pure_ (i := 20) (N := some 72) (v := undef) (a' := ?_) (px_l 21 24) rfl rfl (any_of HT_.out (by kernel_rfl)) (fun _ _ _ h => h) (Or.inr ⟨by rfl, rfl⟩) ?_ ?_
              rotate_left
              ·simp only [Act.put, px_a, px_b, px_c, i64_w, i32_w, px_w256]
               rfl
              refine pure_ (i := 21) (N := some 73) (v := undef) (a' := ?_) (px_l 22 23) rfl rfl (any_of HT_.out (by kernel_rfl)) (fun _ _ _ h => h) (Or.inr ⟨by rfl, rfl⟩) ?_ ?_
              rotate_left
              ·simp only [Act.put, px_a, px_b, px_c, i64_w, i32_w, px_w256]
               rfl
              refine pure_ (i := 22) (N := some 74) (v := undef) (a' := ?_) (px_l 23 22) rfl rfl (any_of HT_.out (by kernel_rfl)) (fun _ _ _ h => h) (Or.inr ⟨by rfl, rfl⟩) ?_ ?_
              rotate_left
              ·simp only [Act.put, px_a, px_b, px_c, i64_w, i32_w, px_w256]
               rfl
              refine pure_ (i := 23) (N := some 75) (v := undef) (a' := ?_) (px_l 24 21) rfl rfl (any_of HT_.out (by kernel_rfl)) (fun _ _ _ h => h) (Or.inr ⟨by rfl, rfl⟩) ?_ ?_
              rotate_left
              ·simp only [Act.put, px_a, px_b, px_c, i64_w, i32_w, px_w256]
               rfl
              refine pure_ (i := 24) (N := some 76) (v := undef) (a' := ?_) (px_l 25 20) rfl rfl (any_of HT_.out (by kernel_rfl)) (fun _ _ _ h => h) (Or.inr ⟨by rfl, rfl⟩) ?_ ?_
              rotate_left
              ·simp only [Act.put, px_a, px_b, px_c, i64_w, i32_w, px_w256]
               rfl
              refine pure_ (i := 25) (N := some 77) (v := undef) (a' := ?_) (px_l 26 19) rfl rfl (any_of HT_.out (by kernel_rfl)) (fun _ _ _ h => h) (Or.inr ⟨by rfl, rfl⟩) ?_ ?_
              rotate_left
              ·simp only [Act.put, px_a, px_b, px_c, i64_w, i32_w, px_w256]
               rfl
              refine pure_ (i := 26) (N := some 78) (v := ?_) (a' := ?_) (px_l 27 18) rfl rfl (any_of HT_.out (by kernel_rfl)) (fun _ _ _ h => h) (Or.inl ⟨by rfl, ?_⟩) ?_ ?_
              rotate_left
              ·intro w'
               go_simp
               with_reducible rfl
              rotate_left
              ·simp only [Act.put, px_a, px_b, px_c, i64_w, i32_w, px_w256]
               rfl
              refine pure_ (i := 27) (N := some 79) (v := ?_) (a' := ?_) (px_l 28 17) rfl rfl (any_of HT_.out (by kernel_rfl)) (fun _ _ _ h => h) (Or.inl ⟨by rfl, ?_⟩) ?_ ?_
              rotate_left
              ·intro w'
               go_simp
               with_reducible rfl
              rotate_left
              ·simp only [Act.put, px_a, px_b, px_c, i64_w, i32_w, px_w256]
               rfl
              refine pure_ (i := 28) (N := some 80) (v := ?_) (a' := ?_) (px_l 29 16) rfl rfl (any_of HT_.out (by kernel_rfl)) (fun _ _ _ h => h) (Or.inl ⟨by rfl, ?_⟩) ?_ ?_
              rotate_left
              ·intro w'
               go_simp
               with_reducible rfl
              rotate_left
              ·simp only [Act.put, px_a, px_b, px_c, i64_w, i32_w, px_w256]
               rfl
              refine pure_ (i := 29) (N := some 81) (v := ?_) (a' := ?_) (px_l 30 15) rfl rfl (any_of HT_.out (by kernel_rfl)) (fun _ _ _ h => h) (Or.inl ⟨by rfl, ?_⟩) ?_ ?_
              rotate_left
              ·intro w'
               go_simp
               with_reducible rfl
              rotate_left
              ·simp only [Act.put, px_a, px_b, px_c, i64_w, i32_w, px_w256]
               rfl
              refine pure_ (i := 30) (N := some 82) (v := ?_) (a' := ?_) (px_l 31 14) rfl rfl (any_of HT_.out (by kernel_rfl)) (fun _ _ _ h => h) (Or.inl ⟨by rfl, ?_⟩) ?_ ?_
              rotate_left
              ·intro w'
               go_simp
               with_reducible rfl
              rotate_left
              ·simp only [Act.put, px_a, px_b, px_c, i64_w, i32_w, px_w256]
               rfl
              refine pure_ (i := 31) (N := some 83) (v := ?_) (a' := ?_) (px_l 32 13) rfl rfl (any_of HT_.out (by kernel_rfl)) (fun _ _ _ h => h) (Or.inl ⟨by rfl, ?_⟩) ?_ ?_
              rotate_left
              ·intro w'
               go_simp
               with_reducible rfl
              rotate_left
              ·simp only [Act.put, px_a, px_b, px_c, i64_w, i32_w, px_w256]
               rfl
              refine pure_ (i := 32) (N := some 84) (v := undef) (a' := ?_) (px_l 33 12) rfl rfl (any_of HT_.out (by kernel_rfl)) (fun _ _ _ h => h) (Or.inr ⟨by rfl, rfl⟩) ?_ ?_
              rotate_left
              ·simp only [Act.put, px_a, px_b, px_c, i64_w, i32_w, px_w256]
               rfl
              refine pure_ (i := 33) (N := some 85) (v := undef) (a' := ?_) (px_l 34 11) rfl rfl (any_of HT_.out (by kernel_rfl)) (fun _ _ _ h => h) (Or.inr ⟨by rfl, rfl⟩) ?_ ?_
              rotate_left
              ·simp only [Act.put, px_a, px_b, px_c, i64_w, i32_w, px_w256]
               rfl
              refine pure_ (i := 34) (N := some 86) (v := undef) (a' := ?_) (px_l 35 10) rfl rfl (any_of HT_.out (by kernel_rfl)) (fun _ _ _ h => h) (Or.inr ⟨by rfl, rfl⟩) ?_ ?_
              rotate_left
              ·simp only [Act.put, px_a, px_b, px_c, i64_w, i32_w, px_w256]
               rfl
              refine pure_ (i := 35) (N := some 87) (v := undef) (a' := ?_) (px_l 36 9) rfl rfl (any_of HT_.out (by kernel_rfl)) (fun _ _ _ h => h) (Or.inr ⟨by rfl, rfl⟩) ?_ ?_
              rotate_left
              ·simp only [Act.put, px_a, px_b, px_c, i64_w, i32_w, px_w256]
               rfl
              refine pure_ (i := 36) (N := some 88) (v := undef) (a' := ?_) (px_l 37 8) rfl rfl (any_of HT_.out (by kernel_rfl)) (fun _ _ _ h => h) (Or.inr ⟨by rfl, rfl⟩) ?_ ?_
              rotate_left
              ·simp only [Act.put, px_a, px_b, px_c, i64_w, i32_w, px_w256]
               rfl
              refine pure_ (i := 37) (N := some 89) (v := ?_) (a' := ?_) (px_l 38 7) rfl rfl (any_of HT_.out (by kernel_rfl)) (fun _ _ _ h => h) (Or.inl ⟨by rfl, ?_⟩) ?_ ?_
              rotate_left
              ·intro w'
               go_simp
               with_reducible rfl
              rotate_left
              ·simp only [Act.put, px_a, px_b, px_c, i64_w, i32_w, px_w256]
               rfl
              refine pure_ (i := 38) (N := some 90) (v := ?_) (a' := ?_) (px_l 39 6) rfl rfl (any_of HT_.out (by kernel_rfl)) (fun _ _ _ h => h) (Or.inl ⟨by rfl, ?_⟩) ?_ ?_
              rotate_left
              ·intro w'
               go_simp
               with_reducible rfl
              rotate_left
              ·simp only [Act.put, px_a, px_b, px_c, i64_w, i32_w, px_w256]
               rfl
              refine pure_ (i := 39) (N := some 91) (v := undef) (a' := ?_) (px_l 40 5) rfl rfl (any_of HT_.out (by kernel_rfl)) (fun _ _ _ h => h) (Or.inr ⟨by rfl, rfl⟩) ?_ ?_
              rotate_left
              ·simp only [Act.put, px_a, px_b, px_c, i64_w, i32_w, px_w256]
               rfl
              refine pure_ (i := 40) (N := some 92) (v := undef) (a' := ?_) (px_l 41 4) rfl rfl (any_of HT_.out (by kernel_rfl)) (fun _ _ _ h => h) (Or.inr ⟨by rfl, rfl⟩) ?_ ?_
              rotate_left
              ·simp only [Act.put, px_a, px_b, px_c, i64_w, i32_w, px_w256]
               rfl
              refine pure_ (i := 41) (N := some 93) (v := undef) (a' := ?_) (px_l 42 3) rfl rfl (any_of HT_.out (by kernel_rfl)) (fun _ _ _ h => h) (Or.inr ⟨by rfl, rfl⟩) ?_ ?_
              rotate_left
              ·simp only [Act.put, px_a, px_b, px_c, i64_w, i32_w, px_w256]
               rfl
              refine pure_ (i := 42) (N := some 94) (v := undef) (a' := ?_) (px_l 43 2) rfl rfl (any_of HT_.out (by kernel_rfl)) (fun _ _ _ h => h) (Or.inr ⟨by rfl, rfl⟩) ?_ ?_
              rotate_left
              ·simp only [Act.put, px_a, px_b, px_c, i64_w, i32_w, px_w256]
               rfl
              refine pure_ (i := 43) (N := some 95) (v := ?_) (a' := ?_) (px_l 44 1) rfl rfl (any_of HT_.out (by kernel_rfl)) (fun _ _ _ h => h) (Or.inl ⟨by rfl, ?_⟩) ?_ ?_
              rotate_left
              ·intro w'
               go_simp
               with_reducible rfl
              rotate_left
              ·simp only [Act.put, px_a, px_b, px_c, i64_w, i32_w, px_w256]
               rfl
              refine pure_ (i := 44) (N := some 96) (v := ?_) (a' := ?_) (px_l 45 0) rfl rfl (any_of HT_.out (by kernel_rfl)) (fun _ _ _ h => h) (Or.inl ⟨by rfl, ?_⟩) ?_ ?_
              rotate_left
              ·intro w'
               go_simp
               with_reducible rfl
              rotate_left
              ·simp only [Act.put, px_a, px_b, px_c, i64_w, i32_w, px_w256]
               rfl
              refine done_ (done_of HT_.out (by kernel_rfl)) ?_
              try go_wp2
              go_meet
              case rel => exact ⟨_, (false), (by first | rfl | (simp; done) | (simp [*]; done)), H', ⟨by have := HJ6.out; have := HK2.out; first | omega | exact Nat.le_refl _⟩, ⟨by (with_reducible repeat (first | apply Kd.R_alloc | apply Kd.R_drewN | apply Kd.R_drew)); exact HO_5.out⟩, ⟨by (with_reducible repeat (first | apply Kd.R_alloc | apply Kd.R_drewN | apply Kd.R_drew)); exact HO_7.out⟩, ⟨by (with_reducible repeat (first | apply Kd.R_alloc | apply Kd.R_drewN | apply Kd.R_drew)); exact HO_10.out⟩, ⟨by repeat (first | (with_reducible first | exact HB.out | apply below_alloc | apply pw_below_drewN | apply below_drew1) | exact HB.out)⟩⟩
          ·rw [if_neg c23] at H
           have c23b0 : decide ((rd t448 x11_2) < 0) = false := decide_eq_false c23
           clear c23
           by_cases c44 : (rd t448 x11_2) ≥ 0
           ·rw [if_pos c44] at H
            have c44b0 : decide (0 ≤ (rd t448 x11_2)) = true := decide_eq_true c44
            clear c44
            by_cases c45 : x11_2 < (t440.length : Int)
            ·rw [if_pos c45] at H
             have c45b0 : decide (x11_2 < (t440.length : Int)) = true := decide_eq_true c45
             clear c45
             by_cases c46 : (rd t448 x11_2) < (rd t440 x11_2)
             ·rw [if_pos c46] at H
              have c46b0 : decide ((rd t448 x11_2) < (rd t440 x11_2)) = true := decide_eq_true c46
              clear c46
              have H' := Aside0.mk H
              clear H
              try go_wp2
              have n0_ := Aside0.mk (Kd.R_drew HO_5.out)
              have n1_ := Aside0.mk (Kd.R_drew HO_7.out)
              have n2_ := Aside0.mk (Kd.R_drew HO_10.out)
              have n3_ := Aside0.mk (below_drew1 HB.out)
              clear HO_5
              clear HO_7
              clear HO_10
              clear HB
              have HO_5 := n0_
              have HO_7 := n1_
              have HO_10 := n2_
              have HB := n3_
              clear n0_ n1_ n2_ n3_
              have p458 : 0 ≤ (x11_2 : Int) := of_decide_eq_true (by first | (with_reducible assumption) | assumption)
              have q458 : x11_2 < (t448.length : Int) := of_decide_eq_true (by first | (with_reducible assumption) | assumption)
              obtain ⟨ad458, e458, hx458_0⟩ := Kd.at_int (Kd.R_reads' HO_7.out).2.2 x11_2 p458 q458
              cases e458
              replace p458 := eq_true p458
              replace q458 := eq_true q458
              have p466 : 0 ≤ (x11_2 : Int) := of_decide_eq_true (by first | (with_reducible assumption) | assumption)
              have q466 : x11_2 < (t448.length : Int) := of_decide_eq_true (by first | (with_reducible assumption) | assumption)
              obtain ⟨ad466, e466, hx466_0⟩ := Kd.at_int (Kd.R_reads' HO_7.out).2.2 x11_2 p466 q466
              obtain rfl : ad458 = ad466 := (by injection e466)
              replace p466 := eq_true p466
              replace q466 := eq_true q466
              have p467 : 0 ≤ (x11_2 : Int) := of_decide_eq_true (by first | (with_reducible assumption) | assumption)
              have q467 : x11_2 < (t448.length : Int) := of_decide_eq_true (by first | (with_reducible assumption) | assumption)
              obtain ⟨ad467, e467, hx467_0⟩ := Kd.at_int (Kd.R_reads' HO_7.out).2.2 x11_2 p467 q467
              obtain rfl : ad458 = ad467 := (by injection e467)
              replace p467 := eq_true p467
              replace q467 := eq_true q467
              have p468 : 0 ≤ (x11_2 : Int) := of_decide_eq_true (by first | (with_reducible assumption) | assumption)
              have q468 : x11_2 < (t440.length : Int) := of_decide_eq_true (by first | (with_reducible assumption) | assumption)
              obtain ⟨ad468, e468, hx468_0⟩ := Kd.at_int (Kd.R_reads' HO_5.out).2.2 x11_2 p468 q468
              cases e468
              replace p468 := eq_true p468
              replace q468 := eq_true q468
              refine start_ (n := 45) (S := fun w' => w'.cell? (ad458.add (x11_2).toNat) = some (.int .i64 (rd t448 x11_2)) ∧ w'.cell? (ad458.add (x11_2).toNat) = some (.int .i64 (rd t448 x11_2)) ∧ w'.cell? (ad458.add (x11_2).toNat) = some (.int .i64 (rd t448 x11_2)) ∧ w'.cell? (ad468.add (x11_2).toNat) = some (.int .i64 (rd t440 x11_2))) (ds := []) (px_l 0 45) (by kernel_rfl) rfl rfl ⟨hx458_0, hx466_0, hx467_0, hx468_0⟩ (fun hHeld => ?_); refine with_tabW laws_FnCollectUpTo.tab13 laws_FnCollectUpTo.bits13 (fun HT_ HW_ => ?_)
              generalize wr.drew = w47 at HO_5 HO_7 HO_10 HB hx458_0 hx466_0 hx467_0 hx468_0 hHeld ⊢
              refine pure_ (i := 0) (N := some 52) (v := ?_) (a' := ?_) (px_l 1 44) rfl rfl (any_of HT_.out (by kernel_rfl)) (fun _ _ _ h => h) (Or.inl ⟨by rfl, ?_⟩) ?_ ?_
              rotate_left
              ·intro w'
               go_simp
               with_reducible rfl
              rotate_left
              ·simp only [Act.put, px_a, px_b, px_c, i64_w, i32_w, px_w256]
               rfl
              refine pure_ (i := 1) (N := some 53) (v := ?_) (a' := ?_) (px_l 2 43) rfl rfl (any_of HT_.out (by kernel_rfl)) (fun _ _ _ h => h) (Or.inl ⟨by rfl, ?_⟩) ?_ ?_
              rotate_left
              ·intro w'
               go_simp
               with_reducible rfl
              rotate_left
              ·simp only [Act.put, px_a, px_b, px_c, i64_w, i32_w, px_w256]
               rfl
              refine pure_ (i := 2) (N := some 54) (v := ?_) (a' := ?_) (px_l 3 42) rfl rfl (any_of HT_.out (by kernel_rfl)) (fun _ _ _ h => h) (Or.inl ⟨by rfl, ?_⟩) ?_ ?_
              rotate_left
              ·intro w'
               go_simp
               with_reducible rfl
              rotate_left
              ·simp only [Act.put, px_a, px_b, px_c, i64_w, i32_w, px_w256]
               rfl
              refine take_ (i := 3) (N := some 55) (v := ?_) (a' := ?_) (px_l 4 41) rfl rfl (take_ofW HT_.out HW_.out (by kernel_rfl)) (fun _ _ _ h => h) (Or.inl ⟨by rfl, ?_⟩) hHeld ?_ ?_
              rotate_left
              ·rintro w' ⟨s0, s1, s2, s3⟩
               go_simp
               with_reducible rfl
              rotate_left
              ·simp only [Act.put, px_a, px_b, px_c, i64_w, i32_w, px_w256]
               rfl
              refine pure_ (i := 4) (N := some 56) (v := ?_) (a' := ?_) (px_l 5 40) rfl rfl (any_of HT_.out (by kernel_rfl)) (fun _ _ _ h => h) (Or.inl ⟨by rfl, ?_⟩) ?_ ?_
              rotate_left
              ·intro w'
               go_simp
               with_reducible rfl
              rotate_left
              ·simp only [Act.put, px_a, px_b, px_c, i64_w, i32_w, px_w256]
               rfl
              refine pure_ (i := 5) (N := some 57) (v := ?_) (a' := ?_) (px_l 6 39) rfl rfl (any_of HT_.out (by kernel_rfl)) (fun _ _ _ h => h) (Or.inl ⟨by rfl, ?_⟩) ?_ ?_
              rotate_left
              ·intro w'
               go_simp
               with_reducible rfl
              rotate_left
              ·simp only [Act.put, px_a, px_b, px_c, i64_w, i32_w, px_w256]
               rfl
              refine pure_ (i := 6) (N := some 58) (v := undef) (a' := ?_) (px_l 7 38) rfl rfl (any_of HT_.out (by kernel_rfl)) (fun _ _ _ h => h) (Or.inr ⟨by rfl, rfl⟩) ?_ ?_
              rotate_left
              ·simp only [Act.put, px_a, px_b, px_c, i64_w, i32_w, px_w256]
               rfl
              refine pure_ (i := 7) (N := some 59) (v := undef) (a' := ?_) (px_l 8 37) rfl rfl (any_of HT_.out (by kernel_rfl)) (fun _ _ _ h => h) (Or.inr ⟨by rfl, rfl⟩) ?_ ?_
              rotate_left
              ·simp only [Act.put, px_a, px_b, px_c, i64_w, i32_w, px_w256]
               rfl
              refine pure_ (i := 8) (N := some 60) (v := undef) (a' := ?_) (px_l 9 36) rfl rfl (any_of HT_.out (by kernel_rfl)) (fun _ _ _ h => h) (Or.inr ⟨by rfl, rfl⟩) ?_ ?_
              rotate_left
              ·simp only [Act.put, px_a, px_b, px_c, i64_w, i32_w, px_w256]
               rfl
              refine pure_ (i := 9) (N := some 61) (v := ?_) (a' := ?_) (px_l 10 35) rfl rfl (any_of HT_.out (by kernel_rfl)) (fun _ _ _ h => h) (Or.inl ⟨by rfl, ?_⟩) ?_ ?_
              rotate_left
              ·intro w'
               go_simp
               with_reducible rfl
              rotate_left
              ·simp only [Act.put, px_a, px_b, px_c, i64_w, i32_w, px_w256]
               rfl
              refine pure_ (i := 10) (N := some 62) (v := ?_) (a' := ?_) (px_l 11 34) rfl rfl (any_of HT_.out (by kernel_rfl)) (fun _ _ _ h => h) (Or.inl ⟨by rfl, ?_⟩) ?_ ?_
              rotate_left
              ·intro w'
               go_simp
               with_reducible rfl
              rotate_left
              ·simp only [Act.put, px_a, px_b, px_c, i64_w, i32_w, px_w256]
               rfl
              refine pure_ (i := 11) (N := some 63) (v := ?_) (a' := ?_) (px_l 12 33) rfl rfl (any_of HT_.out (by kernel_rfl)) (fun _ _ _ h => h) (Or.inl ⟨by rfl, ?_⟩) ?_ ?_
              rotate_left
              ·intro w'
               go_simp
               with_reducible rfl
              rotate_left
              ·simp only [Act.put, px_a, px_b, px_c, i64_w, i32_w, px_w256]
               rfl
              refine pure_ (i := 12) (N := some 64) (v := ?_) (a' := ?_) (px_l 13 32) rfl rfl (any_of HT_.out (by kernel_rfl)) (fun _ _ _ h => h) (Or.inl ⟨by rfl, ?_⟩) ?_ ?_
              rotate_left
              ·intro w'
               go_simp
               with_reducible rfl
              rotate_left
              ·simp only [Act.put, px_a, px_b, px_c, i64_w, i32_w, px_w256]
               rfl
              refine pure_ (i := 13) (N := some 65) (v := ?_) (a' := ?_) (px_l 14 31) rfl rfl (any_of HT_.out (by kernel_rfl)) (fun _ _ _ h => h) (Or.inl ⟨by rfl, ?_⟩) ?_ ?_
              rotate_left
              ·intro w'
               go_simp
               with_reducible rfl
              rotate_left
              ·simp only [Act.put, px_a, px_b, px_c, i64_w, i32_w, px_w256]
               rfl
              refine take_ (i := 14) (N := some 66) (v := ?_) (a' := ?_) (px_l 15 30) rfl rfl (take_ofW HT_.out HW_.out (by kernel_rfl)) (fun _ _ _ h => h) (Or.inl ⟨by rfl, ?_⟩) hHeld ?_ ?_
              rotate_left
              ·rintro w' ⟨s0, s1, s2, s3⟩
               go_simp
               with_reducible rfl
              rotate_left
              ·simp only [Act.put, px_a, px_b, px_c, i64_w, i32_w, px_w256]
               rfl
              refine pure_ (i := 15) (N := some 67) (v := ?_) (a' := ?_) (px_l 16 29) rfl rfl (any_of HT_.out (by kernel_rfl)) (fun _ _ _ h => h) (Or.inl ⟨by rfl, ?_⟩) ?_ ?_
              rotate_left
              ·intro w'
               go_simp
               with_reducible rfl
              rotate_left
              ·simp only [Act.put, px_a, px_b, px_c, i64_w, i32_w, px_w256]
               rfl
              refine pure_ (i := 16) (N := some 68) (v := ?_) (a' := ?_) (px_l 17 28) rfl rfl (any_of HT_.out (by kernel_rfl)) (fun _ _ _ h => h) (Or.inl ⟨by rfl, ?_⟩) ?_ ?_
              rotate_left
              ·intro w'
               go_simp
               with_reducible rfl
              rotate_left
              ·simp only [Act.put, px_a, px_b, px_c, i64_w, i32_w, px_w256]
               rfl
              refine pure_ (i := 17) (N := some 69) (v := ?_) (a' := ?_) (px_l 18 27) rfl rfl (any_of HT_.out (by kernel_rfl)) (fun _ _ _ h => h) (Or.inl ⟨by rfl, ?_⟩) ?_ ?_
              rotate_left
              ·intro w'
               go_simp
               with_reducible rfl
              rotate_left
              ·simp only [Act.put, px_a, px_b, px_c, i64_w, i32_w, px_w256]
               rfl
              refine pure_ (i := 18) (N := some 70) (v := ?_) (a' := ?_) (px_l 19 26) rfl rfl (any_of HT_.out (by kernel_rfl)) (fun _ _ _ h => h) (Or.inl ⟨by rfl, ?_⟩) ?_ ?_
              rotate_left
              ·intro w'
               go_simp
               with_reducible rfl
              rotate_left
              ·simp only [Act.put, px_a, px_b, px_c, i64_w, i32_w, px_w256]
               rfl
              refine pure_ (i := 19) (N := some 71) (v := ?_) (a' := ?_) (px_l 20 25) rfl rfl (any_of HT_.out (by kernel_rfl)) (fun _ _ _ h => h) (Or.inl ⟨by rfl, ?_⟩) ?_ ?_
              rotate_left
              ·intro w'
               go_simp
               with_reducible rfl
              rotate_left
              ·simp only [Act.put, px_a, px_b, px_c, i64_w, i32_w, px_w256]
               rfl
              refine pure_ (i := 21) (N := some 73) (v := ?_) (a' := ?_) #[true, true, true, true, true, true, true, true, true, true, true, true, true, true, true, true, true, true, true, true, false, true, false, false, false, false, false, false, false, false, false, false, false, false, false, false, false, false, false, false, false, false, false, false, false] rfl rfl (any_of HT_.out (by kernel_rfl)) (fun _ _ _ h => h) (Or.inl ⟨by rfl, ?_⟩) ?_ ?_
              rotate_left
              ·intro w'
               go_simp
               with_reducible rfl
              rotate_left
              ·simp only [Act.put, px_a, px_b, px_c, i64_w, i32_w, px_w256]
               rfl
              refine pure_ (i := 22) (N := some 74) (v := ?_) (a' := ?_) #[true, true, true, true, true, true, true, true, true, true, true, true, true, true, true, true, true, true, true, true, false, true, true, false, false, false, false, false, false, false, false, false, false, false, false, false, false, false, false, false, false, false, false, false, false] rfl rfl (any_of HT_.out (by kernel_rfl)) (fun _ _ _ h => h) (Or.inl ⟨by rfl, ?_⟩) ?_ ?_
              rotate_left
              ·intro w'
               go_simp
               with_reducible rfl
              rotate_left
              ·simp only [Act.put, px_a, px_b, px_c, i64_w, i32_w, px_w256]
               rfl
              refine pure_ (i := 23) (N := some 75) (v := ?_) (a' := ?_) #[true, true, true, true, true, true, true, true, true, true, true, true, true, true, true, true, true, true, true, true, false, true, true, true, false, false, false, false, false, false, false, false, false, false, false, false, false, false, false, false, false, false, false, false, false] rfl rfl (any_of HT_.out (by kernel_rfl)) (fun _ _ _ h => h) (Or.inl ⟨by rfl, ?_⟩) ?_ ?_
              rotate_left
              ·intro w'
               go_simp
               with_reducible rfl
              rotate_left
              ·simp only [Act.put, px_a, px_b, px_c, i64_w, i32_w, px_w256]
               rfl
              refine take_ (i := 20) (N := some 72) (v := ?_) (a' := ?_) (px_l 24 21) rfl rfl (take_ofW HT_.out HW_.out (by kernel_rfl)) (fun _ _ _ h => h) (Or.inl ⟨by rfl, ?_⟩) hHeld ?_ ?_
              rotate_left
              ·rintro w' ⟨s0, s1, s2, s3⟩
               go_simp
               with_reducible rfl
              rotate_left
              ·simp only [Act.put, px_a, px_b, px_c, i64_w, i32_w, px_w256]
               rfl
              refine take_ (i := 24) (N := some 76) (v := ?_) (a' := ?_) (px_l 25 20) rfl rfl (take_ofW HT_.out HW_.out (by kernel_rfl)) (fun _ _ _ h => h) (Or.inl ⟨by rfl, ?_⟩) hHeld ?_ ?_
              rotate_left
              ·rintro w' ⟨s0, s1, s2, s3⟩
               go_simp
               with_reducible rfl
              rotate_left
              ·simp only [Act.put, px_a, px_b, px_c, i64_w, i32_w, px_w256]
               rfl
              refine pure_ (i := 25) (N := some 77) (v := ?_) (a' := ?_) (px_l 26 19) rfl rfl (any_of HT_.out (by kernel_rfl)) (fun _ _ _ h => h) (Or.inl ⟨by rfl, ?_⟩) ?_ ?_
              rotate_left
              ·intro w'
               go_simp
               with_reducible rfl
              rotate_left
              ·simp only [Act.put, px_a, px_b, px_c, i64_w, i32_w, px_w256]
               rfl
              refine pure_ (i := 26) (N := some 78) (v := ?_) (a' := ?_) (px_l 27 18) rfl rfl (any_of HT_.out (by kernel_rfl)) (fun _ _ _ h => h) (Or.inl ⟨by rfl, ?_⟩) ?_ ?_
              rotate_left
              ·intro w'
               go_simp
               with_reducible rfl
              rotate_left
              ·simp only [Act.put, px_a, px_b, px_c, i64_w, i32_w, px_w256]
               rfl
              refine pure_ (i := 27) (N := some 79) (v := ?_) (a' := ?_) (px_l 28 17) rfl rfl (any_of HT_.out (by kernel_rfl)) (fun _ _ _ h => h) (Or.inl ⟨by rfl, ?_⟩) ?_ ?_
              rotate_left
              ·intro w'
               go_simp
               with_reducible rfl
              rotate_left
              ·simp only [Act.put, px_a, px_b, px_c, i64_w, i32_w, px_w256]
               rfl
              refine pure_ (i := 28) (N := some 80) (v := ?_) (a' := ?_) (px_l 29 16) rfl rfl (any_of HT_.out (by kernel_rfl)) (fun _ _ _ h => h) (Or.inl ⟨by rfl, ?_⟩) ?_ ?_
              rotate_left
              ·intro w'
               go_simp
               with_reducible rfl
              rotate_left
              ·simp only [Act.put, px_a, px_b, px_c, i64_w, i32_w, px_w256]
               rfl
              refine pure_ (i := 29) (N := some 81) (v := undef) (a' := ?_) (px_l 30 15) rfl rfl (any_of HT_.out (by kernel_rfl)) (fun _ _ _ h => h) (Or.inr ⟨by rfl, rfl⟩) ?_ ?_
              rotate_left
              ·simp only [Act.put, px_a, px_b, px_c, i64_w, i32_w, px_w256]
               rfl
              refine pure_ (i := 30) (N := some 82) (v := undef) (a' := ?_) (px_l 31 14) rfl rfl (any_of HT_.out (by kernel_rfl)) (fun _ _ _ h => h) (Or.inr ⟨by rfl, rfl⟩) ?_ ?_
              rotate_left
              ·simp only [Act.put, px_a, px_b, px_c, i64_w, i32_w, px_w256]
               rfl
              refine pure_ (i := 31) (N := some 83) (v := undef) (a' := ?_) (px_l 32 13) rfl rfl (any_of HT_.out (by kernel_rfl)) (fun _ _ _ h => h) (Or.inr ⟨by rfl, rfl⟩) ?_ ?_
              rotate_left
              ·simp only [Act.put, px_a, px_b, px_c, i64_w, i32_w, px_w256]
               rfl
              refine pure_ (i := 32) (N := some 84) (v := undef) (a' := ?_) (px_l 33 12) rfl rfl (any_of HT_.out (by kernel_rfl)) (fun _ _ _ h => h) (Or.inr ⟨by rfl, rfl⟩) ?_ ?_
              rotate_left
              ·simp only [Act.put, px_a, px_b, px_c, i64_w, i32_w, px_w256]
               rfl
              refine pure_ (i := 33) (N := some 85) (v := undef) (a' := ?_) (px_l 34 11) rfl rfl (any_of HT_.out (by kernel_rfl)) (fun _ _ _ h => h) (Or.inr ⟨by rfl, rfl⟩) ?_ ?_
              rotate_left
              ·simp only [Act.put, px_a, px_b, px_c, i64_w, i32_w, px_w256]
               rfl
              refine pure_ (i := 34) (N := some 86) (v := undef) (a' := ?_) (px_l 35 10) rfl rfl (any_of HT_.out (by kernel_rfl)) (fun _ _ _ h => h) (Or.inr ⟨by rfl, rfl⟩) ?_ ?_
              rotate_left
              ·simp only [Act.put, px_a, px_b, px_c, i64_w, i32_w, px_w256]
               rfl
              refine pure_ (i := 35) (N := some 87) (v := undef) (a' := ?_) (px_l 36 9) rfl rfl (any_of HT_.out (by kernel_rfl)) (fun _ _ _ h => h) (Or.inr ⟨by rfl, rfl⟩) ?_ ?_
              rotate_left
              ·simp only [Act.put, px_a, px_b, px_c, i64_w, i32_w, px_w256]
               rfl
              refine pure_ (i := 36) (N := some 88) (v := undef) (a' := ?_) (px_l 37 8) rfl rfl (any_of HT_.out (by kernel_rfl)) (fun _ _ _ h => h) (Or.inr ⟨by rfl, rfl⟩) ?_ ?_
              rotate_left
              ·simp only [Act.put, px_a, px_b, px_c, i64_w, i32_w, px_w256]
               rfl
              refine pure_ (i := 37) (N := some 89) (v := undef) (a' := ?_) (px_l 38 7) rfl rfl (any_of HT_.out (by kernel_rfl)) (fun _ _ _ h => h) (Or.inr ⟨by rfl, rfl⟩) ?_ ?_
              rotate_left
              ·simp only [Act.put, px_a, px_b, px_c, i64_w, i32_w, px_w256]
               rfl
              refine pure_ (i := 38) (N := some 90) (v := undef) (a' := ?_) (px_l 39 6) rfl rfl (any_of HT_.out (by kernel_rfl)) (fun _ _ _ h => h) (Or.inr ⟨by rfl, rfl⟩) ?_ ?_
              rotate_left
              ·simp only [Act.put, px_a, px_b, px_c, i64_w, i32_w, px_w256]
               rfl
              refine pure_ (i := 39) (N := some 91) (v := undef) (a' := ?_) (px_l 40 5) rfl rfl (any_of HT_.out (by kernel_rfl)) (fun _ _ _ h => h) (Or.inr ⟨by rfl, rfl⟩) ?_ ?_
              rotate_left
              ·simp only [Act.put, px_a, px_b, px_c, i64_w, i32_w, px_w256]
               rfl
              refine pure_ (i := 40) (N := some 92) (v := undef) (a' := ?_) (px_l 41 4) rfl rfl (any_of HT_.out (by kernel_rfl)) (fun _ _ _ h => h) (Or.inr ⟨by rfl, rfl⟩) ?_ ?_
              rotate_left
              ·simp only [Act.put, px_a, px_b, px_c, i64_w, i32_w, px_w256]
               rfl
              refine pure_ (i := 41) (N := some 93) (v := undef) (a' := ?_) (px_l 42 3) rfl rfl (any_of HT_.out (by kernel_rfl)) (fun _ _ _ h => h) (Or.inr ⟨by rfl, rfl⟩) ?_ ?_
              rotate_left
              ·simp only [Act.put, px_a, px_b, px_c, i64_w, i32_w, px_w256]
               rfl
              refine pure_ (i := 42) (N := some 94) (v := undef) (a' := ?_) (px_l 43 2) rfl rfl (any_of HT_.out (by kernel_rfl)) (fun _ _ _ h => h) (Or.inr ⟨by rfl, rfl⟩) ?_ ?_
              rotate_left
              ·simp only [Act.put, px_a, px_b, px_c, i64_w, i32_w, px_w256]
               rfl
              refine pure_ (i := 43) (N := some 95) (v := undef) (a' := ?_) (px_l 44 1) rfl rfl (any_of HT_.out (by kernel_rfl)) (fun _ _ _ h => h) (Or.inr ⟨by rfl, rfl⟩) ?_ ?_
              rotate_left
              ·simp only [Act.put, px_a, px_b, px_c, i64_w, i32_w, px_w256]
               rfl
              refine pure_ (i := 44) (N := some 96) (v := ?_) (a' := ?_) (px_l 45 0) rfl rfl (any_of HT_.out (by kernel_rfl)) (fun _ _ _ h => h) (Or.inl ⟨by rfl, ?_⟩) ?_ ?_
              rotate_left
              ·intro w'
               go_simp
               with_reducible rfl
              rotate_left
              ·simp only [Act.put, px_a, px_b, px_c, i64_w, i32_w, px_w256]
               rfl
              refine done_ (done_of HT_.out (by kernel_rfl)) ?_
              try go_wp2
              go_meet
              case rel => exact ⟨_, (true), (by first | rfl | (simp; done) | (simp [*]; done)), H', ⟨by have := HJ6.out; have := HK2.out; first | omega | exact Nat.le_refl _⟩, ⟨by (with_reducible repeat (first | apply Kd.R_alloc | apply Kd.R_drewN | apply Kd.R_drew)); exact HO_5.out⟩, ⟨by (with_reducible repeat (first | apply Kd.R_alloc | apply Kd.R_drewN | apply Kd.R_drew)); exact HO_7.out⟩, ⟨by (with_reducible repeat (first | apply Kd.R_alloc | apply Kd.R_drewN | apply Kd.R_drew)); exact HO_10.out⟩, ⟨by repeat (first | (with_reducible first | exact HB.out | apply below_alloc | apply pw_below_drewN | apply below_drew1) | exact HB.out)⟩⟩
             ·rw [if_neg c46] at H
              have c46b0 : decide ((rd t448 x11_2) < (rd t440 x11_2)) = false := decide_eq_false c46
              clear c46
              by_cases c48 : t441 = 2
              ·rw [if_pos c48] at H
               have c48b0 : (t441 == 2) = true := beq_iff_eq.mpr c48
               have c48b1 : (t441 != 2) = false := bne_eq_false_iff_eq.mpr c48
               clear c48
               replace H := Option.bind_eq_some_iff.mp H
               obtain ⟨t470, A490, H⟩ := H
               replace H : (laws_FnCollectUpTo.j2 k2 t440 t441 t448 t455 x11_2 (!t470)) = some r := H
               have A49 := Aside0.mk A490
               clear A490
               have H' := Aside0.mk H
               clear H
               try go_wp2
               have n0_ := Aside0.mk (Kd.R_drew HO_5.out)
               have n1_ := Aside0.mk (Kd.R_drew HO_7.out)
               have n2_ := Aside0.mk (Kd.R_drew HO_10.out)
               have n3_ := Aside0.mk (below_drew1 HB.out)
               clear HO_5
               clear HO_7
               clear HO_10
               clear HB
               have HO_5 := n0_
               have HO_7 := n1_
               have HO_10 := n2_
               have HB := n3_
               clear n0_ n1_ n2_ n3_
               have p458 : 0 ≤ (x11_2 : Int) := of_decide_eq_true (by first | (with_reducible assumption) | assumption)
               have q458 : x11_2 < (t448.length : Int) := of_decide_eq_true (by first | (with_reducible assumption) | assumption)
               obtain ⟨ad458, e458, hx458_0⟩ := Kd.at_int (Kd.R_reads' HO_7.out).2.2 x11_2 p458 q458
               cases e458
               replace p458 := eq_true p458
               replace q458 := eq_true q458
               have p466 : 0 ≤ (x11_2 : Int) := of_decide_eq_true (by first | (with_reducible assumption) | assumption)
               have q466 : x11_2 < (t448.length : Int) := of_decide_eq_true (by first | (with_reducible assumption) | assumption)
               obtain ⟨ad466, e466, hx466_0⟩ := Kd.at_int (Kd.R_reads' HO_7.out).2.2 x11_2 p466 q466
               obtain rfl : ad458 = ad466 := (by injection e466)
               replace p466 := eq_true p466
               replace q466 := eq_true q466
               have p467 : 0 ≤ (x11_2 : Int) := of_decide_eq_true (by first | (with_reducible assumption) | assumption)
               have q467 : x11_2 < (t448.length : Int) := of_decide_eq_true (by first | (with_reducible assumption) | assumption)
               obtain ⟨ad467, e467, hx467_0⟩ := Kd.at_int (Kd.R_reads' HO_7.out).2.2 x11_2 p467 q467
               obtain rfl : ad458 = ad467 := (by injection e467)
               replace p467 := eq_true p467
               replace q467 := eq_true q467
               have p468 : 0 ≤ (x11_2 : Int) := of_decide_eq_true (by first | (with_reducible assumption) | assumption)
               have q468 : x11_2 < (t440.length : Int) := of_decide_eq_true (by first | (with_reducible assumption) | assumption)
               obtain ⟨ad468, e468, hx468_0⟩ := Kd.at_int (Kd.R_reads' HO_5.out).2.2 x11_2 p468 q468
               cases e468
               replace p468 := eq_true p468
               replace q468 := eq_true q468
               have p469 : 0 ≤ (x11_2 : Int) := of_decide_eq_true (by first | (with_reducible assumption) | assumption)
               have q469 : x11_2 < (t448.length : Int) := of_decide_eq_true (by first | (with_reducible assumption) | assumption)
               obtain ⟨ad469, e469, hx469_0⟩ := Kd.at_int (Kd.R_reads' HO_7.out).2.2 x11_2 p469 q469
               obtain rfl : ad458 = ad469 := (by injection e469)
               replace p469 := eq_true p469
               replace q469 := eq_true q469
               obtain ⟨Ao51, co51, eo51⟩ := Kd.R_slice HO_10.out
               (first | subst eo51 | (injection eo51 with f1_ f2_ f3_; have f4_ := f1_.symm; have f5_ := f3_.symm; clear f1_ f2_ f3_; subst f4_; subst f5_))
               refine start_ (n := 45) (S := fun w' => w'.cell? (ad458.add (x11_2).toNat) = some (.int .i64 (rd t448 x11_2)) ∧ w'.cell? (ad458.add (x11_2).toNat) = some (.int .i64 (rd t448 x11_2)) ∧ w'.cell? (ad458.add (x11_2).toNat) = some (.int .i64 (rd t448 x11_2)) ∧ w'.cell? (ad468.add (x11_2).toNat) = some (.int .i64 (rd t440 x11_2)) ∧ w'.cell? (ad458.add (x11_2).toNat) = some (.int .i64 (rd t448 x11_2))) (ds := []) (px_l 0 45) (by kernel_rfl) rfl rfl ⟨hx458_0, hx466_0, hx467_0, hx468_0, hx469_0⟩ (fun hHeld => ?_); refine with_tabW laws_FnCollectUpTo.tab13 laws_FnCollectUpTo.bits13 (fun HT_ HW_ => ?_)
               generalize wr.drew = w50 at HO_5 HO_7 HO_10 HB hx458_0 hx466_0 hx467_0 hx468_0 hx469_0 hHeld ⊢
               refine pure_ (i := 0) (N := some 52) (v := ?_) (a' := ?_) (px_l 1 44) rfl rfl (any_of HT_.out (by kernel_rfl)) (fun _ _ _ h => h) (Or.inl ⟨by rfl, ?_⟩) ?_ ?_
               rotate_left
               ·intro w'
                go_simp
                with_reducible rfl
               rotate_left
               ·simp only [Act.put, px_a, px_b, px_c, i64_w, i32_w, px_w256]
                rfl
               refine pure_ (i := 1) (N := some 53) (v := ?_) (a' := ?_) (px_l 2 43) rfl rfl (any_of HT_.out (by kernel_rfl)) (fun _ _ _ h => h) (Or.inl ⟨by rfl, ?_⟩) ?_ ?_
               rotate_left
               ·intro w'
                go_simp
                with_reducible rfl
               rotate_left
               ·simp only [Act.put, px_a, px_b, px_c, i64_w, i32_w, px_w256]
                rfl
               refine pure_ (i := 2) (N := some 54) (v := ?_) (a' := ?_) (px_l 3 42) rfl rfl (any_of HT_.out (by kernel_rfl)) (fun _ _ _ h => h) (Or.inl ⟨by rfl, ?_⟩) ?_ ?_
               rotate_left
               ·intro w'
                go_simp
                with_reducible rfl
               rotate_left
               ·simp only [Act.put, px_a, px_b, px_c, i64_w, i32_w, px_w256]
                rfl
               refine take_ (i := 3) (N := some 55) (v := ?_) (a' := ?_) (px_l 4 41) rfl rfl (take_ofW HT_.out HW_.out (by kernel_rfl)) (fun _ _ _ h => h) (Or.inl ⟨by rfl, ?_⟩) hHeld ?_ ?_
               rotate_left
               ·rintro w' ⟨s0, s1, s2, s3, s4⟩
                go_simp
                with_reducible rfl
               rotate_left
               ·simp only [Act.put, px_a, px_b, px_c, i64_w, i32_w, px_w256]
                rfl
               refine pure_ (i := 4) (N := some 56) (v := ?_) (a' := ?_) (px_l 5 40) rfl rfl (any_of HT_.out (by kernel_rfl)) (fun _ _ _ h => h) (Or.inl ⟨by rfl, ?_⟩) ?_ ?_
               rotate_left
               ·intro w'
                go_simp
                with_reducible rfl
               rotate_left
               ·simp only [Act.put, px_a, px_b, px_c, i64_w, i32_w, px_w256]
                rfl
               refine pure_ (i := 5) (N := some 57) (v := ?_) (a' := ?_) (px_l 6 39) rfl rfl (any_of HT_.out (by kernel_rfl)) (fun _ _ _ h => h) (Or.inl ⟨by rfl, ?_⟩) ?_ ?_
               rotate_left
               ·intro w'
                go_simp
                with_reducible rfl
               rotate_left
               ·simp only [Act.put, px_a, px_b, px_c, i64_w, i32_w, px_w256]
                rfl
               refine pure_ (i := 6) (N := some 58) (v := undef) (a' := ?_) (px_l 7 38) rfl rfl (any_of HT_.out (by kernel_rfl)) (fun _ _ _ h => h) (Or.inr ⟨by rfl, rfl⟩) ?_ ?_
               rotate_left
               ·simp only [Act.put, px_a, px_b, px_c, i64_w, i32_w, px_w256]
                rfl
               refine pure_ (i := 7) (N := some 59) (v := undef) (a' := ?_) (px_l 8 37) rfl rfl (any_of HT_.out (by kernel_rfl)) (fun _ _ _ h => h) (Or.inr ⟨by rfl, rfl⟩) ?_ ?_
               rotate_left
               ·simp only [Act.put, px_a, px_b, px_c, i64_w, i32_w, px_w256]
                rfl
               refine pure_ (i := 8) (N := some 60) (v := undef) (a' := ?_) (px_l 9 36) rfl rfl (any_of HT_.out (by kernel_rfl)) (fun _ _ _ h => h) (Or.inr ⟨by rfl, rfl⟩) ?_ ?_
               rotate_left
               ·simp only [Act.put, px_a, px_b, px_c, i64_w, i32_w, px_w256]
                rfl
               refine pure_ (i := 9) (N := some 61) (v := ?_) (a' := ?_) (px_l 10 35) rfl rfl (any_of HT_.out (by kernel_rfl)) (fun _ _ _ h => h) (Or.inl ⟨by rfl, ?_⟩) ?_ ?_
               rotate_left
               ·intro w'
                go_simp
                with_reducible rfl
               rotate_left
               ·simp only [Act.put, px_a, px_b, px_c, i64_w, i32_w, px_w256]
                rfl
               refine pure_ (i := 10) (N := some 62) (v := ?_) (a' := ?_) (px_l 11 34) rfl rfl (any_of HT_.out (by kernel_rfl)) (fun _ _ _ h => h) (Or.inl ⟨by rfl, ?_⟩) ?_ ?_
               rotate_left
               ·intro w'
                go_simp
                with_reducible rfl
               rotate_left
               ·simp only [Act.put, px_a, px_b, px_c, i64_w, i32_w, px_w256]
                rfl
               refine pure_ (i := 11) (N := some 63) (v := ?_) (a' := ?_) (px_l 12 33) rfl rfl (any_of HT_.out (by kernel_rfl)) (fun _ _ _ h => h) (Or.inl ⟨by rfl, ?_⟩) ?_ ?_
               rotate_left
               ·intro w'
                go_simp
                with_reducible rfl
               rotate_left
               ·simp only [Act.put, px_a, px_b, px_c, i64_w, i32_w, px_w256]
                rfl
               refine pure_ (i := 12) (N := some 64) (v := ?_) (a' := ?_) (px_l 13 32) rfl rfl (any_of HT_.out (by kernel_rfl)) (fun _ _ _ h => h) (Or.inl ⟨by rfl, ?_⟩) ?_ ?_
               rotate_left
               ·intro w'
                go_simp
                with_reducible rfl
               rotate_left
               ·simp only [Act.put, px_a, px_b, px_c, i64_w, i32_w, px_w256]
                rfl
               refine pure_ (i := 13) (N := some 65) (v := ?_) (a' := ?_) (px_l 14 31) rfl rfl (any_of HT_.out (by kernel_rfl)) (fun _ _ _ h => h) (Or.inl ⟨by rfl, ?_⟩) ?_ ?_
               rotate_left
               ·intro w'
                go_simp
                with_reducible rfl
               rotate_left
               ·simp only [Act.put, px_a, px_b, px_c, i64_w, i32_w, px_w256]
                rfl
               refine take_ (i := 14) (N := some 66) (v := ?_) (a' := ?_) (px_l 15 30) rfl rfl (take_ofW HT_.out HW_.out (by kernel_rfl)) (fun _ _ _ h => h) (Or.inl ⟨by rfl, ?_⟩) hHeld ?_ ?_
               rotate_left
               ·rintro w' ⟨s0, s1, s2, s3, s4⟩
                go_simp
                with_reducible rfl
               rotate_left
               ·simp only [Act.put, px_a, px_b, px_c, i64_w, i32_w, px_w256]
                rfl
               refine pure_ (i := 15) (N := some 67) (v := ?_) (a' := ?_) (px_l 16 29) rfl rfl (any_of HT_.out (by kernel_rfl)) (fun _ _ _ h => h) (Or.inl ⟨by rfl, ?_⟩) ?_ ?_
               rotate_left
               ·intro w'
                go_simp
                with_reducible rfl
               rotate_left
               ·simp only [Act.put, px_a, px_b, px_c, i64_w, i32_w, px_w256]
                rfl
               refine pure_ (i := 16) (N := some 68) (v := ?_) (a' := ?_) (px_l 17 28) rfl rfl (any_of HT_.out (by kernel_rfl)) (fun _ _ _ h => h) (Or.inl ⟨by rfl, ?_⟩) ?_ ?_
               rotate_left
               ·intro w'
                go_simp
                with_reducible rfl
               rotate_left
               ·simp only [Act.put, px_a, px_b, px_c, i64_w, i32_w, px_w256]
                rfl
               refine pure_ (i := 17) (N := some 69) (v := ?_) (a' := ?_) (px_l 18 27) rfl rfl (any_of HT_.out (by kernel_rfl)) (fun _ _ _ h => h) (Or.inl ⟨by rfl, ?_⟩) ?_ ?_
               rotate_left
               ·intro w'
                go_simp
                with_reducible rfl
               rotate_left
               ·simp only [Act.put, px_a, px_b, px_c, i64_w, i32_w, px_w256]
                rfl
               refine pure_ (i := 18) (N := some 70) (v := ?_) (a' := ?_) (px_l 19 26) rfl rfl (any_of HT_.out (by kernel_rfl)) (fun _ _ _ h => h) (Or.inl ⟨by rfl, ?_⟩) ?_ ?_
               rotate_left
               ·intro w'
                go_simp
                with_reducible rfl
               rotate_left
               ·simp only [Act.put, px_a, px_b, px_c, i64_w, i32_w, px_w256]
                rfl
               refine pure_ (i := 19) (N := some 71) (v := ?_) (a' := ?_) (px_l 20 25) rfl rfl (any_of HT_.out (by kernel_rfl)) (fun _ _ _ h => h) (Or.inl ⟨by rfl, ?_⟩) ?_ ?_
               rotate_left
               ·intro w'
                go_simp
                with_reducible rfl
               rotate_left
               ·simp only [Act.put, px_a, px_b, px_c, i64_w, i32_w, px_w256]
                rfl
               refine pure_ (i := 21) (N := some 73) (v := ?_) (a' := ?_) #[true, true, true, true, true, true, true, true, true, true, true, true, true, true, true, true, true, true, true, true, false, true, false, false, false, false, false, false, false, false, false, false, false, false, false, false, false, false, false, false, false, false, false, false, false] rfl rfl (any_of HT_.out (by kernel_rfl)) (fun _ _ _ h => h) (Or.inl ⟨by rfl, ?_⟩) ?_ ?_
               rotate_left
               ·intro w'
                go_simp
                with_reducible rfl
               rotate_left
               ·simp only [Act.put, px_a, px_b, px_c, i64_w, i32_w, px_w256]
                rfl
               refine pure_ (i := 22) (N := some 74) (v := ?_) (a' := ?_) #[true, true, true, true, true, true, true, true, true, true, true, true, true, true, true, true, true, true, true, true, false, true, true, false, false, false, false, false, false, false, false, false, false, false, false, false, false, false, false, false, false, false, false, false, false] rfl rfl (any_of HT_.out (by kernel_rfl)) (fun _ _ _ h => h) (Or.inl ⟨by rfl, ?_⟩) ?_ ?_
               rotate_left
               ·intro w'
                go_simp
                with_reducible rfl
               rotate_left
               ·simp only [Act.put, px_a, px_b, px_c, i64_w, i32_w, px_w256]
                rfl
               refine pure_ (i := 23) (N := some 75) (v := ?_) (a' := ?_) #[true, true, true, true, true, true, true, true, true, true, true, true, true, true, true, true, true, true, true, true, false, true, true, true, false, false, false, false, false, false, false, false, false, false, false, false, false, false, false, false, false, false, false, false, false] rfl rfl (any_of HT_.out (by kernel_rfl)) (fun _ _ _ h => h) (Or.inl ⟨by rfl, ?_⟩) ?_ ?_
               rotate_left
               ·intro w'
                go_simp
                with_reducible rfl
               rotate_left
               ·simp only [Act.put, px_a, px_b, px_c, i64_w, i32_w, px_w256]
                rfl
               refine take_ (i := 20) (N := some 72) (v := ?_) (a' := ?_) (px_l 24 21) rfl rfl (take_ofW HT_.out HW_.out (by kernel_rfl)) (fun _ _ _ h => h) (Or.inl ⟨by rfl, ?_⟩) hHeld ?_ ?_
               rotate_left
               ·rintro w' ⟨s0, s1, s2, s3, s4⟩
                go_simp
                with_reducible rfl
               rotate_left
               ·simp only [Act.put, px_a, px_b, px_c, i64_w, i32_w, px_w256]
                rfl
               refine take_ (i := 24) (N := some 76) (v := ?_) (a' := ?_) (px_l 25 20) rfl rfl (take_ofW HT_.out HW_.out (by kernel_rfl)) (fun _ _ _ h => h) (Or.inl ⟨by rfl, ?_⟩) hHeld ?_ ?_
               rotate_left
               ·rintro w' ⟨s0, s1, s2, s3, s4⟩
                go_simp
                with_reducible rfl
               rotate_left
               ·simp only [Act.put, px_a, px_b, px_c, i64_w, i32_w, px_w256]
                rfl
               refine pure_ (i := 25) (N := some 77) (v := ?_) (a' := ?_) (px_l 26 19) rfl rfl (any_of HT_.out (by kernel_rfl)) (fun _ _ _ h => h) (Or.inl ⟨by rfl, ?_⟩) ?_ ?_
               rotate_left
               ·intro w'
                go_simp
                with_reducible rfl
               rotate_left
               ·simp only [Act.put, px_a, px_b, px_c, i64_w, i32_w, px_w256]
                rfl
               refine pure_ (i := 26) (N := some 78) (v := ?_) (a' := ?_) (px_l 27 18) rfl rfl (any_of HT_.out (by kernel_rfl)) (fun _ _ _ h => h) (Or.inl ⟨by rfl, ?_⟩) ?_ ?_
               rotate_left
               ·intro w'
                go_simp
                with_reducible rfl
               rotate_left
               ·simp only [Act.put, px_a, px_b, px_c, i64_w, i32_w, px_w256]
                rfl
               refine pure_ (i := 27) (N := some 79) (v := ?_) (a' := ?_) (px_l 28 17) rfl rfl (any_of HT_.out (by kernel_rfl)) (fun _ _ _ h => h) (Or.inl ⟨by rfl, ?_⟩) ?_ ?_
               rotate_left
               ·intro w'
                go_simp
                with_reducible rfl
               rotate_left
               ·simp only [Act.put, px_a, px_b, px_c, i64_w, i32_w, px_w256]
                rfl
               refine pure_ (i := 28) (N := some 80) (v := ?_) (a' := ?_) (px_l 29 16) rfl rfl (any_of HT_.out (by kernel_rfl)) (fun _ _ _ h => h) (Or.inl ⟨by rfl, ?_⟩) ?_ ?_
               rotate_left
               ·intro w'
                go_simp
                with_reducible rfl
               rotate_left
               ·simp only [Act.put, px_a, px_b, px_c, i64_w, i32_w, px_w256]
                rfl
               refine pure_ (i := 29) (N := some 81) (v := ?_) (a' := ?_) (px_l 30 15) rfl rfl (any_of HT_.out (by kernel_rfl)) (fun _ _ _ h => h) (Or.inl ⟨by rfl, ?_⟩) ?_ ?_
               rotate_left
               ·intro w'
                go_simp
                with_reducible rfl
               rotate_left
               ·simp only [Act.put, px_a, px_b, px_c, i64_w, i32_w, px_w256]
                rfl
               refine pure_ (i := 30) (N := some 82) (v := ?_) (a' := ?_) (px_l 31 14) rfl rfl (any_of HT_.out (by kernel_rfl)) (fun _ _ _ h => h) (Or.inl ⟨by rfl, ?_⟩) ?_ ?_
               rotate_left
               ·intro w'
                go_simp
                with_reducible rfl
               rotate_left
               ·simp only [Act.put, px_a, px_b, px_c, i64_w, i32_w, px_w256]
                rfl
               refine pure_ (i := 31) (N := some 83) (v := ?_) (a' := ?_) (px_l 32 13) rfl rfl (any_of HT_.out (by kernel_rfl)) (fun _ _ _ h => h) (Or.inl ⟨by rfl, ?_⟩) ?_ ?_
               rotate_left
               ·intro w'
                go_simp
                with_reducible rfl
               rotate_left
               ·simp only [Act.put, px_a, px_b, px_c, i64_w, i32_w, px_w256]
                rfl
               refine pure_ (i := 32) (N := some 84) (v := ?_) (a' := ?_) (px_l 33 12) rfl rfl (any_of HT_.out (by kernel_rfl)) (fun _ _ _ h => h) (Or.inl ⟨by rfl, ?_⟩) ?_ ?_
               rotate_left
               ·intro w'
                go_simp
                with_reducible rfl
               rotate_left
               ·simp only [Act.put, px_a, px_b, px_c, i64_w, i32_w, px_w256]
                rfl
               refine pure_ (i := 33) (N := some 85) (v := ?_) (a' := ?_) (px_l 34 11) rfl rfl (any_of HT_.out (by kernel_rfl)) (fun _ _ _ h => h) (Or.inl ⟨by rfl, ?_⟩) ?_ ?_
               rotate_left
               ·intro w'
                go_simp
                with_reducible rfl
               rotate_left
               ·simp only [Act.put, px_a, px_b, px_c, i64_w, i32_w, px_w256]
                rfl
               refine pure_ (i := 34) (N := some 86) (v := ?_) (a' := ?_) (px_l 35 10) rfl rfl (any_of HT_.out (by kernel_rfl)) (fun _ _ _ h => h) (Or.inl ⟨by rfl, ?_⟩) ?_ ?_
               rotate_left
               ·intro w'
                go_simp
                with_reducible rfl
               rotate_left
               ·simp only [Act.put, px_a, px_b, px_c, i64_w, i32_w, px_w256]
                rfl
               refine take_ (i := 35) (N := some 87) (v := ?_) (a' := ?_) (px_l 36 9) rfl rfl (take_ofW HT_.out HW_.out (by kernel_rfl)) (fun _ _ _ h => h) (Or.inl ⟨by rfl, ?_⟩) hHeld ?_ ?_
               rotate_left
               ·rintro w' ⟨s0, s1, s2, s3, s4⟩
                go_simp
                with_reducible rfl
               rotate_left
               ·simp only [Act.put, px_a, px_b, px_c, i64_w, i32_w, px_w256]
                rfl
               refine pure_ (i := 36) (N := some 88) (v := ?_) (a' := ?_) (px_l 37 8) rfl rfl (any_of HT_.out (by kernel_rfl)) (fun _ _ _ h => h) (Or.inl ⟨by rfl, ?_⟩) ?_ ?_
               rotate_left
               ·intro w'
                go_simp
                with_reducible rfl
               rotate_left
               ·simp only [Act.put, px_a, px_b, px_c, i64_w, i32_w, px_w256]
                rfl
               refine pure_ (i := 37) (N := some 89) (v := ?_) (a' := ?_) (px_l 38 7) rfl rfl (any_of HT_.out (by kernel_rfl)) (fun _ _ _ h => h) (Or.inl ⟨by rfl, ?_⟩) ?_ ?_
               rotate_left
               ·intro w'
                go_simp
                with_reducible rfl
               rotate_left
               ·simp only [Act.put, px_a, px_b, px_c, i64_w, i32_w, px_w256]
                rfl
               refine pure_ (i := 38) (N := some 90) (v := ?_) (a' := ?_) (px_l 39 6) rfl rfl (any_of HT_.out (by kernel_rfl)) (fun _ _ _ h => h) (Or.inl ⟨by rfl, ?_⟩) ?_ ?_
               rotate_left
               ·intro w'
                go_simp
                with_reducible rfl
               rotate_left
               ·simp only [Act.put, px_a, px_b, px_c, i64_w, i32_w, px_w256]
                rfl
               refine pure_ (i := 39) (N := some 91) (v := ?_) (a' := ?_) (px_l 40 5) rfl rfl (any_of HT_.out (by kernel_rfl)) (fun _ _ _ h => h) (Or.inl ⟨by rfl, ?_⟩) ?_ ?_
               rotate_left
               ·intro w'
                go_simp
                with_reducible rfl
               rotate_left
               ·simp only [Act.put, px_a, px_b, px_c, i64_w, i32_w, px_w256]
                rfl
               refine pure_ (i := 40) (N := some 92) (v := ?_) (a' := ?_) (px_l 41 4) rfl rfl (any_of HT_.out (by kernel_rfl)) (fun _ _ _ h => h) (Or.inl ⟨by rfl, ?_⟩) ?_ ?_
               rotate_left
               ·intro w'
                go_simp
                with_reducible rfl
               rotate_left
               ·simp only [Act.put, px_a, px_b, px_c, i64_w, i32_w, px_w256]
                rfl
               refine one_ (i := 41) (N := some 93) (px_l 42 3) rfl rfl (one_of HT_.out (by kernel_rfl)) (by decide) (fun K hK => ?_)
               refine goes_ Try.func17 (by kernel_rfl) rfl #[.slice Ao51 t455.length co51, .int .i64 x11_2] (by rfl) rfl rfl (by (try simp only [List.map_toArray, List.map_cons, List.map_nil]); first | done | rfl | (simp only [List.length_drop, List.length_take]; rfl)) ?_
               with_reducible refine (spec_HasInt.calls k2 _ _ t455 x11_2 t470 _ ?side1 ?side2 A49.out).mono ?_
               (case side1 => repeat (first | exact (Kd.R_reads' HO_10.out).2.2 | (with_reducible refine Kd.C_alloc ?_ _) | (with_reducible refine Kd.C_drewN ?_ _) | (with_reducible refine Kd.C_drew ?_)))
               (case side2 => exact (Kd.R_reads' HO_10.out).2.1)
               rintro e w' ⟨rfl, ⟨nd, rfl⟩⟩
               refine ⟨_, rfl, ?_⟩
               refine hK.out _ _ ⟨hHeld.1, hHeld.2.1, hHeld.2.2.1, hHeld.2.2.2.1, hHeld.2.2.2.2⟩ (fun hHeld => ?_)
               clear hK K
               refine norm_ (a' := ?_) ?_ ?_
               rotate_left
               ·show Act.put _ (some 93) _ = _
                simp only [Act.put, px_a, px_b, px_c, i64_w, i32_w, px_w256]
                rfl
               refine pure_ (i := 42) (N := some 94) (v := ?_) (a' := ?_) (px_l 43 2) rfl rfl (any_of HT_.out (by kernel_rfl)) (fun _ _ _ h => h) (Or.inl ⟨by rfl, ?_⟩) ?_ ?_
               rotate_left
               ·intro w'
                go_simp
                with_reducible rfl
               rotate_left
               ·simp only [Act.put, px_a, px_b, px_c, i64_w, i32_w, px_w256]
                rfl
               refine pure_ (i := 43) (N := some 95) (v := ?_) (a' := ?_) (px_l 44 1) rfl rfl (any_of HT_.out (by kernel_rfl)) (fun _ _ _ h => h) (Or.inl ⟨by rfl, ?_⟩) ?_ ?_
               rotate_left
               ·intro w'
                go_simp
                with_reducible rfl
               rotate_left
               ·simp only [Act.put, px_a, px_b, px_c, i64_w, i32_w, px_w256]
                rfl
               refine pure_ (i := 44) (N := some 96) (v := ?_) (a' := ?_) (px_l 45 0) rfl rfl (any_of HT_.out (by kernel_rfl)) (fun _ _ _ h => h) (Or.inl ⟨by rfl, ?_⟩) ?_ ?_
               rotate_left
               ·intro w'
                go_simp
                with_reducible rfl
               rotate_left
               ·simp only [Act.put, px_a, px_b, px_c, i64_w, i32_w, px_w256]
                rfl
               refine done_ (done_of HT_.out (by kernel_rfl)) ?_
               try go_wp2
               go_meet
               case rel => exact ⟨_, (!t470), (by first | rfl | (simp; done) | (simp [*]; done)), H', ⟨by have := HJ6.out; have := HK2.out; first | omega | exact Nat.le_refl _⟩, ⟨by (with_reducible repeat (first | apply Kd.R_alloc | apply Kd.R_drewN | apply Kd.R_drew)); exact HO_5.out⟩, ⟨by (with_reducible repeat (first | apply Kd.R_alloc | apply Kd.R_drewN | apply Kd.R_drew)); exact HO_7.out⟩, ⟨by (with_reducible repeat (first | apply Kd.R_alloc | apply Kd.R_drewN | apply Kd.R_drew)); exact HO_10.out⟩, ⟨by repeat (first | (with_reducible first | exact HB.out | apply below_alloc | apply pw_below_drewN | apply below_drew1) | exact HB.out)⟩⟩
              ·rw [if_neg c48] at H
               have c48b0 : (t441 == 2) = false := beq_eq_false_iff_ne.mpr c48
               have c48b1 : (t441 != 2) = true := bne_iff_ne.mpr c48
               have H' := Aside0.mk H
               clear H
               try go_wp2
               have n0_ := Aside0.mk (Kd.R_drew HO_5.out)
               have n1_ := Aside0.mk (Kd.R_drew HO_7.out)
               have n2_ := Aside0.mk (Kd.R_drew HO_10.out)
               have n3_ := Aside0.mk (below_drew1 HB.out)
               clear HO_5
               clear HO_7
               clear HO_10
               clear HB
               have HO_5 := n0_
               have HO_7 := n1_
               have HO_10 := n2_
               have HB := n3_
               clear n0_ n1_ n2_ n3_
               have p458 : 0 ≤ (x11_2 : Int) := of_decide_eq_true (by first | (with_reducible assumption) | assumption)
               have q458 : x11_2 < (t448.length : Int) := of_decide_eq_true (by first | (with_reducible assumption) | assumption)
               obtain ⟨ad458, e458, hx458_0⟩ := Kd.at_int (Kd.R_reads' HO_7.out).2.2 x11_2 p458 q458
               cases e458
               replace p458 := eq_true p458
               replace q458 := eq_true q458
               have p466 : 0 ≤ (x11_2 : Int) := of_decide_eq_true (by first | (with_reducible assumption) | assumption)
               have q466 : x11_2 < (t448.length : Int) := of_decide_eq_true (by first | (with_reducible assumption) | assumption)
               obtain ⟨ad466, e466, hx466_0⟩ := Kd.at_int (Kd.R_reads' HO_7.out).2.2 x11_2 p466 q466
               obtain rfl : ad458 = ad466 := (by injection e466)
               replace p466 := eq_true p466
               replace q466 := eq_true q466
               have p467 : 0 ≤ (x11_2 : Int) := of_decide_eq_true (by first | (with_reducible assumption) | assumption)
               have q467 : x11_2 < (t448.length : Int) := of_decide_eq_true (by first | (with_reducible assumption) | assumption)
               obtain ⟨ad467, e467, hx467_0⟩ := Kd.at_int (Kd.R_reads' HO_7.out).2.2 x11_2 p467 q467
               obtain rfl : ad458 = ad467 := (by injection e467)
               replace p467 := eq_true p467
               replace q467 := eq_true q467
               have p468 : 0 ≤ (x11_2 : Int) := of_decide_eq_true (by first | (with_reducible assumption) | assumption)
               have q468 : x11_2 < (t440.length : Int) := of_decide_eq_true (by first | (with_reducible assumption) | assumption)
               obtain ⟨ad468, e468, hx468_0⟩ := Kd.at_int (Kd.R_reads' HO_5.out).2.2 x11_2 p468 q468
               cases e468
               replace p468 := eq_true p468
               replace q468 := eq_true q468
               refine start_ (n := 45) (S := fun w' => w'.cell? (ad458.add (x11_2).toNat) = some (.int .i64 (rd t448 x11_2)) ∧ w'.cell? (ad458.add (x11_2).toNat) = some (.int .i64 (rd t448 x11_2)) ∧ w'.cell? (ad458.add (x11_2).toNat) = some (.int .i64 (rd t448 x11_2)) ∧ w'.cell? (ad468.add (x11_2).toNat) = some (.int .i64 (rd t440 x11_2))) (ds := []) (px_l 0 45) (by kernel_rfl) rfl rfl ⟨hx458_0, hx466_0, hx467_0, hx468_0⟩ (fun hHeld => ?_); refine with_tabW laws_FnCollectUpTo.tab13 laws_FnCollectUpTo.bits13 (fun HT_ HW_ => ?_)
               generalize wr.drew = w52 at HO_5 HO_7 HO_10 HB hx458_0 hx466_0 hx467_0 hx468_0 hHeld ⊢
               refine pure_ (i := 0) (N := some 52) (v := ?_) (a' := ?_) (px_l 1 44) rfl rfl (any_of HT_.out (by kernel_rfl)) (fun _ _ _ h => h) (Or.inl ⟨by rfl, ?_⟩) ?_ ?_
               rotate_left
               ·intro w'
                go_simp
                with_reducible rfl
               rotate_left
               ·simp only [Act.put, px_a, px_b, px_c, i64_w, i32_w, px_w256]
                rfl
               refine pure_ (i := 1) (N := some 53) (v := ?_) (a' := ?_) (px_l 2 43) rfl rfl (any_of HT_.out (by kernel_rfl)) (fun _ _ _ h => h) (Or.inl ⟨by rfl, ?_⟩) ?_ ?_
               rotate_left
               ·intro w'
                go_simp
                with_reducible rfl
               rotate_left
               ·simp only [Act.put, px_a, px_b, px_c, i64_w, i32_w, px_w256]
                rfl
               refine pure_ (i := 2) (N := some 54) (v := ?_) (a' := ?_) (px_l 3 42) rfl rfl (any_of HT_.out (by kernel_rfl)) (fun _ _ _ h => h) (Or.inl ⟨by rfl, ?_⟩) ?_ ?_
               rotate_left
               ·intro w'
                go_simp
                with_reducible rfl
               rotate_left
               ·simp only [Act.put, px_a, px_b, px_c, i64_w, i32_w, px_w256]
                rfl
               refine take_ (i := 3) (N := some 55) (v := ?_) (a' := ?_) (px_l 4 41) rfl rfl (take_ofW HT_.out HW_.out (by kernel_rfl)) (fun _ _ _ h => h) (Or.inl ⟨by rfl, ?_⟩) hHeld ?_ ?_
               rotate_left
               ·rintro w' ⟨s0, s1, s2, s3⟩
                go_simp
                with_reducible rfl
               rotate_left
               ·simp only [Act.put, px_a, px_b, px_c, i64_w, i32_w, px_w256]
                rfl
               refine pure_ (i := 4) (N := some 56) (v := ?_) (a' := ?_) (px_l 5 40) rfl rfl (any_of HT_.out (by kernel_rfl)) (fun _ _ _ h => h) (Or.inl ⟨by rfl, ?_⟩) ?_ ?_
               rotate_left
               ·intro w'
                go_simp
                with_reducible rfl
               rotate_left
               ·simp only [Act.put, px_a, px_b, px_c, i64_w, i32_w, px_w256]
                rfl
               refine pure_ (i := 5) (N := some 57) (v := ?_) (a' := ?_) (px_l 6 39) rfl rfl (any_of HT_.out (by kernel_rfl)) (fun _ _ _ h => h) (Or.inl ⟨by rfl, ?_⟩) ?_ ?_
               rotate_left
               ·intro w'
                go_simp
                with_reducible rfl
               rotate_left
               ·simp only [Act.put, px_a, px_b, px_c, i64_w, i32_w, px_w256]
                rfl
               refine pure_ (i := 6) (N := some 58) (v := undef) (a' := ?_) (px_l 7 38) rfl rfl (any_of HT_.out (by kernel_rfl)) (fun _ _ _ h => h) (Or.inr ⟨by rfl, rfl⟩) ?_ ?_
               rotate_left
               ·simp only [Act.put, px_a, px_b, px_c, i64_w, i32_w, px_w256]
                rfl
               refine pure_ (i := 7) (N := some 59) (v := undef) (a' := ?_) (px_l 8 37) rfl rfl (any_of HT_.out (by kernel_rfl)) (fun _ _ _ h => h) (Or.inr ⟨by rfl, rfl⟩) ?_ ?_
               rotate_left
               ·simp only [Act.put, px_a, px_b, px_c, i64_w, i32_w, px_w256]
                rfl
               refine pure_ (i := 8) (N := some 60) (v := undef) (a' := ?_) (px_l 9 36) rfl rfl (any_of HT_.out (by kernel_rfl)) (fun _ _ _ h => h) (Or.inr ⟨by rfl, rfl⟩) ?_ ?_
               rotate_left
               ·simp only [Act.put, px_a, px_b, px_c, i64_w, i32_w, px_w256]
                rfl
               refine pure_ (i := 9) (N := some 61) (v := ?_) (a' := ?_) (px_l 10 35) rfl rfl (any_of HT_.out (by kernel_rfl)) (fun _ _ _ h => h) (Or.inl ⟨by rfl, ?_⟩) ?_ ?_
               rotate_left
               ·intro w'
                go_simp
                with_reducible rfl
               rotate_left
               ·simp only [Act.put, px_a, px_b, px_c, i64_w, i32_w, px_w256]
                rfl
               refine pure_ (i := 10) (N := some 62) (v := ?_) (a' := ?_) (px_l 11 34) rfl rfl (any_of HT_.out (by kernel_rfl)) (fun _ _ _ h => h) (Or.inl ⟨by rfl, ?_⟩) ?_ ?_
               rotate_left
               ·intro w'
                go_simp
                with_reducible rfl
               rotate_left
               ·simp only [Act.put, px_a, px_b, px_c, i64_w, i32_w, px_w256]
                rfl
               refine pure_ (i := 11) (N := some 63) (v := ?_) (a' := ?_) (px_l 12 33) rfl rfl (any_of HT_.out (by kernel_rfl)) (fun _ _ _ h => h) (Or.inl ⟨by rfl, ?_⟩) ?_ ?_
               rotate_left
               ·intro w'
                go_simp
                with_reducible rfl
               rotate_left
               ·simp only [Act.put, px_a, px_b, px_c, i64_w, i32_w, px_w256]
                rfl
               refine pure_ (i := 12) (N := some 64) (v := ?_) (a' := ?_) (px_l 13 32) rfl rfl (any_of HT_.out (by kernel_rfl)) (fun _ _ _ h => h) (Or.inl ⟨by rfl, ?_⟩) ?_ ?_
               rotate_left
               ·intro w'
                go_simp
                with_reducible rfl
               rotate_left
               ·simp only [Act.put, px_a, px_b, px_c, i64_w, i32_w, px_w256]
                rfl
               refine pure_ (i := 13) (N := some 65) (v := ?_) (a' := ?_) (px_l 14 31) rfl rfl (any_of HT_.out (by kernel_rfl)) (fun _ _ _ h => h) (Or.inl ⟨by rfl, ?_⟩) ?_ ?_
               rotate_left
               ·intro w'
                go_simp
                with_reducible rfl
               rotate_left
               ·simp only [Act.put, px_a, px_b, px_c, i64_w, i32_w, px_w256]
                rfl
               refine take_ (i := 14) (N := some 66) (v := ?_) (a' := ?_) (px_l 15 30) rfl rfl (take_ofW HT_.out HW_.out (by kernel_rfl)) (fun _ _ _ h => h) (Or.inl ⟨by rfl, ?_⟩) hHeld ?_ ?_
               rotate_left
               ·rintro w' ⟨s0, s1, s2, s3⟩
                go_simp
                with_reducible rfl
               rotate_left
               ·simp only [Act.put, px_a, px_b, px_c, i64_w, i32_w, px_w256]
                rfl
               refine pure_ (i := 15) (N := some 67) (v := ?_) (a' := ?_) (px_l 16 29) rfl rfl (any_of HT_.out (by kernel_rfl)) (fun _ _ _ h => h) (Or.inl ⟨by rfl, ?_⟩) ?_ ?_
               rotate_left
               ·intro w'
                go_simp
                with_reducible rfl
               rotate_left
               ·simp only [Act.put, px_a, px_b, px_c, i64_w, i32_w, px_w256]
                rfl
               refine pure_ (i := 16) (N := some 68) (v := ?_) (a' := ?_) (px_l 17 28) rfl rfl (any_of HT_.out (by kernel_rfl)) (fun _ _ _ h => h) (Or.inl ⟨by rfl, ?_⟩) ?_ ?_
               rotate_left
               ·intro w'
                go_simp
                with_reducible rfl
               rotate_left
               ·simp only [Act.put, px_a, px_b, px_c, i64_w, i32_w, px_w256]
                rfl
               refine pure_ (i := 17) (N := some 69) (v := ?_) (a' := ?_) (px_l 18 27) rfl rfl (any_of HT_.out (by kernel_rfl)) (fun _ _ _ h => h) (Or.inl ⟨by rfl, ?_⟩) ?_ ?_
               rotate_left
               ·intro w'
                go_simp
                with_reducible rfl
               rotate_left
               ·simp only [Act.put, px_a, px_b, px_c, i64_w, i32_w, px_w256]
                rfl
               refine pure_ (i := 18) (N := some 70) (v := ?_) (a' := ?_) (px_l 19 26) rfl rfl (any_of HT_.out (by kernel_rfl)) (fun _ _ _ h => h) (Or.inl ⟨by rfl, ?_⟩) ?_ ?_
               rotate_left
               ·intro w'
                go_simp
                with_reducible rfl
               rotate_left
               ·simp only [Act.put, px_a, px_b, px_c, i64_w, i32_w, px_w256]
                rfl
               refine pure_ (i := 19) (N := some 71) (v := ?_) (a' := ?_) (px_l 20 25) rfl rfl (any_of HT_.out (by kernel_rfl)) (fun _ _ _ h => h) (Or.inl ⟨by rfl, ?_⟩) ?_ ?_
               rotate_left
               ·intro w'
                go_simp
                with_reducible rfl
               rotate_left
               ·simp only [Act.put, px_a, px_b, px_c, i64_w, i32_w, px_w256]
                rfl
               refine pure_ (i := 21) (N := some 73) (v := ?_) (a' := ?_) #[true, true, true, true, true, true, true, true, true, true, true, true, true, true, true, true, true, true, true, true, false, true, false, false, false, false, false, false, false, false, false, false, false, false, false, false, false, false, false, false, false, false, false, false, false] rfl rfl (any_of HT_.out (by kernel_rfl)) (fun _ _ _ h => h) (Or.inl ⟨by rfl, ?_⟩) ?_ ?_
               rotate_left
               ·intro w'
                go_simp
                with_reducible rfl
               rotate_left
               ·simp only [Act.put, px_a, px_b, px_c, i64_w, i32_w, px_w256]
                rfl
               refine pure_ (i := 22) (N := some 74) (v := ?_) (a' := ?_) #[true, true, true, true, true, true, true, true, true, true, true, true, true, true, true, true, true, true, true, true, false, true, true, false, false, false, false, false, false, false, false, false, false, false, false, false, false, false, false, false, false, false, false, false, false] rfl rfl (any_of HT_.out (by kernel_rfl)) (fun _ _ _ h => h) (Or.inl ⟨by rfl, ?_⟩) ?_ ?_
               rotate_left
               ·intro w'
                go_simp
                with_reducible rfl
               rotate_left
               ·simp only [Act.put, px_a, px_b, px_c, i64_w, i32_w, px_w256]
                rfl
               refine pure_ (i := 23) (N := some 75) (v := ?_) (a' := ?_) #[true, true, true, true, true, true, true, true, true, true, true, true, true, true, true, true, true, true, true, true, false, true, true, true, false, false, false, false, false, false, false, false, false, false, false, false, false, false, false, false, false, false, false, false, false] rfl rfl (any_of HT_.out (by kernel_rfl)) (fun _ _ _ h => h) (Or.inl ⟨by rfl, ?_⟩) ?_ ?_
               rotate_left
               ·intro w'
                go_simp
                with_reducible rfl
               rotate_left
               ·simp only [Act.put, px_a, px_b, px_c, i64_w, i32_w, px_w256]
                rfl
               refine take_ (i := 20) (N := some 72) (v := ?_) (a' := ?_) (px_l 24 21) rfl rfl (take_ofW HT_.out HW_.out (by kernel_rfl)) (fun _ _ _ h => h) (Or.inl ⟨by rfl, ?_⟩) hHeld ?_ ?_
               rotate_left
               ·rintro w' ⟨s0, s1, s2, s3⟩
                go_simp
                with_reducible rfl
               rotate_left
               ·simp only [Act.put, px_a, px_b, px_c, i64_w, i32_w, px_w256]
                rfl
               refine take_ (i := 24) (N := some 76) (v := ?_) (a' := ?_) (px_l 25 20) rfl rfl (take_ofW HT_.out HW_.out (by kernel_rfl)) (fun _ _ _ h => h) (Or.inl ⟨by rfl, ?_⟩) hHeld ?_ ?_
               rotate_left
               ·rintro w' ⟨s0, s1, s2, s3⟩
                go_simp
                with_reducible rfl
               rotate_left
               ·simp only [Act.put, px_a, px_b, px_c, i64_w, i32_w, px_w256]
                rfl
               refine pure_ (i := 25) (N := some 77) (v := ?_) (a' := ?_) (px_l 26 19) rfl rfl (any_of HT_.out (by kernel_rfl)) (fun _ _ _ h => h) (Or.inl ⟨by rfl, ?_⟩) ?_ ?_
               rotate_left
               ·intro w'
                go_simp
                with_reducible rfl
               rotate_left
               ·simp only [Act.put, px_a, px_b, px_c, i64_w, i32_w, px_w256]
                rfl
               refine pure_ (i := 26) (N := some 78) (v := ?_) (a' := ?_) (px_l 27 18) rfl rfl (any_of HT_.out (by kernel_rfl)) (fun _ _ _ h => h) (Or.inl ⟨by rfl, ?_⟩) ?_ ?_
               rotate_left
               ·intro w'
                go_simp
                with_reducible rfl
               rotate_left
               ·simp only [Act.put, px_a, px_b, px_c, i64_w, i32_w, px_w256]
                rfl
               refine pure_ (i := 27) (N := some 79) (v := ?_) (a' := ?_) (px_l 28 17) rfl rfl (any_of HT_.out (by kernel_rfl)) (fun _ _ _ h => h) (Or.inl ⟨by rfl, ?_⟩) ?_ ?_
               rotate_left
               ·intro w'
                go_simp
                with_reducible rfl
               rotate_left
               ·simp only [Act.put, px_a, px_b, px_c, i64_w, i32_w, px_w256]
                rfl
               refine pure_ (i := 28) (N := some 80) (v := ?_) (a' := ?_) (px_l 29 16) rfl rfl (any_of HT_.out (by kernel_rfl)) (fun _ _ _ h => h) (Or.inl ⟨by rfl, ?_⟩) ?_ ?_
               rotate_left
               ·intro w'
                go_simp
                with_reducible rfl
               rotate_left
               ·simp only [Act.put, px_a, px_b, px_c, i64_w, i32_w, px_w256]
                rfl
               refine pure_ (i := 29) (N := some 81) (v := ?_) (a' := ?_) (px_l 30 15) rfl rfl (any_of HT_.out (by kernel_rfl)) (fun _ _ _ h => h) (Or.inl ⟨by rfl, ?_⟩) ?_ ?_
               rotate_left
               ·intro w'
                go_simp
                with_reducible rfl
               rotate_left
               ·simp only [Act.put, px_a, px_b, px_c, i64_w, i32_w, px_w256]
                rfl
               refine pure_ (i := 30) (N := some 82) (v := ?_) (a' := ?_) (px_l 31 14) rfl rfl (any_of HT_.out (by kernel_rfl)) (fun _ _ _ h => h) (Or.inl ⟨by rfl, ?_⟩) ?_ ?_
               rotate_left
               ·intro w'
                go_simp
                with_reducible rfl
               rotate_left
               ·simp only [Act.put, px_a, px_b, px_c, i64_w, i32_w, px_w256]
                rfl
               refine pure_ (i := 31) (N := some 83) (v := ?_) (a' := ?_) (px_l 32 13) rfl rfl (any_of HT_.out (by kernel_rfl)) (fun _ _ _ h => h) (Or.inl ⟨by rfl, ?_⟩) ?_ ?_
               rotate_left
               ·intro w'
                go_simp
                with_reducible rfl
               rotate_left
               ·simp only [Act.put, px_a, px_b, px_c, i64_w, i32_w, px_w256]
                rfl
               refine pure_ (i := 32) (N := some 84) (v := undef) (a' := ?_) (px_l 33 12) rfl rfl (any_of HT_.out (by kernel_rfl)) (fun _ _ _ h => h) (Or.inr ⟨by rfl, rfl⟩) ?_ ?_
               rotate_left
               ·simp only [Act.put, px_a, px_b, px_c, i64_w, i32_w, px_w256]
                rfl
               refine pure_ (i := 33) (N := some 85) (v := undef) (a' := ?_) (px_l 34 11) rfl rfl (any_of HT_.out (by kernel_rfl)) (fun _ _ _ h => h) (Or.inr ⟨by rfl, rfl⟩) ?_ ?_
               rotate_left
               ·simp only [Act.put, px_a, px_b, px_c, i64_w, i32_w, px_w256]
                rfl
               refine pure_ (i := 34) (N := some 86) (v := undef) (a' := ?_) (px_l 35 10) rfl rfl (any_of HT_.out (by kernel_rfl)) (fun _ _ _ h => h) (Or.inr ⟨by rfl, rfl⟩) ?_ ?_
               rotate_left
               ·simp only [Act.put, px_a, px_b, px_c, i64_w, i32_w, px_w256]
                rfl
               refine pure_ (i := 35) (N := some 87) (v := undef) (a' := ?_) (px_l 36 9) rfl rfl (any_of HT_.out (by kernel_rfl)) (fun _ _ _ h => h) (Or.inr ⟨by rfl, rfl⟩) ?_ ?_
               rotate_left
               ·simp only [Act.put, px_a, px_b, px_c, i64_w, i32_w, px_w256]
                rfl
               refine pure_ (i := 36) (N := some 88) (v := undef) (a' := ?_) (px_l 37 8) rfl rfl (any_of HT_.out (by kernel_rfl)) (fun _ _ _ h => h) (Or.inr ⟨by rfl, rfl⟩) ?_ ?_
               rotate_left
               ·simp only [Act.put, px_a, px_b, px_c, i64_w, i32_w, px_w256]
                rfl
               refine pure_ (i := 37) (N := some 89) (v := ?_) (a' := ?_) (px_l 38 7) rfl rfl (any_of HT_.out (by kernel_rfl)) (fun _ _ _ h => h) (Or.inl ⟨by rfl, ?_⟩) ?_ ?_
               rotate_left
               ·intro w'
                go_simp
                with_reducible rfl
               rotate_left
               ·simp only [Act.put, px_a, px_b, px_c, i64_w, i32_w, px_w256]
                rfl
               refine pure_ (i := 38) (N := some 90) (v := ?_) (a' := ?_) (px_l 39 6) rfl rfl (any_of HT_.out (by kernel_rfl)) (fun _ _ _ h => h) (Or.inl ⟨by rfl, ?_⟩) ?_ ?_
               rotate_left
               ·intro w'
                go_simp
                with_reducible rfl
               rotate_left
               ·simp only [Act.put, px_a, px_b, px_c, i64_w, i32_w, px_w256]
                rfl
               refine pure_ (i := 39) (N := some 91) (v := undef) (a' := ?_) (px_l 40 5) rfl rfl (any_of HT_.out (by kernel_rfl)) (fun _ _ _ h => h) (Or.inr ⟨by rfl, rfl⟩) ?_ ?_
               rotate_left
               ·simp only [Act.put, px_a, px_b, px_c, i64_w, i32_w, px_w256]
                rfl
               refine pure_ (i := 40) (N := some 92) (v := undef) (a' := ?_) (px_l 41 4) rfl rfl (any_of HT_.out (by kernel_rfl)) (fun _ _ _ h => h) (Or.inr ⟨by rfl, rfl⟩) ?_ ?_
               rotate_left
               ·simp only [Act.put, px_a, px_b, px_c, i64_w, i32_w, px_w256]
                rfl
               refine pure_ (i := 41) (N := some 93) (v := undef) (a' := ?_) (px_l 42 3) rfl rfl (any_of HT_.out (by kernel_rfl)) (fun _ _ _ h => h) (Or.inr ⟨by rfl, rfl⟩) ?_ ?_
               rotate_left
               ·simp only [Act.put, px_a, px_b, px_c, i64_w, i32_w, px_w256]
                rfl
               refine pure_ (i := 42) (N := some 94) (v := undef) (a' := ?_) (px_l 43 2) rfl rfl (any_of HT_.out (by kernel_rfl)) (fun _ _ _ h => h) (Or.inr ⟨by rfl, rfl⟩) ?_ ?_
               rotate_left
               ·simp only [Act.put, px_a, px_b, px_c, i64_w, i32_w, px_w256]
                rfl
               refine pure_ (i := 43) (N := some 95) (v := ?_) (a' := ?_) (px_l 44 1) rfl rfl (any_of HT_.out (by kernel_rfl)) (fun _ _ _ h => h) (Or.inl ⟨by rfl, ?_⟩) ?_ ?_
               rotate_left
               ·intro w'
                go_simp
                with_reducible rfl
               rotate_left
               ·simp only [Act.put, px_a, px_b, px_c, i64_w, i32_w, px_w256]
                rfl
               refine pure_ (i := 44) (N := some 96) (v := ?_) (a' := ?_) (px_l 45 0) rfl rfl (any_of HT_.out (by kernel_rfl)) (fun _ _ _ h => h) (Or.inl ⟨by rfl, ?_⟩) ?_ ?_
               rotate_left
               ·intro w'
                go_simp
                with_reducible rfl
               rotate_left
               ·simp only [Act.put, px_a, px_b, px_c, i64_w, i32_w, px_w256]
                rfl
               refine done_ (done_of HT_.out (by kernel_rfl)) ?_
               try go_wp2
               go_meet
               case rel => exact ⟨_, (false), (by first | rfl | (simp; done) | (simp [*]; done)), H', ⟨by have := HJ6.out; have := HK2.out; first | omega | exact Nat.le_refl _⟩, ⟨by (with_reducible repeat (first | apply Kd.R_alloc | apply Kd.R_drewN | apply Kd.R_drew)); exact HO_5.out⟩, ⟨by (with_reducible repeat (first | apply Kd.R_alloc | apply Kd.R_drewN | apply Kd.R_drew)); exact HO_7.out⟩, ⟨by (with_reducible repeat (first | apply Kd.R_alloc | apply Kd.R_drewN | apply Kd.R_drew)); exact HO_10.out⟩, ⟨by repeat (first | (with_reducible first | exact HB.out | apply below_alloc | apply pw_below_drewN | apply below_drew1) | exact HB.out)⟩⟩
            ·rw [if_neg c45] at H
             exact absurd H (by simp)
           ·rw [if_neg c44] at H
            have c44b0 : decide (0 ≤ (rd t448 x11_2)) = false := decide_eq_false c44
            clear c44
            by_cases c53 : t441 = 2
            ·rw [if_pos c53] at H
             have c53b0 : (t441 == 2) = true := beq_iff_eq.mpr c53
             have c53b1 : (t441 != 2) = false := bne_eq_false_iff_eq.mpr c53
             clear c53
             have H' := Aside0.mk H
             clear H
             try go_wp2
             have n0_ := Aside0.mk (Kd.R_drew HO_5.out)
             have n1_ := Aside0.mk (Kd.R_drew HO_7.out)
             have n2_ := Aside0.mk (Kd.R_drew HO_10.out)
             have n3_ := Aside0.mk (below_drew1 HB.out)
             clear HO_5
             clear HO_7
             clear HO_10
             clear HB
             have HO_5 := n0_
             have HO_7 := n1_
             have HO_10 := n2_
             have HB := n3_
             clear n0_ n1_ n2_ n3_
             have p458 : 0 ≤ (x11_2 : Int) := of_decide_eq_true (by first | (with_reducible assumption) | assumption)
             have q458 : x11_2 < (t448.length : Int) := of_decide_eq_true (by first | (with_reducible assumption) | assumption)
             obtain ⟨ad458, e458, hx458_0⟩ := Kd.at_int (Kd.R_reads' HO_7.out).2.2 x11_2 p458 q458
             cases e458
             replace p458 := eq_true p458
             replace q458 := eq_true q458
             have p466 : 0 ≤ (x11_2 : Int) := of_decide_eq_true (by first | (with_reducible assumption) | assumption)
             have q466 : x11_2 < (t448.length : Int) := of_decide_eq_true (by first | (with_reducible assumption) | assumption)
             obtain ⟨ad466, e466, hx466_0⟩ := Kd.at_int (Kd.R_reads' HO_7.out).2.2 x11_2 p466 q466
             obtain rfl : ad458 = ad466 := (by injection e466)
             replace p466 := eq_true p466
             replace q466 := eq_true q466
             have p471 : 0 ≤ (x11_2 : Int) := of_decide_eq_true (by first | (with_reducible assumption) | assumption)
             have q471 : x11_2 < (t448.length : Int) := of_decide_eq_true (by first | (with_reducible assumption) | assumption)
             obtain ⟨ad471, e471, hx471_0⟩ := Kd.at_int (Kd.R_reads' HO_7.out).2.2 x11_2 p471 q471
             obtain rfl : ad458 = ad471 := (by injection e471)
             replace p471 := eq_true p471
             replace q471 := eq_true q471
             refine start_ (n := 45) (S := fun w' => w'.cell? (ad458.add (x11_2).toNat) = some (.int .i64 (rd t448 x11_2)) ∧ w'.cell? (ad458.add (x11_2).toNat) = some (.int .i64 (rd t448 x11_2)) ∧ w'.cell? (ad458.add (x11_2).toNat) = some (.int .i64 (rd t448 x11_2))) (ds := []) (px_l 0 45) (by kernel_rfl) rfl rfl ⟨hx458_0, hx466_0, hx471_0⟩ (fun hHeld => ?_); refine with_tabW laws_FnCollectUpTo.tab13 laws_FnCollectUpTo.bits13 (fun HT_ HW_ => ?_)
             generalize wr.drew = w54 at HO_5 HO_7 HO_10 HB hx458_0 hx466_0 hx471_0 hHeld ⊢
             refine pure_ (i := 0) (N := some 52) (v := ?_) (a' := ?_) (px_l 1 44) rfl rfl (any_of HT_.out (by kernel_rfl)) (fun _ _ _ h => h) (Or.inl ⟨by rfl, ?_⟩) ?_ ?_
             rotate_left
             ·intro w'
              go_simp
              with_reducible rfl
             rotate_left
             ·simp only [Act.put, px_a, px_b, px_c, i64_w, i32_w, px_w256]
              rfl
             refine pure_ (i := 1) (N := some 53) (v := ?_) (a' := ?_) (px_l 2 43) rfl rfl (any_of HT_.out (by kernel_rfl)) (fun _ _ _ h => h) (Or.inl ⟨by rfl, ?_⟩) ?_ ?_
             rotate_left
             ·intro w'
              go_simp
              with_reducible rfl
             rotate_left
             ·simp only [Act.put, px_a, px_b, px_c, i64_w, i32_w, px_w256]
              rfl
             refine pure_ (i := 2) (N := some 54) (v := ?_) (a' := ?_) (px_l 3 42) rfl rfl (any_of HT_.out (by kernel_rfl)) (fun _ _ _ h => h) (Or.inl ⟨by rfl, ?_⟩) ?_ ?_
             rotate_left
             ·intro w'
              go_simp
              with_reducible rfl
             rotate_left
             ·simp only [Act.put, px_a, px_b, px_c, i64_w, i32_w, px_w256]
              rfl
             refine take_ (i := 3) (N := some 55) (v := ?_) (a' := ?_) (px_l 4 41) rfl rfl (take_ofW HT_.out HW_.out (by kernel_rfl)) (fun _ _ _ h => h) (Or.inl ⟨by rfl, ?_⟩) hHeld ?_ ?_
             rotate_left
             ·rintro w' ⟨s0, s1, s2⟩
              go_simp
              with_reducible rfl
             rotate_left
             ·simp only [Act.put, px_a, px_b, px_c, i64_w, i32_w, px_w256]
              rfl
             refine pure_ (i := 4) (N := some 56) (v := ?_) (a' := ?_) (px_l 5 40) rfl rfl (any_of HT_.out (by kernel_rfl)) (fun _ _ _ h => h) (Or.inl ⟨by rfl, ?_⟩) ?_ ?_
             rotate_left
             ·intro w'
              go_simp
              with_reducible rfl
             rotate_left
             ·simp only [Act.put, px_a, px_b, px_c, i64_w, i32_w, px_w256]
              rfl
             refine pure_ (i := 5) (N := some 57) (v := ?_) (a' := ?_) (px_l 6 39) rfl rfl (any_of HT_.out (by kernel_rfl)) (fun _ _ _ h => h) (Or.inl ⟨by rfl, ?_⟩) ?_ ?_
             rotate_left
             ·intro w'
              go_simp
              with_reducible rfl
             rotate_left
             ·simp only [Act.put, px_a, px_b, px_c, i64_w, i32_w, px_w256]
              rfl
             refine pure_ (i := 6) (N := some 58) (v := undef) (a' := ?_) (px_l 7 38) rfl rfl (any_of HT_.out (by kernel_rfl)) (fun _ _ _ h => h) (Or.inr ⟨by rfl, rfl⟩) ?_ ?_
             rotate_left
             ·simp only [Act.put, px_a, px_b, px_c, i64_w, i32_w, px_w256]
              rfl
             refine pure_ (i := 7) (N := some 59) (v := undef) (a' := ?_) (px_l 8 37) rfl rfl (any_of HT_.out (by kernel_rfl)) (fun _ _ _ h => h) (Or.inr ⟨by rfl, rfl⟩) ?_ ?_
             rotate_left
             ·simp only [Act.put, px_a, px_b, px_c, i64_w, i32_w, px_w256]
              rfl
             refine pure_ (i := 8) (N := some 60) (v := undef) (a' := ?_) (px_l 9 36) rfl rfl (any_of HT_.out (by kernel_rfl)) (fun _ _ _ h => h) (Or.inr ⟨by rfl, rfl⟩) ?_ ?_
             rotate_left
             ·simp only [Act.put, px_a, px_b, px_c, i64_w, i32_w, px_w256]
              rfl
             refine pure_ (i := 9) (N := some 61) (v := ?_) (a' := ?_) (px_l 10 35) rfl rfl (any_of HT_.out (by kernel_rfl)) (fun _ _ _ h => h) (Or.inl ⟨by rfl, ?_⟩) ?_ ?_
             rotate_left
             ·intro w'
              go_simp
              with_reducible rfl
             rotate_left
             ·simp only [Act.put, px_a, px_b, px_c, i64_w, i32_w, px_w256]
              rfl
             refine pure_ (i := 10) (N := some 62) (v := ?_) (a' := ?_) (px_l 11 34) rfl rfl (any_of HT_.out (by kernel_rfl)) (fun _ _ _ h => h) (Or.inl ⟨by rfl, ?_⟩) ?_ ?_
             rotate_left
             ·intro w'
              go_simp
              with_reducible rfl
             rotate_left
             ·simp only [Act.put, px_a, px_b, px_c, i64_w, i32_w, px_w256]
              rfl
             refine pure_ (i := 11) (N := some 63) (v := ?_) (a' := ?_) (px_l 12 33) rfl rfl (any_of HT_.out (by kernel_rfl)) (fun _ _ _ h => h) (Or.inl ⟨by rfl, ?_⟩) ?_ ?_
             rotate_left
             ·intro w'
              go_simp
              with_reducible rfl
             rotate_left
             ·simp only [Act.put, px_a, px_b, px_c, i64_w, i32_w, px_w256]
              rfl
             refine pure_ (i := 12) (N := some 64) (v := ?_) (a' := ?_) (px_l 13 32) rfl rfl (any_of HT_.out (by kernel_rfl)) (fun _ _ _ h => h) (Or.inl ⟨by rfl, ?_⟩) ?_ ?_
             rotate_left
             ·intro w'
              go_simp
              with_reducible rfl
             rotate_left
             ·simp only [Act.put, px_a, px_b, px_c, i64_w, i32_w, px_w256]
              rfl
             refine pure_ (i := 13) (N := some 65) (v := ?_) (a' := ?_) (px_l 14 31) rfl rfl (any_of HT_.out (by kernel_rfl)) (fun _ _ _ h => h) (Or.inl ⟨by rfl, ?_⟩) ?_ ?_
             rotate_left
             ·intro w'
              go_simp
              with_reducible rfl
             rotate_left
             ·simp only [Act.put, px_a, px_b, px_c, i64_w, i32_w, px_w256]
              rfl
             refine take_ (i := 14) (N := some 66) (v := ?_) (a' := ?_) (px_l 15 30) rfl rfl (take_ofW HT_.out HW_.out (by kernel_rfl)) (fun _ _ _ h => h) (Or.inl ⟨by rfl, ?_⟩) hHeld ?_ ?_
             rotate_left
             ·rintro w' ⟨s0, s1, s2⟩
              go_simp
              with_reducible rfl
             rotate_left
             ·simp only [Act.put, px_a, px_b, px_c, i64_w, i32_w, px_w256]
              rfl
             refine pure_ (i := 15) (N := some 67) (v := ?_) (a' := ?_) (px_l 16 29) rfl rfl (any_of HT_.out (by kernel_rfl)) (fun _ _ _ h => h) (Or.inl ⟨by rfl, ?_⟩) ?_ ?_
             rotate_left
             ·intro w'
              go_simp
              with_reducible rfl
             rotate_left
             ·simp only [Act.put, px_a, px_b, px_c, i64_w, i32_w, px_w256]
              rfl
             refine pure_ (i := 16) (N := some 68) (v := ?_) (a' := ?_) (px_l 17 28) rfl rfl (any_of HT_.out (by kernel_rfl)) (fun _ _ _ h => h) (Or.inl ⟨by rfl, ?_⟩) ?_ ?_
             rotate_left
             ·intro w'
              go_simp
              with_reducible rfl
             rotate_left
             ·simp only [Act.put, px_a, px_b, px_c, i64_w, i32_w, px_w256]
              rfl
             refine pure_ (i := 17) (N := some 69) (v := undef) (a' := ?_) (px_l 18 27) rfl rfl (any_of HT_.out (by kernel_rfl)) (fun _ _ _ h => h) (Or.inr ⟨by rfl, rfl⟩) ?_ ?_
             rotate_left
             ·simp only [Act.put, px_a, px_b, px_c, i64_w, i32_w, px_w256]
              rfl
             refine pure_ (i := 18) (N := some 70) (v := undef) (a' := ?_) (px_l 19 26) rfl rfl (any_of HT_.out (by kernel_rfl)) (fun _ _ _ h => h) (Or.inr ⟨by rfl, rfl⟩) ?_ ?_
             rotate_left
             ·simp only [Act.put, px_a, px_b, px_c, i64_w, i32_w, px_w256]
              rfl
             refine pure_ (i := 19) (N := some 71) (v := undef) (a' := ?_) (px_l 20 25) rfl rfl (any_of HT_.out (by kernel_rfl)) (fun _ _ _ h => h) (Or.inr ⟨by rfl, rfl⟩) ?_ ?_
             rotate_left
             ·simp only [Act.put, px_a, px_b, px_c, i64_w, i32_w, px_w256]
              rfl
             refine pure_ (i := 20) (N := some 72) (v := undef) (a' := ?_) (px_l 21 24) rfl rfl (any_of HT_.out (by kernel_rfl)) (fun _ _ _ h => h) (Or.inr ⟨by rfl, rfl⟩) ?_ ?_
             rotate_left
             ·simp only [Act.put, px_a, px_b, px_c, i64_w, i32_w, px_w256]
              rfl
             refine pure_ (i := 21) (N := some 73) (v := undef) (a' := ?_) (px_l 22 23) rfl rfl (any_of HT_.out (by kernel_rfl)) (fun _ _ _ h => h) (Or.inr ⟨by rfl, rfl⟩) ?_ ?_
             rotate_left
             ·simp only [Act.put, px_a, px_b, px_c, i64_w, i32_w, px_w256]
              rfl
             refine pure_ (i := 22) (N := some 74) (v := undef) (a' := ?_) (px_l 23 22) rfl rfl (any_of HT_.out (by kernel_rfl)) (fun _ _ _ h => h) (Or.inr ⟨by rfl, rfl⟩) ?_ ?_
             rotate_left
             ·simp only [Act.put, px_a, px_b, px_c, i64_w, i32_w, px_w256]
              rfl
             refine pure_ (i := 23) (N := some 75) (v := undef) (a' := ?_) (px_l 24 21) rfl rfl (any_of HT_.out (by kernel_rfl)) (fun _ _ _ h => h) (Or.inr ⟨by rfl, rfl⟩) ?_ ?_
             rotate_left
             ·simp only [Act.put, px_a, px_b, px_c, i64_w, i32_w, px_w256]
              rfl
             refine pure_ (i := 24) (N := some 76) (v := undef) (a' := ?_) (px_l 25 20) rfl rfl (any_of HT_.out (by kernel_rfl)) (fun _ _ _ h => h) (Or.inr ⟨by rfl, rfl⟩) ?_ ?_
             rotate_left
             ·simp only [Act.put, px_a, px_b, px_c, i64_w, i32_w, px_w256]
              rfl
             refine pure_ (i := 25) (N := some 77) (v := undef) (a' := ?_) (px_l 26 19) rfl rfl (any_of HT_.out (by kernel_rfl)) (fun _ _ _ h => h) (Or.inr ⟨by rfl, rfl⟩) ?_ ?_
             rotate_left
             ·simp only [Act.put, px_a, px_b, px_c, i64_w, i32_w, px_w256]
              rfl
             refine pure_ (i := 26) (N := some 78) (v := ?_) (a' := ?_) (px_l 27 18) rfl rfl (any_of HT_.out (by kernel_rfl)) (fun _ _ _ h => h) (Or.inl ⟨by rfl, ?_⟩) ?_ ?_
             rotate_left
             ·intro w'
              go_simp
              with_reducible rfl
             rotate_left
             ·simp only [Act.put, px_a, px_b, px_c, i64_w, i32_w, px_w256]
              rfl
             refine pure_ (i := 27) (N := some 79) (v := ?_) (a' := ?_) (px_l 28 17) rfl rfl (any_of HT_.out (by kernel_rfl)) (fun _ _ _ h => h) (Or.inl ⟨by rfl, ?_⟩) ?_ ?_
             rotate_left
             ·intro w'
              go_simp
              with_reducible rfl
             rotate_left
             ·simp only [Act.put, px_a, px_b, px_c, i64_w, i32_w, px_w256]
              rfl
             refine pure_ (i := 28) (N := some 80) (v := ?_) (a' := ?_) (px_l 29 16) rfl rfl (any_of HT_.out (by kernel_rfl)) (fun _ _ _ h => h) (Or.inl ⟨by rfl, ?_⟩) ?_ ?_
             rotate_left
             ·intro w'
              go_simp
              with_reducible rfl
             rotate_left
             ·simp only [Act.put, px_a, px_b, px_c, i64_w, i32_w, px_w256]
              rfl
             refine pure_ (i := 29) (N := some 81) (v := ?_) (a' := ?_) (px_l 30 15) rfl rfl (any_of HT_.out (by kernel_rfl)) (fun _ _ _ h => h) (Or.inl ⟨by rfl, ?_⟩) ?_ ?_
             rotate_left
             ·intro w'
              go_simp
              with_reducible rfl
             rotate_left
             ·simp only [Act.put, px_a, px_b, px_c, i64_w, i32_w, px_w256]
              rfl
             refine pure_ (i := 30) (N := some 82) (v := ?_) (a' := ?_) (px_l 31 14) rfl rfl (any_of HT_.out (by kernel_rfl)) (fun _ _ _ h => h) (Or.inl ⟨by rfl, ?_⟩) ?_ ?_
             rotate_left
             ·intro w'
              go_simp
              with_reducible rfl
             rotate_left
             ·simp only [Act.put, px_a, px_b, px_c, i64_w, i32_w, px_w256]
              rfl
             refine pure_ (i := 31) (N := some 83) (v := ?_) (a' := ?_) (px_l 32 13) rfl rfl (any_of HT_.out (by kernel_rfl)) (fun _ _ _ h => h) (Or.inl ⟨by rfl, ?_⟩) ?_ ?_
             rotate_left
             ·intro w'
              go_simp
              with_reducible rfl
             rotate_left
             ·simp only [Act.put, px_a, px_b, px_c, i64_w, i32_w, px_w256]
              rfl
             refine pure_ (i := 32) (N := some 84) (v := ?_) (a' := ?_) (px_l 33 12) rfl rfl (any_of HT_.out (by kernel_rfl)) (fun _ _ _ h => h) (Or.inl ⟨by rfl, ?_⟩) ?_ ?_
             rotate_left
             ·intro w'
              go_simp
              with_reducible rfl
             rotate_left
             ·simp only [Act.put, px_a, px_b, px_c, i64_w, i32_w, px_w256]
              rfl
             refine pure_ (i := 33) (N := some 85) (v := ?_) (a' := ?_) (px_l 34 11) rfl rfl (any_of HT_.out (by kernel_rfl)) (fun _ _ _ h => h) (Or.inl ⟨by rfl, ?_⟩) ?_ ?_
             rotate_left
             ·intro w'
              go_simp
              with_reducible rfl
             rotate_left
             ·simp only [Act.put, px_a, px_b, px_c, i64_w, i32_w, px_w256]
              rfl
             refine pure_ (i := 34) (N := some 86) (v := ?_) (a' := ?_) (px_l 35 10) rfl rfl (any_of HT_.out (by kernel_rfl)) (fun _ _ _ h => h) (Or.inl ⟨by rfl, ?_⟩) ?_ ?_
             rotate_left
             ·intro w'
              go_simp
              with_reducible rfl
             rotate_left
             ·simp only [Act.put, px_a, px_b, px_c, i64_w, i32_w, px_w256]
              rfl
             refine take_ (i := 35) (N := some 87) (v := ?_) (a' := ?_) (px_l 36 9) rfl rfl (take_ofW HT_.out HW_.out (by kernel_rfl)) (fun _ _ _ h => h) (Or.inl ⟨by rfl, ?_⟩) hHeld ?_ ?_
             rotate_left
             ·rintro w' ⟨s0, s1, s2⟩
              go_simp
              with_reducible rfl
             rotate_left
             ·simp only [Act.put, px_a, px_b, px_c, i64_w, i32_w, px_w256]
              rfl
             refine pure_ (i := 36) (N := some 88) (v := ?_) (a' := ?_) (px_l 37 8) rfl rfl (any_of HT_.out (by kernel_rfl)) (fun _ _ _ h => h) (Or.inl ⟨by rfl, ?_⟩) ?_ ?_
             rotate_left
             ·intro w'
              go_simp
              with_reducible rfl
             rotate_left
             ·simp only [Act.put, px_a, px_b, px_c, i64_w, i32_w, px_w256]
              rfl
             refine pure_ (i := 37) (N := some 89) (v := ?_) (a' := ?_) (px_l 38 7) rfl rfl (any_of HT_.out (by kernel_rfl)) (fun _ _ _ h => h) (Or.inl ⟨by rfl, ?_⟩) ?_ ?_
             rotate_left
             ·intro w'
              go_simp
              with_reducible rfl
             rotate_left
             ·simp only [Act.put, px_a, px_b, px_c, i64_w, i32_w, px_w256]
              rfl
             refine pure_ (i := 38) (N := some 90) (v := ?_) (a' := ?_) (px_l 39 6) rfl rfl (any_of HT_.out (by kernel_rfl)) (fun _ _ _ h => h) (Or.inl ⟨by rfl, ?_⟩) ?_ ?_
             rotate_left
             ·intro w'
              go_simp
              with_reducible rfl
             rotate_left
             ·simp only [Act.put, px_a, px_b, px_c, i64_w, i32_w, px_w256]
              rfl
             refine pure_ (i := 39) (N := some 91) (v := undef) (a' := ?_) (px_l 40 5) rfl rfl (any_of HT_.out (by kernel_rfl)) (fun _ _ _ h => h) (Or.inr ⟨by rfl, rfl⟩) ?_ ?_
             rotate_left
             ·simp only [Act.put, px_a, px_b, px_c, i64_w, i32_w, px_w256]
              rfl
             refine pure_ (i := 40) (N := some 92) (v := undef) (a' := ?_) (px_l 41 4) rfl rfl (any_of HT_.out (by kernel_rfl)) (fun _ _ _ h => h) (Or.inr ⟨by rfl, rfl⟩) ?_ ?_
             rotate_left
             ·simp only [Act.put, px_a, px_b, px_c, i64_w, i32_w, px_w256]
              rfl
             refine pure_ (i := 41) (N := some 93) (v := undef) (a' := ?_) (px_l 42 3) rfl rfl (any_of HT_.out (by kernel_rfl)) (fun _ _ _ h => h) (Or.inr ⟨by rfl, rfl⟩) ?_ ?_
             rotate_left
             ·simp only [Act.put, px_a, px_b, px_c, i64_w, i32_w, px_w256]
              rfl
             refine pure_ (i := 42) (N := some 94) (v := undef) (a' := ?_) (px_l 43 2) rfl rfl (any_of HT_.out (by kernel_rfl)) (fun _ _ _ h => h) (Or.inr ⟨by rfl, rfl⟩) ?_ ?_
             rotate_left
             ·simp only [Act.put, px_a, px_b, px_c, i64_w, i32_w, px_w256]
              rfl
             refine pure_ (i := 43) (N := some 95) (v := ?_) (a' := ?_) (px_l 44 1) rfl rfl (any_of HT_.out (by kernel_rfl)) (fun _ _ _ h => h) (Or.inl ⟨by rfl, ?_⟩) ?_ ?_
             rotate_left
             ·intro w'
              go_simp
              with_reducible rfl
             rotate_left
             ·simp only [Act.put, px_a, px_b, px_c, i64_w, i32_w, px_w256]
              rfl
             refine pure_ (i := 44) (N := some 96) (v := ?_) (a' := ?_) (px_l 45 0) rfl rfl (any_of HT_.out (by kernel_rfl)) (fun _ _ _ h => h) (Or.inl ⟨by rfl, ?_⟩) ?_ ?_
             rotate_left
             ·intro w'
              go_simp
              with_reducible rfl
             rotate_left
             ·simp only [Act.put, px_a, px_b, px_c, i64_w, i32_w, px_w256]
              rfl
             refine done_ (done_of HT_.out (by kernel_rfl)) ?_
             try go_wp2
             go_meet
             case rel => exact ⟨_, (false), (by first | rfl | (simp; done) | (simp [*]; done)), H', ⟨by have := HJ6.out; have := HK2.out; first | omega | exact Nat.le_refl _⟩, ⟨by (with_reducible repeat (first | apply Kd.R_alloc | apply Kd.R_drewN | apply Kd.R_drew)); exact HO_5.out⟩, ⟨by (with_reducible repeat (first | apply Kd.R_alloc | apply Kd.R_drewN | apply Kd.R_drew)); exact HO_7.out⟩, ⟨by (with_reducible repeat (first | apply Kd.R_alloc | apply Kd.R_drewN | apply Kd.R_drew)); exact HO_10.out⟩, ⟨by repeat (first | (with_reducible first | exact HB.out | apply below_alloc | apply pw_below_drewN | apply below_drew1) | exact HB.out)⟩⟩
            ·rw [if_neg c53] at H
             have c53b0 : (t441 == 2) = false := beq_eq_false_iff_ne.mpr c53
             have c53b1 : (t441 != 2) = true := bne_iff_ne.mpr c53
             have H' := Aside0.mk H
             clear H
             try go_wp2
             have n0_ := Aside0.mk (Kd.R_drew HO_5.out)
             have n1_ := Aside0.mk (Kd.R_drew HO_7.out)
             have n2_ := Aside0.mk (Kd.R_drew HO_10.out)
             have n3_ := Aside0.mk (below_drew1 HB.out)
             clear HO_5
             clear HO_7
             clear HO_10
             clear HB
             have HO_5 := n0_
             have HO_7 := n1_
             have HO_10 := n2_
             have HB := n3_
             clear n0_ n1_ n2_ n3_
             have p458 : 0 ≤ (x11_2 : Int) := of_decide_eq_true (by first | (with_reducible assumption) | assumption)
             have q458 : x11_2 < (t448.length : Int) := of_decide_eq_true (by first | (with_reducible assumption) | assumption)
             obtain ⟨ad458, e458, hx458_0⟩ := Kd.at_int (Kd.R_reads' HO_7.out).2.2 x11_2 p458 q458
             cases e458
             replace p458 := eq_true p458
             replace q458 := eq_true q458
             have p466 : 0 ≤ (x11_2 : Int) := of_decide_eq_true (by first | (with_reducible assumption) | assumption)
             have q466 : x11_2 < (t448.length : Int) := of_decide_eq_true (by first | (with_reducible assumption) | assumption)
             obtain ⟨ad466, e466, hx466_0⟩ := Kd.at_int (Kd.R_reads' HO_7.out).2.2 x11_2 p466 q466
             obtain rfl : ad458 = ad466 := (by injection e466)
             replace p466 := eq_true p466
             replace q466 := eq_true q466
             refine start_ (n := 45) (S := fun w' => w'.cell? (ad458.add (x11_2).toNat) = some (.int .i64 (rd t448 x11_2)) ∧ w'.cell? (ad458.add (x11_2).toNat) = some (.int .i64 (rd t448 x11_2))) (ds := []) (px_l 0 45) (by kernel_rfl) rfl rfl ⟨hx458_0, hx466_0⟩ (fun hHeld => ?_); refine with_tabW laws_FnCollectUpTo.tab13 laws_FnCollectUpTo.bits13 (fun HT_ HW_ => ?_)
             generalize wr.drew = w55 at HO_5 HO_7 HO_10 HB hx458_0 hx466_0 hHeld ⊢
             refine pure_ (i := 0) (N := some 52) (v := ?_) (a' := ?_) (px_l 1 44) rfl rfl (any_of HT_.out (by kernel_rfl)) (fun _ _ _ h => h) (Or.inl ⟨by rfl, ?_⟩) ?_ ?_
             rotate_left
             ·intro w'
              go_simp
              with_reducible rfl
             rotate_left
             ·simp only [Act.put, px_a, px_b, px_c, i64_w, i32_w, px_w256]
              rfl
             refine pure_ (i := 1) (N := some 53) (v := ?_) (a' := ?_) (px_l 2 43) rfl rfl (any_of HT_.out (by kernel_rfl)) (fun _ _ _ h => h) (Or.inl ⟨by rfl, ?_⟩) ?_ ?_
             rotate_left
             ·intro w'
              go_simp
              with_reducible rfl
             rotate_left
             ·simp only [Act.put, px_a, px_b, px_c, i64_w, i32_w, px_w256]
              rfl
             refine pure_ (i := 2) (N := some 54) (v := ?_) (a' := ?_) (px_l 3 42) rfl rfl (any_of HT_.out (by kernel_rfl)) (fun _ _ _ h => h) (Or.inl ⟨by rfl, ?_⟩) ?_ ?_
             rotate_left
             ·intro w'
              go_simp
              with_reducible rfl
             rotate_left
             ·simp only [Act.put, px_a, px_b, px_c, i64_w, i32_w, px_w256]
              rfl
             refine take_ (i := 3) (N := some 55) (v := ?_) (a' := ?_) (px_l 4 41) rfl rfl (take_ofW HT_.out HW_.out (by kernel_rfl)) (fun _ _ _ h => h) (Or.inl ⟨by rfl, ?_⟩) hHeld ?_ ?_
             rotate_left
             ·rintro w' ⟨s0, s1⟩
              go_simp
              with_reducible rfl
             rotate_left
             ·simp only [Act.put, px_a, px_b, px_c, i64_w, i32_w, px_w256]
              rfl
             refine pure_ (i := 4) (N := some 56) (v := ?_) (a' := ?_) (px_l 5 40) rfl rfl (any_of HT_.out (by kernel_rfl)) (fun _ _ _ h => h) (Or.inl ⟨by rfl, ?_⟩) ?_ ?_
             rotate_left
             ·intro w'
              go_simp
              with_reducible rfl
             rotate_left
             ·simp only [Act.put, px_a, px_b, px_c, i64_w, i32_w, px_w256]
              rfl
             refine pure_ (i := 5) (N := some 57) (v := ?_) (a' := ?_) (px_l 6 39) rfl rfl (any_of HT_.out (by kernel_rfl)) (fun _ _ _ h => h) (Or.inl ⟨by rfl, ?_⟩) ?_ ?_
             rotate_left
             ·intro w'
              go_simp
              with_reducible rfl
             rotate_left
             ·simp only [Act.put, px_a, px_b, px_c, i64_w, i32_w, px_w256]
              rfl
             refine pure_ (i := 6) (N := some 58) (v := undef) (a' := ?_) (px_l 7 38) rfl rfl (any_of HT_.out (by kernel_rfl)) (fun _ _ _ h => h) (Or.inr ⟨by rfl, rfl⟩) ?_ ?_
             rotate_left
             ·simp only [Act.put, px_a, px_b, px_c, i64_w, i32_w, px_w256]
              rfl
             refine pure_ (i := 7) (N := some 59) (v := undef) (a' := ?_) (px_l 8 37) rfl rfl (any_of HT_.out (by kernel_rfl)) (fun _ _ _ h => h) (Or.inr ⟨by rfl, rfl⟩) ?_ ?_
             rotate_left
             ·simp only [Act.put, px_a, px_b, px_c, i64_w, i32_w, px_w256]
              rfl
             refine pure_ (i := 8) (N := some 60) (v := undef) (a' := ?_) (px_l 9 36) rfl rfl (any_of HT_.out (by kernel_rfl)) (fun _ _ _ h => h) (Or.inr ⟨by rfl, rfl⟩) ?_ ?_
             rotate_left
             ·simp only [Act.put, px_a, px_b, px_c, i64_w, i32_w, px_w256]
              rfl
             refine pure_ (i := 9) (N := some 61) (v := ?_) (a' := ?_) (px_l 10 35) rfl rfl (any_of HT_.out (by kernel_rfl)) (fun _ _ _ h => h) (Or.inl ⟨by rfl, ?_⟩) ?_ ?_
             rotate_left
             ·intro w'
              go_simp
              with_reducible rfl
             rotate_left
             ·simp only [Act.put, px_a, px_b, px_c, i64_w, i32_w, px_w256]
              rfl
             refine pure_ (i := 10) (N := some 62) (v := ?_) (a' := ?_) (px_l 11 34) rfl rfl (any_of HT_.out (by kernel_rfl)) (fun _ _ _ h => h) (Or.inl ⟨by rfl, ?_⟩) ?_ ?_
             rotate_left
             ·intro w'
              go_simp
              with_reducible rfl
             rotate_left
             ·simp only [Act.put, px_a, px_b, px_c, i64_w, i32_w, px_w256]
              rfl
             refine pure_ (i := 11) (N := some 63) (v := ?_) (a' := ?_) (px_l 12 33) rfl rfl (any_of HT_.out (by kernel_rfl)) (fun _ _ _ h => h) (Or.inl ⟨by rfl, ?_⟩) ?_ ?_
             rotate_left
             ·intro w'
              go_simp
              with_reducible rfl
             rotate_left
             ·simp only [Act.put, px_a, px_b, px_c, i64_w, i32_w, px_w256]
              rfl
             refine pure_ (i := 12) (N := some 64) (v := ?_) (a' := ?_) (px_l 13 32) rfl rfl (any_of HT_.out (by kernel_rfl)) (fun _ _ _ h => h) (Or.inl ⟨by rfl, ?_⟩) ?_ ?_
             rotate_left
             ·intro w'
              go_simp
              with_reducible rfl
             rotate_left
             ·simp only [Act.put, px_a, px_b, px_c, i64_w, i32_w, px_w256]
              rfl
             refine pure_ (i := 13) (N := some 65) (v := ?_) (a' := ?_) (px_l 14 31) rfl rfl (any_of HT_.out (by kernel_rfl)) (fun _ _ _ h => h) (Or.inl ⟨by rfl, ?_⟩) ?_ ?_
             rotate_left
             ·intro w'
              go_simp
              with_reducible rfl
             rotate_left
             ·simp only [Act.put, px_a, px_b, px_c, i64_w, i32_w, px_w256]
              rfl
             refine take_ (i := 14) (N := some 66) (v := ?_) (a' := ?_) (px_l 15 30) rfl rfl (take_ofW HT_.out HW_.out (by kernel_rfl)) (fun _ _ _ h => h) (Or.inl ⟨by rfl, ?_⟩) hHeld ?_ ?_
             rotate_left
             ·rintro w' ⟨s0, s1⟩
              go_simp
              with_reducible rfl
             rotate_left
             ·simp only [Act.put, px_a, px_b, px_c, i64_w, i32_w, px_w256]
              rfl
             refine pure_ (i := 15) (N := some 67) (v := ?_) (a' := ?_) (px_l 16 29) rfl rfl (any_of HT_.out (by kernel_rfl)) (fun _ _ _ h => h) (Or.inl ⟨by rfl, ?_⟩) ?_ ?_
             rotate_left
             ·intro w'
              go_simp
              with_reducible rfl
             rotate_left
             ·simp only [Act.put, px_a, px_b, px_c, i64_w, i32_w, px_w256]
              rfl
             refine pure_ (i := 16) (N := some 68) (v := ?_) (a' := ?_) (px_l 17 28) rfl rfl (any_of HT_.out (by kernel_rfl)) (fun _ _ _ h => h) (Or.inl ⟨by rfl, ?_⟩) ?_ ?_
             rotate_left
             ·intro w'
              go_simp
              with_reducible rfl
             rotate_left
             ·simp only [Act.put, px_a, px_b, px_c, i64_w, i32_w, px_w256]
              rfl
             refine pure_ (i := 17) (N := some 69) (v := undef) (a' := ?_) (px_l 18 27) rfl rfl (any_of HT_.out (by kernel_rfl)) (fun _ _ _ h => h) (Or.inr ⟨by rfl, rfl⟩) ?_ ?_
             rotate_left
             ·simp only [Act.put, px_a, px_b, px_c, i64_w, i32_w, px_w256]
              rfl
             refine pure_ (i := 18) (N := some 70) (v := undef) (a' := ?_) (px_l 19 26) rfl rfl (any_of HT_.out (by kernel_rfl)) (fun _ _ _ h => h) (Or.inr ⟨by rfl, rfl⟩) ?_ ?_
             rotate_left
             ·simp only [Act.put, px_a, px_b, px_c, i64_w, i32_w, px_w256]
              rfl
             refine pure_ (i := 19) (N := some 71) (v := undef) (a' := ?_) (px_l 20 25) rfl rfl (any_of HT_.out (by kernel_rfl)) (fun _ _ _ h => h) (Or.inr ⟨by rfl, rfl⟩) ?_ ?_
             rotate_left
             ·simp only [Act.put, px_a, px_b, px_c, i64_w, i32_w, px_w256]
              rfl
             refine pure_ (i := 20) (N := some 72) (v := undef) (a' := ?_) (px_l 21 24) rfl rfl (any_of HT_.out (by kernel_rfl)) (fun _ _ _ h => h) (Or.inr ⟨by rfl, rfl⟩) ?_ ?_
             rotate_left
             ·simp only [Act.put, px_a, px_b, px_c, i64_w, i32_w, px_w256]
              rfl
             refine pure_ (i := 21) (N := some 73) (v := undef) (a' := ?_) (px_l 22 23) rfl rfl (any_of HT_.out (by kernel_rfl)) (fun _ _ _ h => h) (Or.inr ⟨by rfl, rfl⟩) ?_ ?_
             rotate_left
             ·simp only [Act.put, px_a, px_b, px_c, i64_w, i32_w, px_w256]
              rfl
             refine pure_ (i := 22) (N := some 74) (v := undef) (a' := ?_) (px_l 23 22) rfl rfl (any_of HT_.out (by kernel_rfl)) (fun _ _ _ h => h) (Or.inr ⟨by rfl, rfl⟩) ?_ ?_
             rotate_left
             ·simp only [Act.put, px_a, px_b, px_c, i64_w, i32_w, px_w256]
              rfl
             refine pure_ (i := 23) (N := some 75) (v := undef) (a' := ?_) (px_l 24 21) rfl rfl (any_of HT_.out (by kernel_rfl)) (fun _ _ _ h => h) (Or.inr ⟨by rfl, rfl⟩) ?_ ?_
             rotate_left
             ·simp only [Act.put, px_a, px_b, px_c, i64_w, i32_w, px_w256]
              rfl
             refine pure_ (i := 24) (N := some 76) (v := undef) (a' := ?_) (px_l 25 20) rfl rfl (any_of HT_.out (by kernel_rfl)) (fun _ _ _ h => h) (Or.inr ⟨by rfl, rfl⟩) ?_ ?_
             rotate_left
             ·simp only [Act.put, px_a, px_b, px_c, i64_w, i32_w, px_w256]
              rfl
             refine pure_ (i := 25) (N := some 77) (v := undef) (a' := ?_) (px_l 26 19) rfl rfl (any_of HT_.out (by kernel_rfl)) (fun _ _ _ h => h) (Or.inr ⟨by rfl, rfl⟩) ?_ ?_
             rotate_left
             ·simp only [Act.put, px_a, px_b, px_c, i64_w, i32_w, px_w256]
              rfl
             refine pure_ (i := 26) (N := some 78) (v := ?_) (a' := ?_) (px_l 27 18) rfl rfl (any_of HT_.out (by kernel_rfl)) (fun _ _ _ h => h) (Or.inl ⟨by rfl, ?_⟩) ?_ ?_
             rotate_left
             ·intro w'
              go_simp
              with_reducible rfl
             rotate_left
             ·simp only [Act.put, px_a, px_b, px_c, i64_w, i32_w, px_w256]
              rfl
             refine pure_ (i := 27) (N := some 79) (v := ?_) (a' := ?_) (px_l 28 17) rfl rfl (any_of HT_.out (by kernel_rfl)) (fun _ _ _ h => h) (Or.inl ⟨by rfl, ?_⟩) ?_ ?_
             rotate_left
             ·intro w'
              go_simp
              with_reducible rfl
             rotate_left
             ·simp only [Act.put, px_a, px_b, px_c, i64_w, i32_w, px_w256]
              rfl
             refine pure_ (i := 28) (N := some 80) (v := ?_) (a' := ?_) (px_l 29 16) rfl rfl (any_of HT_.out (by kernel_rfl)) (fun _ _ _ h => h) (Or.inl ⟨by rfl, ?_⟩) ?_ ?_
             rotate_left
             ·intro w'
              go_simp
              with_reducible rfl
             rotate_left
             ·simp only [Act.put, px_a, px_b, px_c, i64_w, i32_w, px_w256]
              rfl
             refine pure_ (i := 29) (N := some 81) (v := ?_) (a' := ?_) (px_l 30 15) rfl rfl (any_of HT_.out (by kernel_rfl)) (fun _ _ _ h => h) (Or.inl ⟨by rfl, ?_⟩) ?_ ?_
             rotate_left
             ·intro w'
              go_simp
              with_reducible rfl
             rotate_left
             ·simp only [Act.put, px_a, px_b, px_c, i64_w, i32_w, px_w256]
              rfl
             refine pure_ (i := 30) (N := some 82) (v := ?_) (a' := ?_) (px_l 31 14) rfl rfl (any_of HT_.out (by kernel_rfl)) (fun _ _ _ h => h) (Or.inl ⟨by rfl, ?_⟩) ?_ ?_
             rotate_left
             ·intro w'
              go_simp
              with_reducible rfl
             rotate_left
             ·simp only [Act.put, px_a, px_b, px_c, i64_w, i32_w, px_w256]
              rfl
             refine pure_ (i := 31) (N := some 83) (v := ?_) (a' := ?_) (px_l 32 13) rfl rfl (any_of HT_.out (by kernel_rfl)) (fun _ _ _ h => h) (Or.inl ⟨by rfl, ?_⟩) ?_ ?_
             rotate_left
             ·intro w'
              go_simp
              with_reducible rfl
             rotate_left
             ·simp only [Act.put, px_a, px_b, px_c, i64_w, i32_w, px_w256]
              rfl
             refine pure_ (i := 32) (N := some 84) (v := undef) (a' := ?_) (px_l 33 12) rfl rfl (any_of HT_.out (by kernel_rfl)) (fun _ _ _ h => h) (Or.inr ⟨by rfl, rfl⟩) ?_ ?_
             rotate_left
             ·simp only [Act.put, px_a, px_b, px_c, i64_w, i32_w, px_w256]
              rfl
             refine pure_ (i := 33) (N := some 85) (v := undef) (a' := ?_) (px_l 34 11) rfl rfl (any_of HT_.out (by kernel_rfl)) (fun _ _ _ h => h) (Or.inr ⟨by rfl, rfl⟩) ?_ ?_
             rotate_left
             ·simp only [Act.put, px_a, px_b, px_c, i64_w, i32_w, px_w256]
              rfl
             refine pure_ (i := 34) (N := some 86) (v := undef) (a' := ?_) (px_l 35 10) rfl rfl (any_of HT_.out (by kernel_rfl)) (fun _ _ _ h => h) (Or.inr ⟨by rfl, rfl⟩) ?_ ?_
             rotate_left
             ·simp only [Act.put, px_a, px_b, px_c, i64_w, i32_w, px_w256]
              rfl
             refine pure_ (i := 35) (N := some 87) (v := undef) (a' := ?_) (px_l 36 9) rfl rfl (any_of HT_.out (by kernel_rfl)) (fun _ _ _ h => h) (Or.inr ⟨by rfl, rfl⟩) ?_ ?_
             rotate_left
             ·simp only [Act.put, px_a, px_b, px_c, i64_w, i32_w, px_w256]
              rfl
             refine pure_ (i := 36) (N := some 88) (v := undef) (a' := ?_) (px_l 37 8) rfl rfl (any_of HT_.out (by kernel_rfl)) (fun _ _ _ h => h) (Or.inr ⟨by rfl, rfl⟩) ?_ ?_
             rotate_left
             ·simp only [Act.put, px_a, px_b, px_c, i64_w, i32_w, px_w256]
              rfl
             refine pure_ (i := 37) (N := some 89) (v := ?_) (a' := ?_) (px_l 38 7) rfl rfl (any_of HT_.out (by kernel_rfl)) (fun _ _ _ h => h) (Or.inl ⟨by rfl, ?_⟩) ?_ ?_
             rotate_left
             ·intro w'
              go_simp
              with_reducible rfl
             rotate_left
             ·simp only [Act.put, px_a, px_b, px_c, i64_w, i32_w, px_w256]
              rfl
             refine pure_ (i := 38) (N := some 90) (v := ?_) (a' := ?_) (px_l 39 6) rfl rfl (any_of HT_.out (by kernel_rfl)) (fun _ _ _ h => h) (Or.inl ⟨by rfl, ?_⟩) ?_ ?_
             rotate_left
             ·intro w'
              go_simp
              with_reducible rfl
             rotate_left
             ·simp only [Act.put, px_a, px_b, px_c, i64_w, i32_w, px_w256]
              rfl
             refine pure_ (i := 39) (N := some 91) (v := undef) (a' := ?_) (px_l 40 5) rfl rfl (any_of HT_.out (by kernel_rfl)) (fun _ _ _ h => h) (Or.inr ⟨by rfl, rfl⟩) ?_ ?_
             rotate_left
             ·simp only [Act.put, px_a, px_b, px_c, i64_w, i32_w, px_w256]
              rfl
             refine pure_ (i := 40) (N := some 92) (v := undef) (a' := ?_) (px_l 41 4) rfl rfl (any_of HT_.out (by kernel_rfl)) (fun _ _ _ h => h) (Or.inr ⟨by rfl, rfl⟩) ?_ ?_
             rotate_left
             ·simp only [Act.put, px_a, px_b, px_c, i64_w, i32_w, px_w256]
              rfl
             refine pure_ (i := 41) (N := some 93) (v := undef) (a' := ?_) (px_l 42 3) rfl rfl (any_of HT_.out (by kernel_rfl)) (fun _ _ _ h => h) (Or.inr ⟨by rfl, rfl⟩) ?_ ?_
             rotate_left
             ·simp only [Act.put, px_a, px_b, px_c, i64_w, i32_w, px_w256]
              rfl
             refine pure_ (i := 42) (N := some 94) (v := undef) (a' := ?_) (px_l 43 2) rfl rfl (any_of HT_.out (by kernel_rfl)) (fun _ _ _ h => h) (Or.inr ⟨by rfl, rfl⟩) ?_ ?_
             rotate_left
             ·simp only [Act.put, px_a, px_b, px_c, i64_w, i32_w, px_w256]
              rfl
             refine pure_ (i := 43) (N := some 95) (v := ?_) (a' := ?_) (px_l 44 1) rfl rfl (any_of HT_.out (by kernel_rfl)) (fun _ _ _ h => h) (Or.inl ⟨by rfl, ?_⟩) ?_ ?_
             rotate_left
             ·intro w'
              go_simp
              with_reducible rfl
             rotate_left
             ·simp only [Act.put, px_a, px_b, px_c, i64_w, i32_w, px_w256]
              rfl
             refine pure_ (i := 44) (N := some 96) (v := ?_) (a' := ?_) (px_l 45 0) rfl rfl (any_of HT_.out (by kernel_rfl)) (fun _ _ _ h => h) (Or.inl ⟨by rfl, ?_⟩) ?_ ?_
             rotate_left
             ·intro w'
              go_simp
              with_reducible rfl
             rotate_left
             ·simp only [Act.put, px_a, px_b, px_c, i64_w, i32_w, px_w256]
              rfl
             refine done_ (done_of HT_.out (by kernel_rfl)) ?_
             try go_wp2
             go_meet
             case rel => exact ⟨_, (false), (by first | rfl | (simp; done) | (simp [*]; done)), H', ⟨by have := HJ6.out; have := HK2.out; first | omega | exact Nat.le_refl _⟩, ⟨by (with_reducible repeat (first | apply Kd.R_alloc | apply Kd.R_drewN | apply Kd.R_drew)); exact HO_5.out⟩, ⟨by (with_reducible repeat (first | apply Kd.R_alloc | apply Kd.R_drewN | apply Kd.R_drew)); exact HO_7.out⟩, ⟨by (with_reducible repeat (first | apply Kd.R_alloc | apply Kd.R_drewN | apply Kd.R_drew)); exact HO_10.out⟩, ⟨by repeat (first | (with_reducible first | exact HB.out | apply below_alloc | apply pw_below_drewN | apply below_drew1) | exact HB.out)⟩⟩
         ·rw [if_neg c22] at H
          exact absurd H (by simp)
        case rest =>
         clear HC21
         try clear c2
         try clear p2
         try clear p4
         try clear q4
         try clear hx4
         try clear c5
         try clear c22
         try clear p45
         try clear q45
         try clear hx45
         try clear p46
         try clear q46
         try clear hx46
         try clear c53
         try clear c53b0
         try clear c53b1
         try clear hx458_0
         try clear hx466_0
         try clear p458
         try clear p466
         try clear q458
         try clear q466
         obtain ⟨kq, x96_20, rfl, HA, HJ20, HO_5, HO_7, HO_10, HB⟩ := hcut
         cases kq with
         | zero => exact absurd HA.out (by simp [laws_FnCollectUpTo.j2])
         | succ kj20 =>
          have H := HA.out
          clear HA
          simp only [laws_FnCollectUpTo.j2] at H
          by_cases c56 : x96_20 = true
          ·subst c56
           have H1 : (some false) = some r := by rw [if_pos rfl] at H; exact H
           clear H
           have H := H1
           clear H1
           obtain rfl := Option.some.inj H
           go_wp2
           go_ret
           exact ⟨by first | rfl | (simp [errW_none, errW_some] <;> rfl) | (simp [*, errW_none, errW_some] <;> rfl), by repeat (first | (with_reducible first | exact HB.out | apply below_alloc | apply pw_below_drewN | apply below_drew1) | exact HB.out)⟩
          ·replace c56 := Bool.eq_false_iff.mpr c56
           subst c56
           have H1 : (laws_FnCollectUpTo.l0 kj20 t440 t441 t448 t455 (wrap64 (x11_2 + 1))) = some r := by rw [if_neg (show ¬ (false = true) by decide)] at H; exact H
           clear H
           have H := H1
           clear H1
           have H' := Aside0.mk H
           clear H
           go_wp2
           go_roundg kj20
           case measure => have := HJ6.out; have := HK2.out; have := HJ20.out; omega
           case rel => exact ⟨(wrap64 (x11_2 + 1)), (by first | rfl | (simp; done) | (simp [*]; done)), H', ⟨by have := HJ6.out; have := HK2.out; have := HJ20.out; omega⟩, ⟨by (with_reducible repeat (first | apply Kd.R_alloc | apply Kd.R_drewN | apply Kd.R_drew)); exact HO_5.out⟩, ⟨by (with_reducible repeat (first | apply Kd.R_alloc | apply Kd.R_drewN | apply Kd.R_drew)); exact HO_7.out⟩, ⟨by (with_reducible repeat (first | apply Kd.R_alloc | apply Kd.R_drewN | apply Kd.R_drew)); exact HO_10.out⟩, ⟨by repeat (first | (with_reducible first | exact HB.out | apply below_alloc | apply pw_below_drewN | apply below_drew1) | exact HB.out)⟩⟩
       ·rw [if_neg c20] at H
        have c20b0 : decide (x11_2 < (t448.length : Int)) = false := decide_eq_false c20
        clear c20
        by_cases c57 : (t448.length : Int) = (t440.length : Int)
        ·rw [if_pos c57] at H
         have c57b0 : ((t448.length : Int) == (t440.length : Int)) = true := beq_iff_eq.mpr c57
         have c57b1 : ((t448.length : Int) != (t440.length : Int)) = false := bne_eq_false_iff_eq.mpr c57
         have c57b2 : (t448.length == t440.length) = true := by first | simpa using c57 | (simp at c57 ⊢; omega)
         clear c57
         obtain rfl := Option.some.inj H
         go_wp2
         go_ret
         exact ⟨by first | rfl | (simp [errW_none, errW_some] <;> rfl) | (simp [*, errW_none, errW_some] <;> rfl), by repeat (first | (with_reducible first | exact HB.out | apply below_alloc | apply pw_below_drewN | apply below_drew1) | exact HB.out)⟩
        ·rw [if_neg c57] at H
         have c57b0 : ((t448.length : Int) == (t440.length : Int)) = false := beq_eq_false_iff_ne.mpr c57
         have c57b1 : ((t448.length : Int) != (t440.length : Int)) = true := bne_iff_ne.mpr c57
         have c57b2 : (t448.length == t440.length) = false := by first | simpa using c57 | (simp at c57 ⊢; omega)
         obtain rfl := Option.some.inj H
         go_wp2
         go_ret
         exact ⟨by first | rfl | (simp [errW_none, errW_some] <;> rfl) | (simp [*, errW_none, errW_some] <;> rfl), by repeat (first | (with_reducible first | exact HB.out | apply below_alloc | apply pw_below_drewN | apply below_drew1) | exact HB.out)⟩

/-- THE ONE PURE STATEMENT of laws_FnCollectUpTo: yours. -/
def laws_FnCollectUpTo.Pure : Prop := ∀ (l0 : List Int), l0.length ≤ maxLen → l0.length * 1 ≤ 140737488351232 → (∀ x ∈ l0, (Lit.int .u8 x).wf = true) → ∃ k, laws_FnCollectUpTo.f k l0 = some true
theorem laws_FnCollectUpTo.walk (P : laws_FnCollectUpTo.Pure) (a0 : Option Addr) (len0 cap0 : Nat) (z0 : List Int) (w : World) (w0 : (a0 = none ∧ len0 = 0 ∧ cap0 = 0 ∧ z0 = []) ∨ ∃ x, a0 = some x ∧ len0 ≤ cap0 ∧ cap0 ≤ maxLen ∧ z0.length = cap0 ∧ (∀ i, i < z0.length → w.cell? (x.add i) = some (.int .u8 (z0.getD i 0))) ∧ ∀ n ∈ z0, (Lit.int .u8 n).wf = true) (y0 : len0 * 1 ≤ 140737488351232) :
  Calls Try.prog 4 #[.slice a0 len0 cap0] w fun e w' => e = .returned (.bool true) ∧ Below w.heap.size w w' := by
 obtain ⟨l0, rfl, hr0, hm0, hw0, hc0⟩ := ReadsInt.ofRowC w0
 obtain ⟨k, h⟩ := P l0 hm0 y0 hw0
 refine (laws_FnCollectUpTo.calls k _ _ l0 true w (Kd.C_of_reads (d := (0 : Int)) (h1 := fun _ => rfl) hr0) hc0 h).mono ?_
 rintro e w' ⟨rfl, hd⟩
 exact ⟨rfl, hd⟩

end Go.Proofs.Ytdhjkfoijaifcaa.Q
