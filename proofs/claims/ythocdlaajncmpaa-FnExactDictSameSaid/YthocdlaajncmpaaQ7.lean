-- Printed by a program of this project's own, for this seat.
import Derived.Test.YthocdlaajncmpaaQ0
import Derived.Test.YthocdlaajncmpaaQ1
import Derived.Test.YthocdlaajncmpaaQ6
namespace Go.Proofs.Ythocdlaajncmpaa.Q
open Go.RowKit Go.Proofs.YthocdlaajncmpaaW.PrintWords Go.Proofs.YthocdlaajncmpaaW.PrintLast Go.Proofs.YthocdlaajncmpaaW.PrintMore
attribute [local go_sem] max2_int min2_int max_two min_two max_three min_three max_four min_four   -- for this text's walks alone
set_option linter.unusedVariables false
set_option linter.unusedSimpArgs false

attribute [local go_sem high] eqA38
/-! ### impl_DictOk: function 16 -/
mutual
def impl_DictOk.j0 : Nat → Bool → List Int → List (S38) → Option (Bool)
 | 0, _, _, _ => none
 | k + 1, x33, x202000, x202001 => if x33 = true then (some false) else (if 0 ≤ (x202001.length : Int) then (if ((x202001.length : Int) : Int).toNat ≤ 35184372088832 then (impl_DictOk.l0 k (List.replicate ((x202001.length : Int) : Int).toNat 0) 0 x202000 (x202000.length : Int) 0 x202000 x202001) else (none)) else (none))
def impl_DictOk.l0 : Nat → List Int → Int → List Int → Int → Int → List Int → List (S38) → Option (Bool)
 | 0, _, _, _, _, _, _, _ => none
 | k + 1, x3, x4, x39, x40, x41, x202000, x202001 => if x41 < x40 then (if 0 ≤ x41 then (if x41 < (x39.length : Int) then (if (rd x39 x41) = (-2) then (impl_DictOk.l0 k x3 (wrap64 (x4 + 1)) x39 x40 (wrap64 (x41 + 1)) x202000 x202001) else (if (rd x39 x41) = (-1) then (impl_DictOk.l0 k x3 x4 x39 x40 (wrap64 (x41 + 1)) x202000 x202001) else (if (rd x39 x41) < 0 then (impl_DictOk.j2 k x3 x4 (rd x39 x41) x39 x40 x41 true x202000 x202001) else (if (rd x39 x41) ≥ (x202001.length : Int) then (impl_DictOk.j2 k x3 x4 (rd x39 x41) x39 x40 x41 true x202000 x202001) else (if 0 ≤ (rd x39 x41) then (if (rd x39 x41) < (x202001.length : Int) then (impl_DictOk.j2 k x3 x4 (rd x39 x41) x39 x40 x41 (!((rd_T38 x202001 (rd x39 x41)).f3)) x202000 x202001) else (none)) else (none)))))) else (none)) else (none)) else ((impl_Dict_live.f k x202000 x202001).bind fun t214 => (if x4 = (wrap64 ((x202001.length : Int) - t214)) then (impl_DictOk.l1 k x3 x202001 (x202001.length : Int) 0 x202000 x202001) else (some false)))
def impl_DictOk.j2 : Nat → List Int → Int → Int → List Int → Int → Int → Bool → List Int → List (S38) → Option (Bool)
 | 0, _, _, _, _, _, _, _, _, _ => none
 | k + 1, x3, x4, x6, x39, x40, x41, x59, x202000, x202001 => if x59 = true then (some false) else (if 0 ≤ x6 then (if x6 < (x3.length : Int) then (impl_DictOk.l0 k (x3.set (x6 : Int).toNat (wrap64 ((rd x3 x6) + 1))) x4 x39 x40 (wrap64 (x41 + 1)) x202000 x202001) else (none)) else (none))
def impl_DictOk.l1 : Nat → List Int → List (S38) → Int → Int → List Int → List (S38) → Option (Bool)
 | 0, _, _, _, _, _, _ => none
 | k + 1, x3, x88, x89, x90, x202000, x202001 => if x90 < x89 then (if 0 ≤ x90 then (if x90 < (x88.length : Int) then (if ((rd_T38 x88 x90).f3 = true) then (if x90 < (x3.length : Int) then (if (rd x3 x90) = 1 then (if (((rd_T38 x88 x90).f0).size : Int) > 20 then (impl_DictOk.j4 k x3 x88 x89 x90 true x202000 x202001) else ((impl_DictHash.f k ((rd_T38 x88 x90).f0)).bind fun t218 => (if ((rd_T38 x88 x90).f1) = t218 then ((impl_within.f ((rd_T38 x88 x90).f2) (-1000000) 1000000).bind fun t219 => (impl_DictOk.j4 k x3 x88 x89 x90 (!t219) x202000 x202001)) else (impl_DictOk.j4 k x3 x88 x89 x90 true x202000 x202001)))) else (impl_DictOk.j4 k x3 x88 x89 x90 true x202000 x202001)) else (none)) else (if (!((((rd_T38 x88 x90).f0).toList) == ([] : List UInt8)) || (!(((rd_T38 x88 x90).f1) == 0) || (!(((rd_T38 x88 x90).f2) == 0) || (((rd_T38 x88 x90).f3))))) = true then (some false) else (impl_DictOk.l1 k x3 x88 x89 (wrap64 (x90 + 1)) x202000 x202001))) else (none)) else (none)) else (impl_DictOk.l2 k x202001 (x202001.length : Int) 0 x202000 x202001)
def impl_DictOk.j4 : Nat → List Int → List (S38) → Int → Int → Bool → List Int → List (S38) → Option (Bool)
 | 0, _, _, _, _, _, _, _ => none
 | k + 1, x3, x88, x89, x90, x125, x202000, x202001 => if x125 = true then (some false) else (impl_DictOk.l1 k x3 x88 x89 (wrap64 (x90 + 1)) x202000 x202001)
def impl_DictOk.l2 : Nat → List (S38) → Int → Int → List Int → List (S38) → Option (Bool)
 | 0, _, _, _, _, _ => none
 | k + 1, x128, x129, x130, x202000, x202001 => if x130 < x129 then (if 0 ≤ x130 then (if x130 < (x128.length : Int) then (if (rd_T38 x128 x130).f3 = true then ((impl_Dict_probe.f k x202000 x202001 ((rd_T38 x128 x130).f0)).bind fun t222 => (if 0 ≤ (wrap64 ((t222.length : Int) - 1)) then (if (wrap64 ((t222.length : Int) - 1)) < (t222.length : Int) then (if 0 ≤ (rd t222 (wrap64 ((t222.length : Int) - 1))) then (if (rd t222 (wrap64 ((t222.length : Int) - 1))) < (x202000.length : Int) then (if (rd x202000 (rd t222 (wrap64 ((t222.length : Int) - 1)))) = x130 then (impl_DictOk.l2 k x128 x129 (wrap64 (x130 + 1)) x202000 x202001) else (some false)) else (none)) else (none)) else (none)) else (none))) else (impl_DictOk.l2 k x128 x129 (wrap64 (x130 + 1)) x202000 x202001)) else (none)) else (none)) else (some true)
end
def impl_DictOk.f (k : Nat) (l0_0 : List Int) (l0_1 : List (S38)) : Option (Bool) := (slices_Contains_int_int.f k (([8, 16, 32, 64, 128] : List Int)) (l0_0.length : Int)).bind fun t205 => (if t205 = true then (if (l0_1.length : Int) > (wrap64 (Int.tdiv (wrap64 (2 * (l0_0.length : Int))) 3)) then (impl_DictOk.j0 k true l0_0 l0_1) else ((impl_Dict_live.f k l0_0 l0_1).bind fun t206 => (impl_DictOk.j0 k (decide (t206 > 40)) l0_0 l0_1))) else (impl_DictOk.j0 k true l0_0 l0_1))
theorem impl_DictOk.mono_l : ∀ k, (∀ y0 y1 y2, LeO (impl_DictOk.j0 k y0 y1 y2) (impl_DictOk.j0 (k + 1) y0 y1 y2)) ∧ (∀ y0 y1 y2 y3 y4 y5 y6, LeO (impl_DictOk.l0 k y0 y1 y2 y3 y4 y5 y6) (impl_DictOk.l0 (k + 1) y0 y1 y2 y3 y4 y5 y6)) ∧ (∀ y0 y1 y2 y3 y4 y5 y6 y7 y8, LeO (impl_DictOk.j2 k y0 y1 y2 y3 y4 y5 y6 y7 y8) (impl_DictOk.j2 (k + 1) y0 y1 y2 y3 y4 y5 y6 y7 y8)) ∧ (∀ y0 y1 y2 y3 y4 y5, LeO (impl_DictOk.l1 k y0 y1 y2 y3 y4 y5) (impl_DictOk.l1 (k + 1) y0 y1 y2 y3 y4 y5)) ∧ (∀ y0 y1 y2 y3 y4 y5 y6, LeO (impl_DictOk.j4 k y0 y1 y2 y3 y4 y5 y6) (impl_DictOk.j4 (k + 1) y0 y1 y2 y3 y4 y5 y6)) ∧ (∀ y0 y1 y2 y3 y4, LeO (impl_DictOk.l2 k y0 y1 y2 y3 y4) (impl_DictOk.l2 (k + 1) y0 y1 y2 y3 y4))
 | 0 => ⟨fun _ _ _ r h => by simp [impl_DictOk.j0] at h, fun _ _ _ _ _ _ _ r h => by simp [impl_DictOk.l0] at h, fun _ _ _ _ _ _ _ _ _ r h => by simp [impl_DictOk.j2] at h, fun _ _ _ _ _ _ r h => by simp [impl_DictOk.l1] at h, fun _ _ _ _ _ _ _ r h => by simp [impl_DictOk.j4] at h, fun _ _ _ _ _ r h => by simp [impl_DictOk.l2] at h⟩
 | k + 1 => by
  obtain ⟨ih0, ih1, ih2, ih3, ih4, ih5⟩ := impl_DictOk.mono_l k
  refine ⟨?_, ?_, ?_, ?_, ?_, ?_⟩
  ·intro y0 y1 y2
   unfold impl_DictOk.j0
   repeat' first
   | (with_reducible exact ih0 _ _ _)
   | (with_reducible exact ih1 _ _ _ _ _ _ _)
   | (with_reducible exact ih2 _ _ _ _ _ _ _ _ _)
   | (with_reducible exact ih3 _ _ _ _ _ _)
   | (with_reducible exact ih4 _ _ _ _ _ _ _)
   | (with_reducible exact ih5 _ _ _ _ _)
   | (with_reducible exact impl_DictHash.mono _ _)
   | (with_reducible exact impl_Dict_live.mono _ _ _)
   | (with_reducible exact impl_Dict_probe.mono _ _ _ _)
   | (with_reducible exact slices_Contains_int_int.mono _ _ _)
   | (with_reducible exact LeO.refl _)
   | (with_reducible exact LeO.none _)
   | (with_reducible refine LeO.ite ?_ ?_)
   | (with_reducible refine LeO.bind ?_ (fun _ => ?_))
   | exact ih0 _ _ _
   | exact ih1 _ _ _ _ _ _ _
   | exact ih2 _ _ _ _ _ _ _ _ _
   | exact ih3 _ _ _ _ _ _
   | exact ih4 _ _ _ _ _ _ _
   | exact ih5 _ _ _ _ _
   | exact impl_DictHash.mono _ _
   | exact impl_Dict_live.mono _ _ _
   | exact impl_Dict_probe.mono _ _ _ _
   | exact slices_Contains_int_int.mono _ _ _
   | exact LeO.none _
   | refine LeO.ite ?_ ?_
   | refine LeO.bind ?_ (fun _ => ?_)
  ·intro y0 y1 y2 y3 y4 y5 y6
   unfold impl_DictOk.l0
   repeat' first
   | (with_reducible exact ih0 _ _ _)
   | (with_reducible exact ih1 _ _ _ _ _ _ _)
   | (with_reducible exact ih2 _ _ _ _ _ _ _ _ _)
   | (with_reducible exact ih3 _ _ _ _ _ _)
   | (with_reducible exact ih4 _ _ _ _ _ _ _)
   | (with_reducible exact ih5 _ _ _ _ _)
   | (with_reducible exact impl_DictHash.mono _ _)
   | (with_reducible exact impl_Dict_live.mono _ _ _)
   | (with_reducible exact impl_Dict_probe.mono _ _ _ _)
   | (with_reducible exact slices_Contains_int_int.mono _ _ _)
   | (with_reducible exact LeO.refl _)
   | (with_reducible exact LeO.none _)
   | (with_reducible refine LeO.ite ?_ ?_)
   | (with_reducible refine LeO.bind ?_ (fun _ => ?_))
   | exact ih0 _ _ _
   | exact ih1 _ _ _ _ _ _ _
   | exact ih2 _ _ _ _ _ _ _ _ _
   | exact ih3 _ _ _ _ _ _
   | exact ih4 _ _ _ _ _ _ _
   | exact ih5 _ _ _ _ _
   | exact impl_DictHash.mono _ _
   | exact impl_Dict_live.mono _ _ _
   | exact impl_Dict_probe.mono _ _ _ _
   | exact slices_Contains_int_int.mono _ _ _
   | exact LeO.none _
   | refine LeO.ite ?_ ?_
   | refine LeO.bind ?_ (fun _ => ?_)
  ·intro y0 y1 y2 y3 y4 y5 y6 y7 y8
   unfold impl_DictOk.j2
   repeat' first
   | (with_reducible exact ih0 _ _ _)
   | (with_reducible exact ih1 _ _ _ _ _ _ _)
   | (with_reducible exact ih2 _ _ _ _ _ _ _ _ _)
   | (with_reducible exact ih3 _ _ _ _ _ _)
   | (with_reducible exact ih4 _ _ _ _ _ _ _)
   | (with_reducible exact ih5 _ _ _ _ _)
   | (with_reducible exact impl_DictHash.mono _ _)
   | (with_reducible exact impl_Dict_live.mono _ _ _)
   | (with_reducible exact impl_Dict_probe.mono _ _ _ _)
   | (with_reducible exact slices_Contains_int_int.mono _ _ _)
   | (with_reducible exact LeO.refl _)
   | (with_reducible exact LeO.none _)
   | (with_reducible refine LeO.ite ?_ ?_)
   | (with_reducible refine LeO.bind ?_ (fun _ => ?_))
   | exact ih0 _ _ _
   | exact ih1 _ _ _ _ _ _ _
   | exact ih2 _ _ _ _ _ _ _ _ _
   | exact ih3 _ _ _ _ _ _
   | exact ih4 _ _ _ _ _ _ _
   | exact ih5 _ _ _ _ _
   | exact impl_DictHash.mono _ _
   | exact impl_Dict_live.mono _ _ _
   | exact impl_Dict_probe.mono _ _ _ _
   | exact slices_Contains_int_int.mono _ _ _
   | exact LeO.none _
   | refine LeO.ite ?_ ?_
   | refine LeO.bind ?_ (fun _ => ?_)
  ·intro y0 y1 y2 y3 y4 y5
   unfold impl_DictOk.l1
   repeat' first
   | (with_reducible exact ih0 _ _ _)
   | (with_reducible exact ih1 _ _ _ _ _ _ _)
   | (with_reducible exact ih2 _ _ _ _ _ _ _ _ _)
   | (with_reducible exact ih3 _ _ _ _ _ _)
   | (with_reducible exact ih4 _ _ _ _ _ _ _)
   | (with_reducible exact ih5 _ _ _ _ _)
   | (with_reducible exact impl_DictHash.mono _ _)
   | (with_reducible exact impl_Dict_live.mono _ _ _)
   | (with_reducible exact impl_Dict_probe.mono _ _ _ _)
   | (with_reducible exact slices_Contains_int_int.mono _ _ _)
   | (with_reducible exact LeO.refl _)
   | (with_reducible exact LeO.none _)
   | (with_reducible refine LeO.ite ?_ ?_)
   | (with_reducible refine LeO.bind ?_ (fun _ => ?_))
   | exact ih0 _ _ _
   | exact ih1 _ _ _ _ _ _ _
   | exact ih2 _ _ _ _ _ _ _ _ _
   | exact ih3 _ _ _ _ _ _
   | exact ih4 _ _ _ _ _ _ _
   | exact ih5 _ _ _ _ _
   | exact impl_DictHash.mono _ _
   | exact impl_Dict_live.mono _ _ _
   | exact impl_Dict_probe.mono _ _ _ _
   | exact slices_Contains_int_int.mono _ _ _
   | exact LeO.none _
   | refine LeO.ite ?_ ?_
   | refine LeO.bind ?_ (fun _ => ?_)
  ·intro y0 y1 y2 y3 y4 y5 y6
   unfold impl_DictOk.j4
   repeat' first
   | (with_reducible exact ih0 _ _ _)
   | (with_reducible exact ih1 _ _ _ _ _ _ _)
   | (with_reducible exact ih2 _ _ _ _ _ _ _ _ _)
   | (with_reducible exact ih3 _ _ _ _ _ _)
   | (with_reducible exact ih4 _ _ _ _ _ _ _)
   | (with_reducible exact ih5 _ _ _ _ _)
   | (with_reducible exact impl_DictHash.mono _ _)
   | (with_reducible exact impl_Dict_live.mono _ _ _)
   | (with_reducible exact impl_Dict_probe.mono _ _ _ _)
   | (with_reducible exact slices_Contains_int_int.mono _ _ _)
   | (with_reducible exact LeO.refl _)
   | (with_reducible exact LeO.none _)
   | (with_reducible refine LeO.ite ?_ ?_)
   | (with_reducible refine LeO.bind ?_ (fun _ => ?_))
   | exact ih0 _ _ _
   | exact ih1 _ _ _ _ _ _ _
   | exact ih2 _ _ _ _ _ _ _ _ _
   | exact ih3 _ _ _ _ _ _
   | exact ih4 _ _ _ _ _ _ _
   | exact ih5 _ _ _ _ _
   | exact impl_DictHash.mono _ _
   | exact impl_Dict_live.mono _ _ _
   | exact impl_Dict_probe.mono _ _ _ _
   | exact slices_Contains_int_int.mono _ _ _
   | exact LeO.none _
   | refine LeO.ite ?_ ?_
   | refine LeO.bind ?_ (fun _ => ?_)
  ·intro y0 y1 y2 y3 y4
   unfold impl_DictOk.l2
   repeat' first
   | (with_reducible exact ih0 _ _ _)
   | (with_reducible exact ih1 _ _ _ _ _ _ _)
   | (with_reducible exact ih2 _ _ _ _ _ _ _ _ _)
   | (with_reducible exact ih3 _ _ _ _ _ _)
   | (with_reducible exact ih4 _ _ _ _ _ _ _)
   | (with_reducible exact ih5 _ _ _ _ _)
   | (with_reducible exact impl_DictHash.mono _ _)
   | (with_reducible exact impl_Dict_live.mono _ _ _)
   | (with_reducible exact impl_Dict_probe.mono _ _ _ _)
   | (with_reducible exact slices_Contains_int_int.mono _ _ _)
   | (with_reducible exact LeO.refl _)
   | (with_reducible exact LeO.none _)
   | (with_reducible refine LeO.ite ?_ ?_)
   | (with_reducible refine LeO.bind ?_ (fun _ => ?_))
   | exact ih0 _ _ _
   | exact ih1 _ _ _ _ _ _ _
   | exact ih2 _ _ _ _ _ _ _ _ _
   | exact ih3 _ _ _ _ _ _
   | exact ih4 _ _ _ _ _ _ _
   | exact ih5 _ _ _ _ _
   | exact impl_DictHash.mono _ _
   | exact impl_Dict_live.mono _ _ _
   | exact impl_Dict_probe.mono _ _ _ _
   | exact slices_Contains_int_int.mono _ _ _
   | exact LeO.none _
   | refine LeO.ite ?_ ?_
   | refine LeO.bind ?_ (fun _ => ?_)
theorem impl_DictOk.mono : ∀ a0 a1 k, LeO (impl_DictOk.f k a0 a1) (impl_DictOk.f (k + 1) a0 a1) := by
 intro a0 a1 k
 obtain ⟨ih0, ih1, ih2, ih3, ih4, ih5⟩ := impl_DictOk.mono_l k
 unfold impl_DictOk.f
 repeat' first
   | (with_reducible exact ih0 _ _ _)
   | (with_reducible exact ih1 _ _ _ _ _ _ _)
   | (with_reducible exact ih2 _ _ _ _ _ _ _ _ _)
   | (with_reducible exact ih3 _ _ _ _ _ _)
   | (with_reducible exact ih4 _ _ _ _ _ _ _)
   | (with_reducible exact ih5 _ _ _ _ _)
   | (with_reducible exact impl_DictHash.mono _ _)
   | (with_reducible exact impl_Dict_live.mono _ _ _)
   | (with_reducible exact impl_Dict_probe.mono _ _ _ _)
   | (with_reducible exact slices_Contains_int_int.mono _ _ _)
   | (with_reducible exact LeO.refl _)
   | (with_reducible exact LeO.none _)
   | (with_reducible refine LeO.ite ?_ ?_)
   | (with_reducible refine LeO.bind ?_ (fun _ => ?_))
   | exact ih0 _ _ _
   | exact ih1 _ _ _ _ _ _ _
   | exact ih2 _ _ _ _ _ _ _ _ _
   | exact ih3 _ _ _ _ _ _
   | exact ih4 _ _ _ _ _ _ _
   | exact ih5 _ _ _ _ _
   | exact impl_DictHash.mono _ _
   | exact impl_Dict_live.mono _ _ _
   | exact impl_Dict_probe.mono _ _ _ _
   | exact slices_Contains_int_int.mono _ _ _
   | exact LeO.none _
   | refine LeO.ite ?_ ?_
   | refine LeO.bind ?_ (fun _ => ?_)
def impl_DictOk.T15 : Bool × List (List Nat × List Nat) := (true, [([], []), ([], []), ([1], [1]), ([2], [2]), ([], []), ([4], [4]), ([3, 5], [3, 5]), ([0, 6], [0, 6])])
def impl_DictOk.B15 : List Nat := [0, 0, 2, 6, 0, 16, 62, 127]
theorem impl_DictOk.tab15 : rtab .any (opsOf Try.f16 15) = impl_DictOk.T15 := by kernel_rfl
theorem impl_DictOk.bits15 : waitsOk impl_DictOk.T15.2 impl_DictOk.B15 = true := by kernel_rfl
def impl_DictOk.T23 : Bool × List (List Nat × List Nat) := (true, [([], []), ([], []), ([0, 1], [0, 1]), ([2], [2]), ([3], [3]), ([4], [4]), ([5], [5]), ([6, 5], [5, 6]), ([7, 5], [5, 7]), ([8, 5], [5, 8]), ([5, 9], [5, 9]), ([10, 5], [10]), ([11], [11]), ([12, 11], [11, 12]), ([11], [11]), ([14, 11], [11, 14]), ([15, 11, 11], [11, 15]), ([13, 16, 11], [11, 13, 16]), ([11, 17], [11, 17]), ([18, 16], [18]), ([19], [19]), ([20, 19], [19, 20]), ([21, 19, 19], [19, 21]), ([22, 19], [19, 22]), ([19, 23], [19, 23])])
def impl_DictOk.B23 : List Nat := [0, 0, 3, 7, 15, 31, 63, 127, 255, 511, 1023, 2047, 4095, 8191, 4095, 20479, 53247, 131071, 262143, 524287, 1048575, 2097151, 4194303, 8388607, 16777215]
theorem impl_DictOk.tab23 : rtab .any (opsOf Try.f16 23) = impl_DictOk.T23 := by kernel_rfl
theorem impl_DictOk.bits23 : waitsOk impl_DictOk.T23.2 impl_DictOk.B23 = true := by kernel_rfl
def impl_DictOk.T31 : Bool × List (List Nat × List Nat) := (true, [([], []), ([0], [0]), ([], []), ([], []), ([3], [3]), ([4], [4]), ([2, 5], [2, 5]), ([6], [6]), ([1, 7], [1, 7]), ([8], [8]), ([], []), ([9, 10], [9, 10])])
def impl_DictOk.B31 : List Nat := [0, 1, 0, 0, 8, 24, 60, 124, 255, 511, 0, 2047]
theorem impl_DictOk.tab31 : rtab .any (opsOf Try.f16 31) = impl_DictOk.T31 := by kernel_rfl
theorem impl_DictOk.bits31 : waitsOk impl_DictOk.T31.2 impl_DictOk.B31 = true := by kernel_rfl
set_option maxHeartbeats 8000000 in
set_option maxRecDepth 100000 in
theorem impl_DictOk.calls (k : Nat) (A0_0 : Option Addr) (c0_0 : Nat) (l0_0 : List Int) (A0_1 : Option Addr) (c0_1 : Nat) (l0_1 : List (S38)) (r : Bool) (w : World) (hr0_0 : Kd.C (Kd.int .i64) w A0_0 l0_0.length l0_0) (hc0_0 : l0_0.length ≤ c0_0) (hr0_1 : Kd.C k38 w A0_1 l0_1.length l0_1) (hc0_1 : l0_1.length ≤ c0_1) (h : impl_DictOk.f k l0_0 l0_1 = some r) :
  Calls Try.prog 16 #[.agg #[.slice A0_0 l0_0.length c0_0, .slice A0_1 l0_1.length c0_1]] w fun e w' => e = .returned (.bool r) ∧ Below w.heap.size w w' := by
 have hu30 := Try.underlying30
 have hu38 := Try.underlying38
 have HR0_0 := aM hr0_0
 have HC0_0 := aM hc0_0
 clear hr0_0 hc0_0
 have HR0_1 := aM hr0_1
 have HC0_1 := aM hc0_1
 clear hr0_1 hc0_1
 have HB := aM (Below.refl w.heap.size w)
 have H : ((slices_Contains_int_int.f k (([8, 16, 32, 64, 128] : List Int)) (l0_0.length : Int)).bind fun t205 => (if t205 = true then (if (l0_1.length : Int) > (wrap64 (Int.tdiv (wrap64 (2 * (l0_0.length : Int))) 3)) then (impl_DictOk.j0 k true l0_0 l0_1) else ((impl_Dict_live.f k l0_0 l0_1).bind fun t206 => (impl_DictOk.j0 k (decide (t206 > 40)) l0_0 l0_1))) else (impl_DictOk.j0 k true l0_0 l0_1))) = some r := h
 clear h
 have HC2 := aM H
 clear H
 go_enter Try.func16, Try.ntmps16
 go_upto_region 1 with (first | ((with_reducible refine gate_dst (N := 1) rfl ?_); (try (refine gate_guard (by rfl) ?_; dsimp only)); refine box_event ?hg (N := 1) ?hd (cs := #[.slice A0_0 l0_0.length c0_0, .slice A0_1 l0_1.length c0_1]) (t := 30) ?hr ?_; (case hd => rfl); (case hg => rfl); (case hr => first | (go_simp; done) | (go_simp; rfl)); intro gb201 hg w3 hbox hb; have n0_ := aM (below_step (px_h0 HB.out) hb); have n1_ := aM (hbox); have n2_ := aM ((by rw [hg]; exact (below_size (px_h0 HB.out)) : w.heap.size ≤ gb201)); have n3_ := aM ((by rw [hg]; exact (below_size (px_h0 HB.out)) : w.heap.size ≤ gb201)); clear HB; have HB := n0_; have BK201 := n1_; have GW201 := n2_; have GE201 := n3_; clear n0_ n1_ n2_ n3_; clear hb hbox hg))
 (try simp only [Act.put, List.setIfInBounds_toArray, List.set_cons_zero, List.set_cons_succ])
 go_cut [33] (fun v33 wc => ∃ (kq : Nat) (x33_1 : Bool), v33 = .bool x33_1 ∧ Aside0 (impl_DictOk.j0 kq x33_1 l0_0 l0_1 = some r) ∧ Aside0 (kq ≤ k) ∧ Aside0 (wc.heap[gb201]? = some (.cells #[(.slice A0_0 l0_0.length c0_0), (.slice A0_1 l0_1.length c0_1)] 30 (0, 0))) ∧ Aside0 (Below w.heap.size w wc))
 case first =>
  have H := HC2.out
  clear HC2
  obtain ⟨y202, hy202⟩ : ∃ y_ : List Int, y_ = (([8, 16, 32, 64, 128] : List Int)) := ⟨_, rfl⟩
  replace H : ((slices_Contains_int_int.f k y202 (l0_0.length : Int)).bind fun t205 => (if t205 = true then (if (l0_1.length : Int) > (wrap64 (Int.tdiv (wrap64 (2 * (l0_0.length : Int))) 3)) then (impl_DictOk.j0 k true l0_0 l0_1) else ((impl_Dict_live.f k l0_0 l0_1).bind fun t206 => (impl_DictOk.j0 k (decide (t206 > 40)) l0_0 l0_1))) else (impl_DictOk.j0 k true l0_0 l0_1))) = some r := by first | (rw [hy202]; with_reducible exact H) | (have H2_ := (Option.bind_some _ _).symm.trans H; rw [hy202]; with_reducible exact H2_) | (have H2_ := (Option.bind_some _ _).symm.trans H; with_reducible exact H2_) | with_reducible exact H | (rw [hy202]; exact H) | exact H
  have Ny202 := aM hy202
  clear hy202
  replace H := Option.bind_eq_some_iff.mp H
  obtain ⟨t205, A40, H⟩ := H
  replace H : (if t205 = true then (if (l0_1.length : Int) > (wrap64 (Int.tdiv (wrap64 (2 * (l0_0.length : Int))) 3)) then (impl_DictOk.j0 k true l0_0 l0_1) else ((impl_Dict_live.f k l0_0 l0_1).bind fun t206 => (impl_DictOk.j0 k (decide (t206 > 40)) l0_0 l0_1))) else (impl_DictOk.j0 k true l0_0 l0_1)) = some r := H
  have A4 := aM A40
  clear A40
  by_cases c5 : t205 = true
  ·subst c5
   have H1 : (if (l0_1.length : Int) > (wrap64 (Int.tdiv (wrap64 (2 * (l0_0.length : Int))) 3)) then (impl_DictOk.j0 k true l0_0 l0_1) else ((impl_Dict_live.f k l0_0 l0_1).bind fun t206 => (impl_DictOk.j0 k (decide (t206 > 40)) l0_0 l0_1))) = some r := by rw [if_pos rfl] at H; exact H
   clear H
   have H := H1
   clear H1
   by_cases c6 : (l0_1.length : Int) > (wrap64 (Int.tdiv (wrap64 (2 * (l0_0.length : Int))) 3))
   ·rw [if_pos c6] at H
    have c6b0 : decide ((wrap64 (Int.tdiv (wrap64 (2 * (l0_0.length : Int))) 3)) < (l0_1.length : Int)) = true := decide_eq_true c6
    clear c6
    (first | rw [c6b0] | (simp only [i64_w, i32_w]; rw [c6b0]) | skip)
    have H' := aM H
    clear H
    go_wp2_with (first | ((with_reducible refine gate_dst (N := 12) rfl ?_); (try (refine gate_guard (by rfl) ?_; dsimp only)); refine Kd.R_lit (Kd.int .i64) _ 3 ?hg (N := 12) ?hd (xs := ([8, 16, 32, 64, 128] : List Int)) (inner := [.int .i64 8, .int .i64 16, .int .i64 32, .int .i64 64, .int .i64 128]) (ok := fun _ => True) (okp := fun _ => True) ?hr ?hp (fun _ hk => hk) trivial (Below.refl _ _) (Nat.le_refl _) (by simp) ?_; (case hd => rfl); (case hg => rfl); (case hr => first | (go_simp; done) | (go_simp; rfl)); (case hp => exact (Reps.one (show Kd.M (Kd.int .i64) _ _ _ 8 [.int .i64 8] from rfl) (Reps.one (show Kd.M (Kd.int .i64) _ _ _ 16 [.int .i64 16] from rfl) (Reps.one (show Kd.M (Kd.int .i64) _ _ _ 32 [.int .i64 32] from rfl) (Reps.one (show Kd.M (Kd.int .i64) _ _ _ 64 [.int .i64 64] from rfl) (Reps.one (show Kd.M (Kd.int .i64) _ _ _ 128 [.int .i64 128] from rfl) (Reps.none _ _))))))); intro v203 w7 ho8 hb hg_ hnew_; clear hg_ hnew_; (first | rw [← Ny202.out] at ho8 | (simp only [Int.reduceToNat] at ho8; rw [← Ny202.out] at ho8)); have n0_ := aM (Kd.R_lower ho8 (below_size (px_h1 HB.out GE201.out))); have n1_ := aM (blk_below (g := gb201) (o := .cells #[.slice A0_0 l0_0.length c0_0, .slice A0_1 l0_1.length c0_1] 30 (0, 0)) (px_bV BK201.out) hb); have n2_ := aM (below_step (px_h1 HB.out GE201.out) hb); clear BK201; clear HB; have HO204 := n0_; have BK201 := n1_; have HB := n2_; clear n0_ n1_ n2_; clear hb ho8; have hcz9_0 : w7.cell? ⟨gb201, 0, none⟩ = some (.slice A0_0 l0_0.length c0_0) := (blk_cell BK201.out 0).trans rfl; have hcz9_1 : w7.cell? ⟨gb201, 1, none⟩ = some (.slice A0_1 l0_1.length c0_1) := (blk_cell BK201.out 1).trans rfl; have hfz9_0 := blk_frozen BK201.out 0; have hfz9_1 := blk_frozen BK201.out 1; obtain ⟨Ao10, co10, eo10⟩ := Kd.R_slice HO204.out; subst eo10) | ((with_reducible refine gate_callee (f := 28) rfl ?_); refine goesL_ (some 16) rfl rfl Try.func28 (by kernel_rfl) rfl #[.slice Ao10 y202.length co10, .int .i64 (l0_0.length : Int)] rfl px_dn ?_; (with_reducible refine (slices_Contains_int_int.calls k _ _ y202 (l0_0.length : Int) true _ ?side1 ?side2 A4.out).mono ?_); (case side1 => exact px_cV ((Kd.R_reads' HO204.out).2.2)); (case side2 => exact (Kd.R_reads' HO204.out).2.1); rintro e w' ⟨rfl, ⟨nd, rfl⟩⟩; refine ⟨_, rfl, ?_⟩))
    go_meet
    case rel => exact ⟨_, (true), px_rf, H', ⟨by first | omega | exact Nat.le_refl _⟩, ⟨px_bV BK201.out⟩, ⟨px_h1 HB.out GE201.out⟩⟩
   ·rw [if_neg c6] at H
    have c6b0 : decide ((wrap64 (Int.tdiv (wrap64 (2 * (l0_0.length : Int))) 3)) < (l0_1.length : Int)) = false := decide_eq_false c6
    clear c6
    (first | rw [c6b0] | (simp only [i64_w, i32_w]; rw [c6b0]) | skip)
    replace H := Option.bind_eq_some_iff.mp H
    obtain ⟨t206, A110, H⟩ := H
    replace H : (impl_DictOk.j0 k (decide (t206 > 40)) l0_0 l0_1) = some r := H
    have A11 := aM A110
    clear A110
    have H' := aM H
    clear H
    go_wp2_with (first | ((with_reducible refine gate_dst (N := 12) rfl ?_); (try (refine gate_guard (by rfl) ?_; dsimp only)); refine Kd.R_lit (Kd.int .i64) _ 3 ?hg (N := 12) ?hd (xs := ([8, 16, 32, 64, 128] : List Int)) (inner := [.int .i64 8, .int .i64 16, .int .i64 32, .int .i64 64, .int .i64 128]) (ok := fun _ => True) (okp := fun _ => True) ?hr ?hp (fun _ hk => hk) trivial (Below.refl _ _) (Nat.le_refl _) (by simp) ?_; (case hd => rfl); (case hg => rfl); (case hr => first | (go_simp; done) | (go_simp; rfl)); (case hp => exact (Reps.one (show Kd.M (Kd.int .i64) _ _ _ 8 [.int .i64 8] from rfl) (Reps.one (show Kd.M (Kd.int .i64) _ _ _ 16 [.int .i64 16] from rfl) (Reps.one (show Kd.M (Kd.int .i64) _ _ _ 32 [.int .i64 32] from rfl) (Reps.one (show Kd.M (Kd.int .i64) _ _ _ 64 [.int .i64 64] from rfl) (Reps.one (show Kd.M (Kd.int .i64) _ _ _ 128 [.int .i64 128] from rfl) (Reps.none _ _))))))); intro v203 w12 ho13 hb hg_ hnew_; clear hg_ hnew_; (first | rw [← Ny202.out] at ho13 | (simp only [Int.reduceToNat] at ho13; rw [← Ny202.out] at ho13)); have n0_ := aM (Kd.R_lower ho13 (below_size (px_h1 HB.out GE201.out))); have n1_ := aM (blk_below (g := gb201) (o := .cells #[.slice A0_0 l0_0.length c0_0, .slice A0_1 l0_1.length c0_1] 30 (0, 0)) (px_bV BK201.out) hb); have n2_ := aM (below_step (px_h1 HB.out GE201.out) hb); clear BK201; clear HB; have HO204 := n0_; have BK201 := n1_; have HB := n2_; clear n0_ n1_ n2_; clear hb ho13; have hcz14_0 : w12.cell? ⟨gb201, 0, none⟩ = some (.slice A0_0 l0_0.length c0_0) := (blk_cell BK201.out 0).trans rfl; have hcz14_1 : w12.cell? ⟨gb201, 1, none⟩ = some (.slice A0_1 l0_1.length c0_1) := (blk_cell BK201.out 1).trans rfl; have hfz14_0 := blk_frozen BK201.out 0; have hfz14_1 := blk_frozen BK201.out 1; obtain ⟨Ao15, co15, eo15⟩ := Kd.R_slice HO204.out; subst eo15) | ((with_reducible refine gate_callee (f := 28) rfl ?_); refine goesL_ (some 16) rfl rfl Try.func28 (by kernel_rfl) rfl #[.slice Ao15 y202.length co15, .int .i64 (l0_0.length : Int)] rfl px_dn ?_; (with_reducible refine (slices_Contains_int_int.calls k _ _ y202 (l0_0.length : Int) true _ ?side1 ?side2 A4.out).mono ?_); (case side1 => exact px_cV ((Kd.R_reads' HO204.out).2.2)); (case side2 => exact (Kd.R_reads' HO204.out).2.1); rintro e w' ⟨rfl, ⟨nd, rfl⟩⟩; refine ⟨_, rfl, ?_⟩) | (go_at_call 17; (with_reducible refine (impl_Dict_live.calls k _ _ l0_0 _ _ l0_1 t206 _ ?side1 ?side2 ?side3 ?side4 A11.out).mono ?_); (case side1 => exact px_cV ((Kd.C_below HR0_0.out (px_h1 HB.out GE201.out)))); (case side2 => exact HC0_0.out); (case side3 => exact px_cV ((Kd.C_below HR0_1.out (px_h1 HB.out GE201.out)))); (case side4 => exact HC0_1.out); rintro e w16 ⟨rfl, hb⟩; have n0_ := aM (Kd.R_below (px_rV HO204.out) hb); have n1_ := aM (blk_below (g := gb201) (o := .cells #[.slice A0_0 l0_0.length c0_0, .slice A0_1 l0_1.length c0_1] 30 (0, 0)) (px_bV BK201.out) hb); have n2_ := aM (below_step (px_h1 HB.out GE201.out) hb); clear HO204; clear BK201; clear HB; have HO204 := n0_; have BK201 := n1_; have HB := n2_; clear n0_ n1_ n2_; (try clear hb); (try clear hb2); (try clear hk); (try clear hi)))
    go_meet
    case rel => exact ⟨_, (decide (t206 > 40)), px_rf, H', ⟨by first | omega | exact Nat.le_refl _⟩, ⟨px_bV BK201.out⟩, ⟨px_h1 HB.out GE201.out⟩⟩
  ·replace c5 := Bool.eq_false_iff.mpr c5
   subst c5
   have H1 : (impl_DictOk.j0 k true l0_0 l0_1) = some r := by rw [if_neg (show ¬ (false = true) by decide)] at H; exact H
   clear H
   have H := H1
   clear H1
   have H' := aM H
   clear H
   go_wp2_with (first | ((with_reducible refine gate_dst (N := 12) rfl ?_); (try (refine gate_guard (by rfl) ?_; dsimp only)); refine Kd.R_lit (Kd.int .i64) _ 3 ?hg (N := 12) ?hd (xs := ([8, 16, 32, 64, 128] : List Int)) (inner := [.int .i64 8, .int .i64 16, .int .i64 32, .int .i64 64, .int .i64 128]) (ok := fun _ => True) (okp := fun _ => True) ?hr ?hp (fun _ hk => hk) trivial (Below.refl _ _) (Nat.le_refl _) (by simp) ?_; (case hd => rfl); (case hg => rfl); (case hr => first | (go_simp; done) | (go_simp; rfl)); (case hp => exact (Reps.one (show Kd.M (Kd.int .i64) _ _ _ 8 [.int .i64 8] from rfl) (Reps.one (show Kd.M (Kd.int .i64) _ _ _ 16 [.int .i64 16] from rfl) (Reps.one (show Kd.M (Kd.int .i64) _ _ _ 32 [.int .i64 32] from rfl) (Reps.one (show Kd.M (Kd.int .i64) _ _ _ 64 [.int .i64 64] from rfl) (Reps.one (show Kd.M (Kd.int .i64) _ _ _ 128 [.int .i64 128] from rfl) (Reps.none _ _))))))); intro v203 w17 ho18 hb hg_ hnew_; clear hg_ hnew_; (first | rw [← Ny202.out] at ho18 | (simp only [Int.reduceToNat] at ho18; rw [← Ny202.out] at ho18)); have n0_ := aM (Kd.R_lower ho18 (below_size (px_h1 HB.out GE201.out))); have n1_ := aM (blk_below (g := gb201) (o := .cells #[.slice A0_0 l0_0.length c0_0, .slice A0_1 l0_1.length c0_1] 30 (0, 0)) (px_bV BK201.out) hb); have n2_ := aM (below_step (px_h1 HB.out GE201.out) hb); clear BK201; clear HB; have HO204 := n0_; have BK201 := n1_; have HB := n2_; clear n0_ n1_ n2_; clear hb ho18; have hcz19_0 : w17.cell? ⟨gb201, 0, none⟩ = some (.slice A0_0 l0_0.length c0_0) := (blk_cell BK201.out 0).trans rfl; have hcz19_1 : w17.cell? ⟨gb201, 1, none⟩ = some (.slice A0_1 l0_1.length c0_1) := (blk_cell BK201.out 1).trans rfl; have hfz19_0 := blk_frozen BK201.out 0; have hfz19_1 := blk_frozen BK201.out 1; obtain ⟨Ao20, co20, eo20⟩ := Kd.R_slice HO204.out; subst eo20) | ((with_reducible refine gate_callee (f := 28) rfl ?_); refine goesL_ (some 16) rfl rfl Try.func28 (by kernel_rfl) rfl #[.slice Ao20 y202.length co20, .int .i64 (l0_0.length : Int)] rfl px_dn ?_; (with_reducible refine (slices_Contains_int_int.calls k _ _ y202 (l0_0.length : Int) false _ ?side1 ?side2 A4.out).mono ?_); (case side1 => exact px_cV ((Kd.R_reads' HO204.out).2.2)); (case side2 => exact (Kd.R_reads' HO204.out).2.1); rintro e w' ⟨rfl, ⟨nd, rfl⟩⟩; refine ⟨_, rfl, ?_⟩))
   go_meet
   case rel => exact ⟨_, (true), px_rf, H', ⟨by first | omega | exact Nat.le_refl _⟩, ⟨px_bV BK201.out⟩, ⟨px_h1 HB.out GE201.out⟩⟩
 case rest =>
  clear HC2
  try clear c1
  try clear c2
  try clear p2
  try clear c5
  try clear c6
  try clear c6b0
  try clear p6
  try clear c16
  try clear hcz14_0
  try clear hcz14_1
  try clear hcz19_0
  try clear hcz19_1
  try clear hcz9_0
  try clear hcz9_1
  try clear hfz14_0
  try clear hfz14_1
  try clear hfz19_0
  try clear hfz19_1
  try clear hfz9_0
  try clear hfz9_1
  obtain ⟨kq, x33_1, rfl, HA, HJ1, BK201, HB⟩ := hcut
  cases kq with
  | zero => exact absurd HA.out (by simp [impl_DictOk.j0])
  | succ kj1 =>
   have H := HA.out
   clear HA
   simp only [impl_DictOk.j0] at H
   by_cases c21 : x33_1 = true
   ·subst c21
    have H1 : (some false) = some r := by rw [if_pos rfl] at H; exact H
    clear H
    have H := H1
    clear H1
    obtain rfl := Option.some.inj H
    go_wp2
    go_ret
    exact ⟨by first | rfl | (simp [errW_none, errW_some] <;> rfl) | (simp [*, errW_none, errW_some] <;> rfl), px_h1 HB.out GE201.out⟩
   ·replace c21 := Bool.eq_false_iff.mpr c21
    subst c21
    have H1 : (if 0 ≤ (l0_1.length : Int) then (if ((l0_1.length : Int) : Int).toNat ≤ 35184372088832 then (impl_DictOk.l0 kj1 (List.replicate ((l0_1.length : Int) : Int).toNat 0) 0 l0_0 (l0_0.length : Int) 0 l0_0 l0_1) else (none)) else (none)) = some r := by rw [if_neg (show ¬ (false = true) by decide)] at H; exact H
    clear H
    have H := H1
    clear H1
    by_cases c22 : 0 ≤ (l0_1.length : Int)
    ·rw [if_pos c22] at H
     have c22b0 := eq_true c22
     have c22b1 : decide (0 ≤ (l0_1.length : Int)) = true := decide_eq_true c22
     clear c22
     by_cases c23 : ((l0_1.length : Int) : Int).toNat ≤ 35184372088832
     ·rw [if_pos c23] at H
      have c23b0 := eq_true c23
      have c23b1 : decide (((l0_1.length : Int) : Int).toNat ≤ 35184372088832) = true := decide_eq_true c23
      clear c23
      obtain ⟨y207, hy207⟩ : ∃ y_ : List Int, y_ = (List.replicate ((l0_1.length : Int) : Int).toNat 0) := ⟨_, rfl⟩
      replace H : (impl_DictOk.l0 kj1 y207 0 l0_0 (l0_0.length : Int) 0 l0_0 l0_1) = some r := by first | (rw [hy207]; with_reducible exact H) | (have H2_ := (Option.bind_some _ _).symm.trans H; rw [hy207]; with_reducible exact H2_) | (have H2_ := (Option.bind_some _ _).symm.trans H; with_reducible exact H2_) | with_reducible exact H | (rw [hy207]; exact H) | exact H
      have Ny207 := aM hy207
      clear hy207
      have H' := aM H
      clear H
      have hcz24_0 : wc.cell? ⟨gb201, 0, none⟩ = some (.slice A0_0 l0_0.length c0_0) := (blk_cell BK201.out 0).trans rfl
      have hcz24_1 : wc.cell? ⟨gb201, 1, none⟩ = some (.slice A0_1 l0_1.length c0_1) := (blk_cell BK201.out 1).trans rfl
      have hfz24_0 := blk_frozen BK201.out 0
      have hfz24_1 := blk_frozen BK201.out 1
      go_wp2_with (first | ((with_reducible refine gate_dst (N := 37) rfl ?_); (try (refine gate_guard (by rfl) ?_; dsimp only)); refine Kd.R_make (Kd.int .i64) _ 3 rfl (N := 37) rfl 22 _ _ rfl (l0_1.length : Int) rfl rfl Try.underlying22 (.int .i64 0) 8 info3 rfl (by decide) (by omega) 0 (ok := fun _ => True) (okp := fun _ => True) rfl (fun _ hk => hk) trivial (px_od) (Nat.le_trans (Nat.mul_le_mul_right _ (px_od : (l0_1.length : Int).toNat ≤ 35184372088832)) (by omega)) (Below.refl _ _) (Nat.le_refl _) ?_; intro v208 w25 ho26 hb hg_ hnew_; clear hg_ hnew_; (first | rw [← Ny207.out] at ho26 | (simp only [Int.reduceToNat] at ho26; rw [← Ny207.out] at ho26)); have n0_ := aM (Kd.R_lower ho26 (below_size (px_h1 HB.out GE201.out))); have n1_ := aM (blk_below (g := gb201) (o := .cells #[.slice A0_0 l0_0.length c0_0, .slice A0_1 l0_1.length c0_1] 30 (0, 0)) (px_bV BK201.out) hb); have n2_ := aM (below_step (px_h1 HB.out GE201.out) hb); clear BK201; clear HB; have HO209 := n0_; have BK201 := n1_; have HB := n2_; clear n0_ n1_ n2_; clear hb ho26; have hcz27_0 : w25.cell? ⟨gb201, 0, none⟩ = some (.slice A0_0 l0_0.length c0_0) := (blk_cell BK201.out 0).trans rfl; have hcz27_1 : w25.cell? ⟨gb201, 1, none⟩ = some (.slice A0_1 l0_1.length c0_1) := (blk_cell BK201.out 1).trans rfl; have hfz27_0 := blk_frozen BK201.out 0; have hfz27_1 := blk_frozen BK201.out 1))
      go_loopg [4, 41] kj1 (fun kq v4 v41 w' => ∃ (x3_2 : List Int) (x4_2 : Int) (x41_2 : Int), v4 = .int .i64 x4_2 ∧ v41 = .int .i64 x41_2 ∧ Aside0 (impl_DictOk.l0 kq x3_2 x4_2 l0_0 (l0_0.length : Int) x41_2 l0_0 l0_1 = some r) ∧ Aside0 (kq ≤ kj1) ∧ Aside0 (Kd.R (Kd.int .i64) 3 w' w.heap.size (fun _ => True) v208 x3_2) ∧ Aside0 (w'.heap[gb201]? = some (.cells #[(.slice A0_0 l0_0.length c0_0), (.slice A0_1 l0_1.length c0_1)] 30 (0, 0))) ∧ Aside0 (Below w.heap.size w w'))
      case atStart => exact ⟨(y207), (0), (0), px_rf, px_rf, H', ⟨Nat.le_refl _⟩, ⟨px_rV HO209.out⟩, ⟨px_bV BK201.out⟩, ⟨px_h1 HB.out GE201.out⟩⟩
      case round =>
       clear H'
       try clear c1
       try clear c2
       try clear p2
       try clear c5
       try clear c6
       try clear c6b0
       try clear p6
       try clear c16
       try clear c21
       try clear c22
       try clear c22b0
       try clear c22b1
       try clear c23
       try clear c23b0
       try clear c23b1
       try clear hcz14_0
       try clear hcz14_1
       try clear hcz19_0
       try clear hcz19_1
       try clear hcz24_0
       try clear hcz24_1
       try clear hcz27_0
       try clear hcz27_1
       try clear hcz9_0
       try clear hcz9_1
       try clear hfz14_0
       try clear hfz14_1
       try clear hfz19_0
       try clear hfz19_1
       try clear hfz24_0
       try clear hfz24_1
       try clear hfz27_0
       try clear hfz27_1
       try clear hfz9_0
       try clear hfz9_1
       try clear p2
       try clear p6
       obtain ⟨x3_2, x4_2, x41_2, rfl, rfl, HA, HK2, HO_3, BK201, HB⟩ := hrel
       cases gk with
       | zero => exact absurd HA.out (by simp [impl_DictOk.l0])
       | succ k2 =>
        have H := HA.out
        clear HA
        simp only [impl_DictOk.l0] at H
        by_cases c28 : x41_2 < (l0_0.length : Int)
        ·rw [if_pos c28] at H
         have c28b0 : decide (x41_2 < (l0_0.length : Int)) = true := decide_eq_true c28
         clear c28
         by_cases c29 : 0 ≤ x41_2
         ·rw [if_pos c29] at H
          have c29b0 : decide (0 ≤ x41_2) = true := decide_eq_true c29
          clear c29
          by_cases c30 : x41_2 < (l0_0.length : Int)
          ·rw [if_pos c30] at H
           have c30b0 : decide (x41_2 < (l0_0.length : Int)) = true := decide_eq_true c30
           clear c30
           by_cases c31 : (rd l0_0 x41_2) = (-2)
           ·rw [if_pos c31] at H
            have c31b0 : ((rd l0_0 x41_2) == (-2)) = true := beq_iff_eq.mpr c31
            have c31b1 : ((rd l0_0 x41_2) != (-2)) = false := bne_eq_false_iff_eq.mpr c31
            clear c31
            have H' := aM H
            clear H
            have p210 : 0 ≤ (x41_2 : Int) := px_od
            have q210 : x41_2 < (l0_0.length : Int) := px_od
            obtain ⟨ad210, e210, hx210_0⟩ := Kd.at_int HR0_0.out x41_2 p210 q210
            cases e210
            replace hx210_0 := px_hx HB.out hx210_0
            replace p210 := eq_true p210
            replace q210 := eq_true q210
            go_wp2
            go_roundg k2
            case measure => have := HJ1.out; have := HK2.out; omega
            case rel => exact ⟨(x3_2), (wrap64 (x4_2 + 1)), (wrap64 (x41_2 + 1)), px_rf, px_rf, H', ⟨by have := HJ1.out; have := HK2.out; omega⟩, ⟨px_rV HO_3.out⟩, ⟨px_bV BK201.out⟩, ⟨px_h1 HB.out GE201.out⟩⟩
           ·rw [if_neg c31] at H
            have c31b0 : ((rd l0_0 x41_2) == (-2)) = false := beq_eq_false_iff_ne.mpr c31
            have c31b1 : ((rd l0_0 x41_2) != (-2)) = true := bne_iff_ne.mpr c31
            by_cases c32 : (rd l0_0 x41_2) = (-1)
            ·rw [if_pos c32] at H
             have c32b0 : ((rd l0_0 x41_2) == (-1)) = true := beq_iff_eq.mpr c32
             have c32b1 : ((rd l0_0 x41_2) != (-1)) = false := bne_eq_false_iff_eq.mpr c32
             clear c32
             have H' := aM H
             clear H
             have p210 : 0 ≤ (x41_2 : Int) := px_od
             have q210 : x41_2 < (l0_0.length : Int) := px_od
             obtain ⟨ad210, e210, hx210_0⟩ := Kd.at_int HR0_0.out x41_2 p210 q210
             cases e210
             replace hx210_0 := px_hx HB.out hx210_0
             replace p210 := eq_true p210
             replace q210 := eq_true q210
             go_wp2
             go_roundg k2
             case measure => have := HJ1.out; have := HK2.out; omega
             case rel => exact ⟨(x3_2), (x4_2), (wrap64 (x41_2 + 1)), px_rf, px_rf, H', ⟨by have := HJ1.out; have := HK2.out; omega⟩, ⟨px_rV HO_3.out⟩, ⟨px_bV BK201.out⟩, ⟨px_h1 HB.out GE201.out⟩⟩
            ·rw [if_neg c32] at H
             have c32b0 : ((rd l0_0 x41_2) == (-1)) = false := beq_eq_false_iff_ne.mpr c32
             have c32b1 : ((rd l0_0 x41_2) != (-1)) = true := bne_iff_ne.mpr c32
             have HC33 := aM H
             clear H
             have p210 : 0 ≤ (x41_2 : Int) := px_od
             have q210 : x41_2 < (l0_0.length : Int) := px_od
             obtain ⟨ad210, e210, hx210_0⟩ := Kd.at_int HR0_0.out x41_2 p210 q210
             cases e210
             replace hx210_0 := px_hx HB.out hx210_0
             replace p210 := eq_true p210
             replace q210 := eq_true q210
             go_upto_region 12 with (fail)
             go_cut [59] (fun v59 wc => ∃ (kq : Nat) (x59_32 : Bool), v59 = .bool x59_32 ∧ Aside0 (impl_DictOk.j2 kq x3_2 x4_2 (rd l0_0 x41_2) l0_0 (l0_0.length : Int) x41_2 x59_32 l0_0 l0_1 = some r) ∧ Aside0 (kq ≤ k2) ∧ Aside0 (Kd.R (Kd.int .i64) 3 wc w.heap.size (fun _ => True) v208 x3_2) ∧ Aside0 (wc.heap[gb201]? = some (.cells #[(.slice (some ad210) l0_0.length c0_0), (.slice A0_1 l0_1.length c0_1)] 30 (0, 0))) ∧ Aside0 (Below w.heap.size w wc))
             case first =>
              have H := HC33.out
              clear HC33
              by_cases c34 : (rd l0_0 x41_2) < 0
              ·rw [if_pos c34] at H
               have c34b0 : decide ((rd l0_0 x41_2) < 0) = true := decide_eq_true c34
               clear c34
               (first | rw [c34b0] | (simp only [i64_w, i32_w]; rw [c34b0]) | skip)
               have H' := aM H
               clear H
               go_wp2
               go_meet
               case rel => exact ⟨_, (true), px_rf, H', ⟨by have := HJ1.out; have := HK2.out; first | omega | exact Nat.le_refl _⟩, ⟨px_rV HO_3.out⟩, ⟨px_bV BK201.out⟩, ⟨px_h1 HB.out GE201.out⟩⟩
              ·rw [if_neg c34] at H
               have c34b0 : decide ((rd l0_0 x41_2) < 0) = false := decide_eq_false c34
               clear c34
               (first | rw [c34b0] | (simp only [i64_w, i32_w]; rw [c34b0]) | skip)
               by_cases c35 : (rd l0_0 x41_2) ≥ (l0_1.length : Int)
               ·rw [if_pos c35] at H
                have c35b0 : decide ((l0_1.length : Int) ≤ (rd l0_0 x41_2)) = true := decide_eq_true c35
                clear c35
                have H' := aM H
                clear H
                have hcz36_0 : wr.cell? ⟨gb201, 0, none⟩ = some (.slice (some ad210) l0_0.length c0_0) := (blk_cell BK201.out 0).trans rfl
                have hcz36_1 : wr.cell? ⟨gb201, 1, none⟩ = some (.slice A0_1 l0_1.length c0_1) := (blk_cell BK201.out 1).trans rfl
                have hfz36_0 := blk_frozen BK201.out 0
                have hfz36_1 := blk_frozen BK201.out 1
                go_wp2
                go_meet
                case rel => exact ⟨_, (true), px_rf, H', ⟨by have := HJ1.out; have := HK2.out; first | omega | exact Nat.le_refl _⟩, ⟨px_rV HO_3.out⟩, ⟨px_bV BK201.out⟩, ⟨px_h1 HB.out GE201.out⟩⟩
               ·rw [if_neg c35] at H
                have c35b0 : decide ((l0_1.length : Int) ≤ (rd l0_0 x41_2)) = false := decide_eq_false c35
                clear c35
                by_cases c37 : 0 ≤ (rd l0_0 x41_2)
                ·rw [if_pos c37] at H
                 have c37b0 : decide (0 ≤ (rd l0_0 x41_2)) = true := decide_eq_true c37
                 clear c37
                 by_cases c38 : (rd l0_0 x41_2) < (l0_1.length : Int)
                 ·rw [if_pos c38] at H
                  have c38b0 : decide ((rd l0_0 x41_2) < (l0_1.length : Int)) = true := decide_eq_true c38
                  clear c38
                  have H' := aM H
                  clear H
                  have hcz39_0 : wr.cell? ⟨gb201, 0, none⟩ = some (.slice (some ad210) l0_0.length c0_0) := (blk_cell BK201.out 0).trans rfl
                  have hcz39_1 : wr.cell? ⟨gb201, 1, none⟩ = some (.slice A0_1 l0_1.length c0_1) := (blk_cell BK201.out 1).trans rfl
                  have hfz39_0 := blk_frozen BK201.out 0
                  have hfz39_1 := blk_frozen BK201.out 1
                  have p211 : 0 ≤ ((rd l0_0 x41_2) : Int) := px_od
                  have q211 : (rd l0_0 x41_2) < (l0_1.length : Int) := px_od
                  obtain ⟨ad211, e211, hx211_0, hx211_1, hx211_2, hx211_3⟩ := at_T38 HR0_1.out (rd l0_0 x41_2) p211 q211
                  cases e211
                  replace hx211_0 := px_hx HB.out hx211_0
                  replace hx211_1 := px_hx HB.out hx211_1
                  replace hx211_2 := px_hx HB.out hx211_2
                  replace hx211_3 := px_hx HB.out hx211_3
                  replace p211 := eq_true p211
                  replace q211 := eq_true q211
                  go_wp2
                  go_meet
                  case rel => exact ⟨_, (!((rd_T38 l0_1 (rd l0_0 x41_2)).f3)), px_rf, H', ⟨by have := HJ1.out; have := HK2.out; first | omega | exact Nat.le_refl _⟩, ⟨px_rV HO_3.out⟩, ⟨px_bV BK201.out⟩, ⟨px_h1 HB.out GE201.out⟩⟩
                 ·rw [if_neg c38] at H
                  exact absurd H (by simp)
                ·rw [if_neg c37] at H
                 exact absurd H (by simp)
             case rest =>
              clear HC33
              try clear c1
              try clear c2
              try clear p2
              try clear q2
              try clear hx2
              try clear c3
              try clear c5
              try clear c6
              try clear c6b0
              try clear p6
              try clear c16
              try clear c21
              try clear p21
              try clear q21
              try clear hx21
              try clear c22
              try clear c22b0
              try clear c22b1
              try clear c23
              try clear c23b0
              try clear c23b1
              try clear c28
              try clear c28b0
              try clear c29
              try clear c29b0
              try clear c30
              try clear c30b0
              try clear c31
              try clear c31b0
              try clear c31b1
              try clear c32
              try clear c32b0
              try clear c32b1
              try clear c34
              try clear c34b0
              try clear c35
              try clear c35b0
              try clear c37
              try clear c37b0
              try clear c38
              try clear c38b0
              try clear hcz14_0
              try clear hcz14_1
              try clear hcz19_0
              try clear hcz19_1
              try clear hcz24_0
              try clear hcz24_1
              try clear hcz27_0
              try clear hcz27_1
              try clear hcz36_0
              try clear hcz36_1
              try clear hcz39_0
              try clear hcz39_1
              try clear hcz9_0
              try clear hcz9_1
              try clear hfz14_0
              try clear hfz14_1
              try clear hfz19_0
              try clear hfz19_1
              try clear hfz24_0
              try clear hfz24_1
              try clear hfz27_0
              try clear hfz27_1
              try clear hfz36_0
              try clear hfz36_1
              try clear hfz39_0
              try clear hfz39_1
              try clear hfz9_0
              try clear hfz9_1
              try clear hx210_0
              try clear hx211_0
              try clear hx211_1
              try clear hx211_2
              try clear hx211_3
              try clear p2
              try clear p210
              try clear p211
              try clear p6
              try clear q210
              try clear q211
              obtain ⟨kq, x59_32, rfl, HA, HJ32, HO_3, BK201, HB⟩ := hcut
              cases kq with
              | zero => exact absurd HA.out (by simp [impl_DictOk.j2])
              | succ kj32 =>
               have H := HA.out
               clear HA
               simp only [impl_DictOk.j2] at H
               by_cases c40 : x59_32 = true
               ·subst c40
                have H1 : (some false) = some r := by rw [if_pos rfl] at H; exact H
                clear H
                have H := H1
                clear H1
                obtain rfl := Option.some.inj H
                go_wp2
                go_ret
                exact ⟨by first | rfl | (simp [errW_none, errW_some] <;> rfl) | (simp [*, errW_none, errW_some] <;> rfl), px_h1 HB.out GE201.out⟩
               ·replace c40 := Bool.eq_false_iff.mpr c40
                subst c40
                have H1 : (if 0 ≤ (rd l0_0 x41_2) then (if (rd l0_0 x41_2) < (x3_2.length : Int) then (impl_DictOk.l0 kj32 (x3_2.set ((rd l0_0 x41_2) : Int).toNat (wrap64 ((rd x3_2 (rd l0_0 x41_2)) + 1))) x4_2 l0_0 (l0_0.length : Int) (wrap64 (x41_2 + 1)) l0_0 l0_1) else (none)) else (none)) = some r := by rw [if_neg (show ¬ (false = true) by decide)] at H; exact H
                clear H
                have H := H1
                clear H1
                by_cases c41 : 0 ≤ (rd l0_0 x41_2)
                ·rw [if_pos c41] at H
                 have c41b0 : decide (0 ≤ (rd l0_0 x41_2)) = true := decide_eq_true c41
                 clear c41
                 by_cases c42 : (rd l0_0 x41_2) < (x3_2.length : Int)
                 ·rw [if_pos c42] at H
                  have c42b0 : decide ((rd l0_0 x41_2) < (x3_2.length : Int)) = true := decide_eq_true c42
                  clear c42
                  obtain ⟨y213, hy213⟩ : ∃ y_ : List Int, y_ = (x3_2.set ((rd l0_0 x41_2) : Int).toNat (wrap64 ((rd x3_2 (rd l0_0 x41_2)) + 1))) := ⟨_, rfl⟩
                  replace H : (impl_DictOk.l0 kj32 y213 x4_2 l0_0 (l0_0.length : Int) (wrap64 (x41_2 + 1)) l0_0 l0_1) = some r := by first | (rw [hy213]; with_reducible exact H) | (have H2_ := (Option.bind_some _ _).symm.trans H; rw [hy213]; with_reducible exact H2_) | (have H2_ := (Option.bind_some _ _).symm.trans H; with_reducible exact H2_) | with_reducible exact H | (rw [hy213]; exact H) | exact H
                  have Ny213 := aM hy213
                  clear hy213
                  have H' := aM H
                  clear H
                  obtain ⟨Ao44, co44, eo44⟩ := Kd.R_slice HO_3.out
                  subst eo44
                  have p212 : 0 ≤ ((rd l0_0 x41_2) : Int) := px_od
                  have q212 : (rd l0_0 x41_2) < (x3_2.length : Int) := px_od
                  obtain ⟨ad212, e212, hx212_0⟩ := Kd.at_int (Kd.R_reads' HO_3.out).2.2 (rd l0_0 x41_2) p212 q212
                  cases e212
                  replace p212 := eq_true p212
                  replace q212 := eq_true q212
                  have p43 : 0 ≤ ((rd l0_0 x41_2) : Int) := px_od
                  have q43 : ((rd l0_0 x41_2) : Int) < ((x3_2.length : Int) : Int) := px_od
                  obtain ⟨go43, co43, eo43, gb43, gl43, cl43, HG43⟩ := Kd.R_form HO_3.out (by omega)
                  (first | cases eo43 | (injection eo43 with ea_ en_ ec_; (first | subst ea_ | (injection ea_ with ea_; subst ea_)); subst ec_; clear en_))
                  have GB43 := aM gb43
                  have GG43 := aM HG43
                  clear gb43 gl43 HG43
                  (first | simp only [add_plain] at hx212_0 | skip)
                  obtain ⟨hx43_0, hf43_0⟩ := Kd.R_celln 0 HO_3.out ((rd l0_0 x41_2) : Int) p43 q43
                  replace p43 := eq_true p43
                  replace q43 := eq_true q43
                  have HP45 := Kd.R_putg HO_3.out ((rd l0_0 x41_2) : Int) (wrap64 ((rd x3_2 (rd l0_0 x41_2)) + 1))
                  go_wp2_with (first | ((with_reducible refine gate_store (t := 3) (p := 50) rfl ?_); refine store_event (t := 3) (p := 50) (v := ?vo_w46) (w1 := (wc.setCell ⟨go43, ((rd l0_0 x41_2) : Int).toNat, none⟩ (.int .i64 (wrap64 ((rd x3_2 (rd l0_0 x41_2)) + 1))))) ?hg ?ho ?hn ?hr ?_; (case ho => rfl); (case hg => rfl); (case hn => rfl); (case hr => first | (go_simp; done) | (go_simp; rfl)); intro w46 hw; have hg : wc.grownBy w46 (some go43) := (by rw [hw]; exact HP45.2); have hp_ : Kd.R (Kd.int .i64) 3 w46 w.heap.size (fun _ => True) (.slice (some ⟨go43, 0, none⟩) x3_2.length co44) y213 := (by rw [hw, Ny213.out]; exact HP45.1); clear HP45; have n0_ := aM (hp_); have n1_ := aM (blk_grown (g := gb201) (o := .cells #[.slice (some ad210) l0_0.length c0_0, .slice A0_1 l0_1.length c0_1] 30 (0, 0)) (px_bV BK201.out) hg (Kd.R_ne HO_3.out BK201.out (by decide))); have n2_ := aM ((by rw [hw]; exact below_set (HB.out) GB43.out : Below w.heap.size w w46)); clear HO_3; clear BK201; clear HB; have HO_3 := n0_; have BK201 := n1_; have HB := n2_; clear n0_ n1_ n2_; clear hg hw hp_))
                  go_roundg kj32
                  case measure => have := HJ1.out; have := HK2.out; have := HJ32.out; omega
                  case rel => exact ⟨(y213), (x4_2), (wrap64 (x41_2 + 1)), px_rf, px_rf, H', ⟨by have := HJ1.out; have := HK2.out; have := HJ32.out; omega⟩, ⟨px_rV HO_3.out⟩, ⟨px_bV BK201.out⟩, ⟨px_h1 HB.out GE201.out⟩⟩
                 ·rw [if_neg c42] at H
                  exact absurd H (by simp)
                ·rw [if_neg c41] at H
                 exact absurd H (by simp)
          ·rw [if_neg c30] at H
           exact absurd H (by simp)
         ·rw [if_neg c29] at H
          exact absurd H (by simp)
        ·rw [if_neg c28] at H
         have c28b0 : decide (x41_2 < (l0_0.length : Int)) = false := decide_eq_false c28
         clear c28
         replace H := Option.bind_eq_some_iff.mp H
         obtain ⟨t214, A470, H⟩ := H
         replace H : (if x4_2 = (wrap64 ((l0_1.length : Int) - t214)) then (impl_DictOk.l1 k2 x3_2 l0_1 (l0_1.length : Int) 0 l0_0 l0_1) else (some false)) = some r := H
         have A47 := aM A470
         clear A470
         by_cases c48 : x4_2 = (wrap64 ((l0_1.length : Int) - t214))
         ·rw [if_pos c48] at H
          have c48b0 : (x4_2 == (wrap64 ((l0_1.length : Int) - t214))) = true := beq_iff_eq.mpr c48
          have c48b1 : (x4_2 != (wrap64 ((l0_1.length : Int) - t214))) = false := bne_eq_false_iff_eq.mpr c48
          clear c48
          have H' := aM H
          clear H
          try go_wp2
          have n0_ := aM (Kd.R_drew HO_3.out)
          have n1_ := aM (blk_drew BK201.out)
          have n2_ := aM (below_drew1 HB.out)
          clear HO_3
          clear BK201
          clear HB
          have HO_3 := n0_
          have BK201 := n1_
          have HB := n2_
          clear n0_ n1_ n2_
          refine start_ (n := 8) (S := fun w' => w'.cell? ⟨gb201, 0, none⟩ = some (.slice A0_0 l0_0.length c0_0) ∧ w'.cell? ⟨gb201, 1, none⟩ = some (.slice A0_1 l0_1.length c0_1)) (ds := []) (px_l 0 8) (by kernel_rfl) rfl rfl ⟨(blk_cell BK201.out 0).trans rfl, (blk_cell BK201.out 1).trans rfl⟩ (fun hHeld => ?_); refine with_tabW impl_DictOk.tab15 impl_DictOk.bits15 (fun HT_ HW_ => ?_)
          generalize wr.drew = w49 at HO_3 BK201 HB hHeld ⊢
          refine pure_ (i := 0) (N := some 79) (v := ?_) (a' := ?_) (px_l 1 7) rfl rfl (any_of HT_.out (by kernel_rfl)) (fun _ _ _ h => h) (Or.inl ⟨by rfl, ?_⟩) ?_ ?_
          rotate_left
          ·intro w'
           go_simp
           with_reducible rfl
          rotate_left
          ·simp only [px_q]
           rfl
          refine pure_ (i := 1) (N := some 80) (v := ?_) (a' := ?_) (px_l 2 6) rfl rfl (any_of HT_.out (by kernel_rfl)) (fun _ _ _ h => h) (Or.inl ⟨by rfl, ?_⟩) ?_ ?_
          rotate_left
          ·intro w'
           go_simp
           with_reducible rfl
          rotate_left
          ·simp only [px_q]
           rfl
          refine take_ (i := 2) (N := some 81) (v := ?_) (a' := ?_) (px_l 3 5) rfl rfl (take_ofW HT_.out HW_.out (by kernel_rfl)) (fun _ _ _ h => h) (Or.inl ⟨by rfl, ?_⟩) hHeld ?_ ?_
          rotate_left
          ·rintro w' ⟨s0, s1⟩
           go_simp
           with_reducible rfl
          rotate_left
          ·simp only [px_q]
           rfl
          refine pure_ (i := 3) (N := some 82) (v := ?_) (a' := ?_) (px_l 4 4) rfl rfl (any_of HT_.out (by kernel_rfl)) (fun _ _ _ h => h) (Or.inl ⟨by rfl, ?_⟩) ?_ ?_
          rotate_left
          ·intro w'
           go_simp
           with_reducible rfl
          rotate_left
          ·simp only [px_q]
           rfl
          refine take_ (i := 4) (N := some 83) (v := ?_) (a' := ?_) (px_l 5 3) rfl rfl (take_ofW HT_.out HW_.out (by kernel_rfl)) (fun _ _ _ h => h) (Or.inl ⟨by rfl, ?_⟩) hHeld ?_ ?_
          rotate_left
          ·rintro w' ⟨s0, s1⟩
           go_simp
           with_reducible rfl
          rotate_left
          ·simp only [px_q]
           rfl
          refine one_ (i := 5) (N := some 84) (px_l 6 2) rfl rfl (one_of HT_.out (by kernel_rfl)) (by decide) (fun K hK => ?_)
          refine goes_ Try.func17 (by kernel_rfl) rfl #[.agg #[.slice A0_0 l0_0.length c0_0, .slice A0_1 l0_1.length c0_1]] (by rfl) rfl rfl px_dn ?_
          with_reducible refine (impl_Dict_live.calls k2 _ _ l0_0 _ _ l0_1 t214 _ ?side1 ?side2 ?side3 ?side4 A47.out).mono ?_
          (case side1 => exact px_cV ((Kd.C_below HR0_0.out HB.out)))
          (case side2 => exact HC0_0.out)
          (case side3 => exact px_cV ((Kd.C_below HR0_1.out HB.out)))
          (case side4 => exact HC0_1.out)
          rintro e w50 ⟨rfl, hb⟩
          refine ⟨_, rfl, ?_⟩
          have n0_ := aM (Kd.R_below (px_rV HO_3.out) hb)
          have n1_ := aM (blk_below (g := gb201) (o := .cells #[.slice A0_0 l0_0.length c0_0, .slice A0_1 l0_1.length c0_1] 30 (0, 0)) (px_bV BK201.out) hb)
          have n2_ := aM (below_step (px_h1 HB.out GE201.out) hb)
          clear HO_3
          clear BK201
          clear HB
          have HO_3 := n0_
          have BK201 := n1_
          have HB := n2_
          clear n0_ n1_ n2_
          (try clear hb)
          (try clear hb2)
          (try clear hk)
          (try clear hi)
          refine hK.out _ _ ⟨(blk_cell BK201.out 0).trans rfl, (blk_cell BK201.out 1).trans rfl⟩ (fun hHeld => ?_)
          clear hK K
          refine norm_ (a' := ?_) ?_ ?_
          rotate_left
          ·show Act.put _ (some 84) _ = _
           simp only [px_q]
           rfl
          refine pure_ (i := 6) (N := some 85) (v := ?_) (a' := ?_) (px_l 7 1) rfl rfl (any_of HT_.out (by kernel_rfl)) (fun _ _ _ h => h) (Or.inl ⟨by rfl, ?_⟩) ?_ ?_
          rotate_left
          ·intro w'
           go_simp
           with_reducible rfl
          rotate_left
          ·simp only [px_q]
           rfl
          refine pure_ (i := 7) (N := some 86) (v := ?_) (a' := ?_) (px_l 8 0) rfl rfl (any_of HT_.out (by kernel_rfl)) (fun _ _ _ h => h) (Or.inl ⟨by rfl, ?_⟩) ?_ ?_
          rotate_left
          ·intro w'
           go_simp
           with_reducible rfl
          rotate_left
          ·simp only [px_q]
           rfl
          refine done_ (done_of HT_.out (by kernel_rfl)) ?_
          have hcz51_0 : w50.cell? ⟨gb201, 0, none⟩ = some (.slice A0_0 l0_0.length c0_0) := (blk_cell BK201.out 0).trans rfl
          have hcz51_1 : w50.cell? ⟨gb201, 1, none⟩ = some (.slice A0_1 l0_1.length c0_1) := (blk_cell BK201.out 1).trans rfl
          have hfz51_0 := blk_frozen BK201.out 0
          have hfz51_1 := blk_frozen BK201.out 1
          try go_wp2
          go_loopg [90] k2 (fun kq v90 w' => ∃ (x90_3 : Int), v90 = .int .i64 x90_3 ∧ Aside0 (impl_DictOk.l1 kq x3_2 l0_1 (l0_1.length : Int) x90_3 l0_0 l0_1 = some r) ∧ Aside0 (kq ≤ k2) ∧ Aside0 (Kd.R (Kd.int .i64) 3 w' w.heap.size (fun _ => True) v208 x3_2) ∧ Aside0 (w'.heap[gb201]? = some (.cells #[(.slice A0_0 l0_0.length c0_0), (.slice A0_1 l0_1.length c0_1)] 30 (0, 0))) ∧ Aside0 (Below w.heap.size w w'))
          case atStart => exact ⟨(0), px_rf, H', ⟨Nat.le_refl _⟩, ⟨px_rV HO_3.out⟩, ⟨px_bV BK201.out⟩, ⟨px_h1 HB.out GE201.out⟩⟩
          case round =>
           clear H'
           try clear c1
           try clear c2
           try clear p2
           try clear q2
           try clear hx2
           try clear c3
           try clear c4
           try clear p4
           try clear q4
           try clear hx4
           try clear hf4
           try clear c5
           try clear c6
           try clear c6b0
           try clear p6
           try clear c16
           try clear c17
           try clear c21
           try clear p21
           try clear q21
           try clear hx21
           try clear c22
           try clear c22b0
           try clear c22b1
           try clear c23
           try clear c23b0
           try clear c23b1
           try clear c28
           try clear c28b0
           try clear c29
           try clear c29b0
           try clear c30
           try clear c30b0
           try clear c31
           try clear c31b0
           try clear c31b1
           try clear c32
           try clear c32b0
           try clear c32b1
           try clear c34
           try clear c34b0
           try clear c35
           try clear c35b0
           try clear c37
           try clear c37b0
           try clear c38
           try clear c38b0
           try clear c40
           try clear c41
           try clear c41b0
           try clear c42
           try clear c42b0
           try clear p43
           try clear q43
           try clear hx43
           try clear hf43
           try clear c48
           try clear c48b0
           try clear c48b1
           try clear hcz14_0
           try clear hcz14_1
           try clear hcz19_0
           try clear hcz19_1
           try clear hcz24_0
           try clear hcz24_1
           try clear hcz27_0
           try clear hcz27_1
           try clear hcz36_0
           try clear hcz36_1
           try clear hcz39_0
           try clear hcz39_1
           try clear hcz51_0
           try clear hcz51_1
           try clear hcz9_0
           try clear hcz9_1
           try clear hfz14_0
           try clear hfz14_1
           try clear hfz19_0
           try clear hfz19_1
           try clear hfz24_0
           try clear hfz24_1
           try clear hfz27_0
           try clear hfz27_1
           try clear hfz36_0
           try clear hfz36_1
           try clear hfz39_0
           try clear hfz39_1
           try clear hfz51_0
           try clear hfz51_1
           try clear hfz9_0
           try clear hfz9_1
           try clear hx210_0
           try clear hx211_0
           try clear hx211_1
           try clear hx211_2
           try clear hx211_3
           try clear hx212_0
           try clear hx43_0
           try clear p2
           try clear p21
           try clear p210
           try clear p211
           try clear p212
           try clear p43
           try clear p6
           try clear q2
           try clear q21
           try clear q210
           try clear q211
           try clear q212
           try clear q43
           obtain ⟨x90_3, rfl, HA, HK3, HO_3, BK201, HB⟩ := hrel
           cases gk with
           | zero => exact absurd HA.out (by simp [impl_DictOk.l1])
           | succ k3 =>
            have H := HA.out
            clear HA
            simp only [impl_DictOk.l1] at H
            by_cases c52 : x90_3 < (l0_1.length : Int)
            ·rw [if_pos c52] at H
             have c52b0 : decide (x90_3 < (l0_1.length : Int)) = true := decide_eq_true c52
             clear c52
             by_cases c53 : 0 ≤ x90_3
             ·rw [if_pos c53] at H
              have c53b0 : decide (0 ≤ x90_3) = true := decide_eq_true c53
              clear c53
              by_cases c54 : x90_3 < (l0_1.length : Int)
              ·rw [if_pos c54] at H
               have c54b0 : decide (x90_3 < (l0_1.length : Int)) = true := decide_eq_true c54
               clear c54
               obtain ⟨bq55, hbq55⟩ : ∃ b_ : Bool, b_ = ((rd_T38 l0_1 x90_3).f3) := ⟨_, rfl⟩
               replace H : (if (bq55 = true) then (if x90_3 < (x3_2.length : Int) then (if (rd x3_2 x90_3) = 1 then (if (((rd_T38 l0_1 x90_3).f0).size : Int) > 20 then (impl_DictOk.j4 k3 x3_2 l0_1 (l0_1.length : Int) x90_3 true l0_0 l0_1) else ((impl_DictHash.f k3 ((rd_T38 l0_1 x90_3).f0)).bind fun t218 => (if ((rd_T38 l0_1 x90_3).f1) = t218 then ((impl_within.f ((rd_T38 l0_1 x90_3).f2) (-1000000) 1000000).bind fun t219 => (impl_DictOk.j4 k3 x3_2 l0_1 (l0_1.length : Int) x90_3 (!t219) l0_0 l0_1)) else (impl_DictOk.j4 k3 x3_2 l0_1 (l0_1.length : Int) x90_3 true l0_0 l0_1)))) else (impl_DictOk.j4 k3 x3_2 l0_1 (l0_1.length : Int) x90_3 true l0_0 l0_1)) else (none)) else (if (!((((rd_T38 l0_1 x90_3).f0).toList) == ([] : List UInt8)) || (!(((rd_T38 l0_1 x90_3).f1) == 0) || (!(((rd_T38 l0_1 x90_3).f2) == 0) || ((bq55))))) = true then (some false) else (impl_DictOk.l1 k3 x3_2 l0_1 (l0_1.length : Int) (wrap64 (x90_3 + 1)) l0_0 l0_1))) = some r := by rw [← hbq55] at H; exact H
               have Nbq55 := aM hbq55
               clear hbq55
               by_cases c56 : (bq55 = true)
               ·subst c56
                have H1 : (if x90_3 < (x3_2.length : Int) then (if (rd x3_2 x90_3) = 1 then (if (((rd_T38 l0_1 x90_3).f0).size : Int) > 20 then (impl_DictOk.j4 k3 x3_2 l0_1 (l0_1.length : Int) x90_3 true l0_0 l0_1) else ((impl_DictHash.f k3 ((rd_T38 l0_1 x90_3).f0)).bind fun t218 => (if ((rd_T38 l0_1 x90_3).f1) = t218 then ((impl_within.f ((rd_T38 l0_1 x90_3).f2) (-1000000) 1000000).bind fun t219 => (impl_DictOk.j4 k3 x3_2 l0_1 (l0_1.length : Int) x90_3 (!t219) l0_0 l0_1)) else (impl_DictOk.j4 k3 x3_2 l0_1 (l0_1.length : Int) x90_3 true l0_0 l0_1)))) else (impl_DictOk.j4 k3 x3_2 l0_1 (l0_1.length : Int) x90_3 true l0_0 l0_1)) else (none)) = some r := by rw [if_pos rfl] at H; exact H
                clear H
                have H := H1
                clear H1
                have HC57 := aM H
                clear H
                have p215 : 0 ≤ (x90_3 : Int) := px_od
                have q215 : x90_3 < (l0_1.length : Int) := px_od
                obtain ⟨ad215, e215, hx215_0, hx215_1, hx215_2, hx215_3⟩ := at_T38 HR0_1.out x90_3 p215 q215
                (try rw [← Nbq55.out] at hx215_3)
                (try rw [← Nbq55.out] at hw215_3)
                cases e215
                replace hx215_0 := px_hx HB.out hx215_0
                replace hx215_1 := px_hx HB.out hx215_1
                replace hx215_2 := px_hx HB.out hx215_2
                replace hx215_3 := px_hx HB.out hx215_3
                replace p215 := eq_true p215
                replace q215 := eq_true q215
                go_upto_region 23 with (first | ((with_reducible refine gate_dst (N := 8) rfl ?_); (try (refine gate_guard (by rfl) ?_; dsimp only)); refine box_event ?hg (N := 8) ?hd (cs := #[.string (⟨#[]⟩ : ByteArray), .int .i64 0, .int .i64 0, .bool false]) (t := 38) ?hr ?_; (case hd => rfl); (case hg => rfl); (case hr => first | (go_simp; done) | (go_simp; rfl)); intro gb216 hg w58 hbox hb; have n0_ := aM (Kd.R_below (px_rV HO_3.out) hb); have n1_ := aM (blk_below (g := gb201) (o := .cells #[.slice A0_0 l0_0.length c0_0, .slice (some ad215) l0_1.length c0_1] 30 (0, 0)) (px_bV BK201.out) hb); have n2_ := aM (below_step (px_h1 HB.out GE201.out) hb); have n3_ := aM (hbox); have n4_ := aM ((by rw [hg]; exact (below_size (px_h1 HB.out GE201.out)) : w.heap.size ≤ gb216)); have n5_ := aM ((by rw [hg]; exact (below_size (px_h1 HB.out GE201.out)) : w.heap.size ≤ gb216)); have n6_ := aM ((by rw [hg]; exact Nat.ne_of_lt (blk_lt (g := gb201) (o := .cells #[.slice A0_0 l0_0.length c0_0, .slice (some ad215) l0_1.length c0_1] 30 (0, 0)) (px_bV BK201.out)) : gb201 ≠ gb216)); have n7_ := aM ((by rw [hg]; exact Nat.ne_of_gt (blk_lt (g := gb201) (o := .cells #[.slice A0_0 l0_0.length c0_0, .slice (some ad215) l0_1.length c0_1] 30 (0, 0)) (px_bV BK201.out)) : gb216 ≠ gb201)); clear HO_3; clear BK201; clear HB; have HO_3 := n0_; have BK201 := n1_; have HB := n2_; have BK216 := n3_; have GW216 := n4_; have GE216 := n5_; have NB201_216 := n6_; have NB216_201 := n7_; clear n0_ n1_ n2_ n3_ n4_ n5_ n6_ n7_; clear hb hbox hg; have hnb59 := NB216_201.out; have hnc59 := NB201_216.out; have hcz60_0 : w58.cell? ⟨gb216, 0, none⟩ = some (.string (⟨#[]⟩ : ByteArray)) := (blk_cell BK216.out 0).trans rfl; have hcz60_1 : w58.cell? ⟨gb216, 1, none⟩ = some (.int .i64 0) := (blk_cell BK216.out 1).trans rfl; have hcz60_2 : w58.cell? ⟨gb216, 2, none⟩ = some (.int .i64 0) := (blk_cell BK216.out 2).trans rfl; have hcz60_3 : w58.cell? ⟨gb216, 3, none⟩ = some (.bool false) := (blk_cell BK216.out 3).trans rfl; have hfz60_0 := blk_frozen BK216.out 0; have hfz60_1 := blk_frozen BK216.out 1; have hfz60_2 := blk_frozen BK216.out 2; have hfz60_3 := blk_frozen BK216.out 3))
                (try simp only [Act.put, List.setIfInBounds_toArray, List.set_cons_zero, List.set_cons_succ])
                go_cut [125] (fun v125 wc => ∃ (kq : Nat) (x125_56 : Bool), v125 = .bool x125_56 ∧ Aside0 (impl_DictOk.j4 kq x3_2 l0_1 (l0_1.length : Int) x90_3 x125_56 l0_0 l0_1 = some r) ∧ Aside0 (kq ≤ k3) ∧ Aside0 (Kd.R (Kd.int .i64) 3 wc w.heap.size (fun _ => True) v208 x3_2) ∧ Aside0 (wc.heap[gb201]? = some (.cells #[(.slice A0_0 l0_0.length c0_0), (.slice (some ad215) l0_1.length c0_1)] 30 (0, 0))) ∧ Aside0 (wc.heap[gb216]? = some (.cells #[.string ((rd_T38 l0_1 x90_3).f0), .int .i64 ((rd_T38 l0_1 x90_3).f1), .int .i64 ((rd_T38 l0_1 x90_3).f2), .bool true] 38 (0, 0))) ∧ Aside0 (Below w.heap.size w wc))
                case first =>
                 have H := HC57.out
                 clear HC57
                 by_cases c61 : x90_3 < (x3_2.length : Int)
                 ·rw [if_pos c61] at H
                  have c61b0 : decide (x90_3 < (x3_2.length : Int)) = true := decide_eq_true c61
                  clear c61
                  (first | rw [c61b0] | (simp only [i64_w, i32_w]; rw [c61b0]) | skip)
                  by_cases c62 : (rd x3_2 x90_3) = 1
                  ·rw [if_pos c62] at H
                   have c62b0 : ((rd x3_2 x90_3) == 1) = true := beq_iff_eq.mpr c62
                   have c62b1 : ((rd x3_2 x90_3) != 1) = false := bne_eq_false_iff_eq.mpr c62
                   clear c62
                   by_cases c63 : (((rd_T38 l0_1 x90_3).f0).size : Int) > 20
                   ·rw [if_pos c63] at H
                    have c63b0 : decide (20 < (((rd_T38 l0_1 x90_3).f0).size : Int)) = true := decide_eq_true c63
                    have c63b1 : decide (20 < ((rd_T38 l0_1 x90_3).f0).size) = true := decide_eq_true (by omega)
                    clear c63
                    have H' := aM H
                    clear H
                    try go_wp2
                    have n0_ : Aside0 (Kd.R (Kd.int .i64) 3 ((((w58.setCell ⟨gb216, 0, none⟩ (.string ((rd_T38 l0_1 x90_3).f0))).setCell ⟨gb216, 1, none⟩ (.int .i64 ((rd_T38 l0_1 x90_3).f1))).setCell ⟨gb216, 2, none⟩ (.int .i64 ((rd_T38 l0_1 x90_3).f2))).setCell ⟨gb216, 3, none⟩ (.bool true)) w.heap.size (fun _ => True) v208 x3_2) := ⟨by (with_reducible repeat (first | apply Kd.R_alloc | apply Kd.R_drewN | apply Kd.R_drew)); exact Kd.R_mono (Kd.R_far (p := ⟨gb216, 3, none⟩) (Kd.R_far (p := ⟨gb216, 2, none⟩) (Kd.R_far (p := ⟨gb216, 1, none⟩) (Kd.R_far (p := ⟨gb216, 0, none⟩) (Kd.R_types HO_3.out BK216.out (by decide)) (fun _ hk => hk.2) (.string ((rd_T38 l0_1 x90_3).f0))) (fun _ hk => hk.2) (.int .i64 ((rd_T38 l0_1 x90_3).f1))) (fun _ hk => hk.2) (.int .i64 ((rd_T38 l0_1 x90_3).f2))) (fun _ hk => hk.2) (.bool true)) (fun _ hk => trivial)⟩
                    have n1_ : Aside0 (((((w58.setCell ⟨gb216, 0, none⟩ (.string ((rd_T38 l0_1 x90_3).f0))).setCell ⟨gb216, 1, none⟩ (.int .i64 ((rd_T38 l0_1 x90_3).f1))).setCell ⟨gb216, 2, none⟩ (.int .i64 ((rd_T38 l0_1 x90_3).f2))).setCell ⟨gb216, 3, none⟩ (.bool true)).heap[gb201]? = some (.cells #[.slice A0_0 l0_0.length c0_0, .slice (some ad215) l0_1.length c0_1] 30 (0, 0))) := ⟨by (with_reducible repeat (first | refine blk_drewN ?_ _ | refine blk_drew ?_ | refine blk_alloc ?_ _)); refine blk_far ?_ NB201_216.out _; (with_reducible repeat (first | refine blk_drewN ?_ _ | refine blk_drew ?_ | refine blk_alloc ?_ _)); refine blk_far ?_ NB201_216.out _; (with_reducible repeat (first | refine blk_drewN ?_ _ | refine blk_drew ?_ | refine blk_alloc ?_ _)); refine blk_far ?_ NB201_216.out _; (with_reducible repeat (first | refine blk_drewN ?_ _ | refine blk_drew ?_ | refine blk_alloc ?_ _)); refine blk_far ?_ NB201_216.out _; (with_reducible repeat (first | refine blk_drewN ?_ _ | refine blk_drew ?_ | refine blk_alloc ?_ _)); exact BK201.out⟩
                    have n2_ : Aside0 (((((w58.setCell ⟨gb216, 0, none⟩ (.string ((rd_T38 l0_1 x90_3).f0))).setCell ⟨gb216, 1, none⟩ (.int .i64 ((rd_T38 l0_1 x90_3).f1))).setCell ⟨gb216, 2, none⟩ (.int .i64 ((rd_T38 l0_1 x90_3).f2))).setCell ⟨gb216, 3, none⟩ (.bool true)).heap[gb216]? = some (.cells #[.string ((rd_T38 l0_1 x90_3).f0), .int .i64 ((rd_T38 l0_1 x90_3).f1), .int .i64 ((rd_T38 l0_1 x90_3).f2), .bool true] 38 (0, 0))) := ⟨by (with_reducible repeat (first | refine blk_drewN ?_ _ | refine blk_drew ?_ | refine blk_alloc ?_ _)); refine blk_put (cs := #[.string ((rd_T38 l0_1 x90_3).f0), .int .i64 ((rd_T38 l0_1 x90_3).f1), .int .i64 ((rd_T38 l0_1 x90_3).f2), .bool false]) ?_ 3 _ rfl; (with_reducible repeat (first | refine blk_drewN ?_ _ | refine blk_drew ?_ | refine blk_alloc ?_ _)); refine blk_put (cs := #[.string ((rd_T38 l0_1 x90_3).f0), .int .i64 ((rd_T38 l0_1 x90_3).f1), .int .i64 0, .bool false]) ?_ 2 _ rfl; (with_reducible repeat (first | refine blk_drewN ?_ _ | refine blk_drew ?_ | refine blk_alloc ?_ _)); refine blk_put (cs := #[.string ((rd_T38 l0_1 x90_3).f0), .int .i64 0, .int .i64 0, .bool false]) ?_ 1 _ rfl; (with_reducible repeat (first | refine blk_drewN ?_ _ | refine blk_drew ?_ | refine blk_alloc ?_ _)); refine blk_put (cs := #[.string (⟨#[]⟩ : ByteArray), .int .i64 0, .int .i64 0, .bool false]) ?_ 0 _ rfl; (with_reducible repeat (first | refine blk_drewN ?_ _ | refine blk_drew ?_ | refine blk_alloc ?_ _)); exact BK216.out⟩
                    have n3_ : Aside0 (Below w.heap.size w ((((w58.setCell ⟨gb216, 0, none⟩ (.string ((rd_T38 l0_1 x90_3).f0))).setCell ⟨gb216, 1, none⟩ (.int .i64 ((rd_T38 l0_1 x90_3).f1))).setCell ⟨gb216, 2, none⟩ (.int .i64 ((rd_T38 l0_1 x90_3).f2))).setCell ⟨gb216, 3, none⟩ (.bool true))) := ⟨px_h2 HB.out GE201.out GE216.out⟩
                    (try clear HO_3)
                    (try clear BK201)
                    (try clear BK216)
                    (try clear HB)
                    generalize ((((w58.setCell ⟨gb216, 0, none⟩ (.string ((rd_T38 l0_1 x90_3).f0))).setCell ⟨gb216, 1, none⟩ (.int .i64 ((rd_T38 l0_1 x90_3).f1))).setCell ⟨gb216, 2, none⟩ (.int .i64 ((rd_T38 l0_1 x90_3).f2))).setCell ⟨gb216, 3, none⟩ (.bool true)) = w64 at n0_ n1_ n2_ n3_ ⊢
                    have HO_3 := n0_
                    have BK201 := n1_
                    have BK216 := n2_
                    have HB := n3_
                    clear n0_ n1_ n2_ n3_
                    have n0_ := aM (Kd.R_drew HO_3.out)
                    have n1_ := aM (blk_drew BK201.out)
                    have n2_ := aM (blk_drew BK216.out)
                    have n3_ := aM (below_drew1 HB.out)
                    clear HO_3
                    clear BK201
                    clear BK216
                    clear HB
                    have HO_3 := n0_
                    have BK201 := n1_
                    have BK216 := n2_
                    have HB := n3_
                    clear n0_ n1_ n2_ n3_
                    obtain ⟨Ao66, co66, eo66⟩ := Kd.R_slice HO_3.out
                    (first | subst eo66 | (injection eo66 with f1_ f2_ f3_; have f4_ := f1_.symm; have f5_ := f3_.symm; clear f1_ f2_ f3_; subst f4_; subst f5_))
                    have p217 : 0 ≤ (x90_3 : Int) := px_od
                    have q217 : x90_3 < (x3_2.length : Int) := px_od
                    obtain ⟨ad217, e217, hx217_0⟩ := Kd.at_int (Kd.R_reads' HO_3.out).2.2 x90_3 p217 q217
                    cases e217
                    replace p217 := eq_true p217
                    replace q217 := eq_true q217
                    refine start_ (n := 25) (S := fun w' => w'.cell? ⟨gb216, 0, none⟩ = some (.string ((rd_T38 l0_1 x90_3).f0)) ∧ w'.cell? ⟨gb216, 1, none⟩ = some (.int .i64 ((rd_T38 l0_1 x90_3).f1)) ∧ w'.cell? ⟨gb216, 2, none⟩ = some (.int .i64 ((rd_T38 l0_1 x90_3).f2)) ∧ w'.cell? ⟨gb216, 3, none⟩ = some (.bool true) ∧ w'.cell? (ad217.add (x90_3).toNat) = some (.int .i64 (rd x3_2 x90_3))) (ds := []) (px_l 0 25) (by kernel_rfl) rfl rfl ⟨(blk_cell BK216.out 0).trans rfl, (blk_cell BK216.out 1).trans rfl, (blk_cell BK216.out 2).trans rfl, (blk_cell BK216.out 3).trans rfl, hx217_0⟩ (fun hHeld => ?_); refine with_tabW impl_DictOk.tab23 impl_DictOk.bits23 (fun HT_ HW_ => ?_)
                    generalize w64.drew = w65 at HO_3 BK201 BK216 HB hx217_0 hHeld ⊢
                    refine pure_ (i := 0) (N := some 101) (v := ?_) (a' := ?_) (px_l 1 24) rfl rfl (any_of HT_.out (by kernel_rfl)) (fun _ _ _ h => h) (Or.inl ⟨by rfl, ?_⟩) ?_ ?_
                    rotate_left
                    ·intro w'
                     go_simp
                     with_reducible rfl
                    rotate_left
                    ·simp only [px_q]
                     rfl
                    refine pure_ (i := 1) (N := some 102) (v := ?_) (a' := ?_) (px_l 2 23) rfl rfl (any_of HT_.out (by kernel_rfl)) (fun _ _ _ h => h) (Or.inl ⟨by rfl, ?_⟩) ?_ ?_
                    rotate_left
                    ·intro w'
                     go_simp
                     with_reducible rfl
                    rotate_left
                    ·simp only [px_q]
                     rfl
                    refine pure_ (i := 2) (N := some 103) (v := ?_) (a' := ?_) (px_l 3 22) rfl rfl (any_of HT_.out (by kernel_rfl)) (fun _ _ _ h => h) (Or.inl ⟨by rfl, ?_⟩) ?_ ?_
                    rotate_left
                    ·intro w'
                     go_simp
                     with_reducible rfl
                    rotate_left
                    ·simp only [px_q]
                     rfl
                    refine take_ (i := 3) (N := some 104) (v := ?_) (a' := ?_) (px_l 4 21) rfl rfl (take_ofW HT_.out HW_.out (by kernel_rfl)) (fun _ _ _ h => h) (Or.inl ⟨by rfl, ?_⟩) hHeld ?_ ?_
                    rotate_left
                    ·rintro w' ⟨s0, s1, s2, s3, s4⟩
                     go_simp
                     with_reducible rfl
                    rotate_left
                    ·simp only [px_q]
                     rfl
                    refine pure_ (i := 4) (N := some 105) (v := ?_) (a' := ?_) (px_l 5 20) rfl rfl (any_of HT_.out (by kernel_rfl)) (fun _ _ _ h => h) (Or.inl ⟨by rfl, ?_⟩) ?_ ?_
                    rotate_left
                    ·intro w'
                     go_simp
                     with_reducible rfl
                    rotate_left
                    ·simp only [px_q]
                     rfl
                    refine pure_ (i := 5) (N := some 106) (v := ?_) (a' := ?_) (px_l 6 19) rfl rfl (any_of HT_.out (by kernel_rfl)) (fun _ _ _ h => h) (Or.inl ⟨by rfl, ?_⟩) ?_ ?_
                    rotate_left
                    ·intro w'
                     go_simp
                     with_reducible rfl
                    rotate_left
                    ·simp only [px_q]
                     rfl
                    refine pure_ (i := 6) (N := some 107) (v := ?_) (a' := ?_) (px_l 7 18) rfl rfl (any_of HT_.out (by kernel_rfl)) (fun _ _ _ h => h) (Or.inl ⟨by rfl, ?_⟩) ?_ ?_
                    rotate_left
                    ·intro w'
                     go_simp
                     with_reducible rfl
                    rotate_left
                    ·simp only [px_q]
                     rfl
                    refine take_ (i := 7) (N := some 108) (v := ?_) (a' := ?_) (px_l 8 17) rfl rfl (take_ofW HT_.out HW_.out (by kernel_rfl)) (fun _ _ _ h => h) (Or.inl ⟨by rfl, ?_⟩) hHeld ?_ ?_
                    rotate_left
                    ·rintro w' ⟨s0, s1, s2, s3, s4⟩
                     go_simp
                     with_reducible rfl
                    rotate_left
                    ·simp only [px_q]
                     rfl
                    refine pure_ (i := 8) (N := some 109) (v := ?_) (a' := ?_) (px_l 9 16) rfl rfl (any_of HT_.out (by kernel_rfl)) (fun _ _ _ h => h) (Or.inl ⟨by rfl, ?_⟩) ?_ ?_
                    rotate_left
                    ·intro w'
                     go_simp
                     with_reducible rfl
                    rotate_left
                    ·simp only [px_q]
                     rfl
                    refine pure_ (i := 9) (N := some 110) (v := ?_) (a' := ?_) (px_l 10 15) rfl rfl (any_of HT_.out (by kernel_rfl)) (fun _ _ _ h => h) (Or.inl ⟨by rfl, ?_⟩) ?_ ?_
                    rotate_left
                    ·intro w'
                     go_simp
                     with_reducible rfl
                    rotate_left
                    ·simp only [px_q]
                     rfl
                    refine pure_ (i := 10) (N := some 111) (v := ?_) (a' := ?_) (px_l 11 14) rfl rfl (any_of HT_.out (by kernel_rfl)) (fun _ _ _ h => h) (Or.inl ⟨by rfl, ?_⟩) ?_ ?_
                    rotate_left
                    ·intro w'
                     go_simp
                     with_reducible rfl
                    rotate_left
                    ·simp only [px_q]
                     rfl
                    refine pure_ (i := 11) (N := some 112) (v := ?_) (a' := ?_) (px_l 12 13) rfl rfl (any_of HT_.out (by kernel_rfl)) (fun _ _ _ h => h) (Or.inl ⟨by rfl, ?_⟩) ?_ ?_
                    rotate_left
                    ·intro w'
                     go_simp
                     with_reducible rfl
                    rotate_left
                    ·simp only [px_q]
                     rfl
                    refine pure_ (i := 12) (N := some 113) (v := undef) (a' := ?_) (px_l 13 12) rfl rfl (any_of HT_.out (by kernel_rfl)) (fun _ _ _ h => h) (Or.inr ⟨by rfl, rfl⟩) ?_ ?_
                    rotate_left
                    ·simp only [px_q]
                     rfl
                    refine pure_ (i := 13) (N := some 114) (v := undef) (a' := ?_) (px_l 14 11) rfl rfl (any_of HT_.out (by kernel_rfl)) (fun _ _ _ h => h) (Or.inr ⟨by rfl, rfl⟩) ?_ ?_
                    rotate_left
                    ·simp only [px_q]
                     rfl
                    refine pure_ (i := 14) (N := some 115) (v := undef) (a' := ?_) (px_l 15 10) rfl rfl (any_of HT_.out (by kernel_rfl)) (fun _ _ _ h => h) (Or.inr ⟨by rfl, rfl⟩) ?_ ?_
                    rotate_left
                    ·simp only [px_q]
                     rfl
                    refine pure_ (i := 15) (N := some 116) (v := undef) (a' := ?_) (px_l 16 9) rfl rfl (any_of HT_.out (by kernel_rfl)) (fun _ _ _ h => h) (Or.inr ⟨by rfl, rfl⟩) ?_ ?_
                    rotate_left
                    ·simp only [px_q]
                     rfl
                    refine pure_ (i := 16) (N := some 117) (v := undef) (a' := ?_) (px_l 17 8) rfl rfl (any_of HT_.out (by kernel_rfl)) (fun _ _ _ h => h) (Or.inr ⟨by rfl, rfl⟩) ?_ ?_
                    rotate_left
                    ·simp only [px_q]
                     rfl
                    refine pure_ (i := 17) (N := some 118) (v := undef) (a' := ?_) (px_l 18 7) rfl rfl (any_of HT_.out (by kernel_rfl)) (fun _ _ _ h => h) (Or.inr ⟨by rfl, rfl⟩) ?_ ?_
                    rotate_left
                    ·simp only [px_q]
                     rfl
                    refine pure_ (i := 18) (N := some 119) (v := ?_) (a' := ?_) (px_l 19 6) rfl rfl (any_of HT_.out (by kernel_rfl)) (fun _ _ _ h => h) (Or.inl ⟨by rfl, ?_⟩) ?_ ?_
                    rotate_left
                    ·intro w'
                     go_simp
                     with_reducible rfl
                    rotate_left
                    ·simp only [px_q]
                     rfl
                    refine pure_ (i := 19) (N := some 120) (v := ?_) (a' := ?_) (px_l 20 5) rfl rfl (any_of HT_.out (by kernel_rfl)) (fun _ _ _ h => h) (Or.inl ⟨by rfl, ?_⟩) ?_ ?_
                    rotate_left
                    ·intro w'
                     go_simp
                     with_reducible rfl
                    rotate_left
                    ·simp only [px_q]
                     rfl
                    refine pure_ (i := 20) (N := some 121) (v := undef) (a' := ?_) (px_l 21 4) rfl rfl (any_of HT_.out (by kernel_rfl)) (fun _ _ _ h => h) (Or.inr ⟨by rfl, rfl⟩) ?_ ?_
                    rotate_left
                    ·simp only [px_q]
                     rfl
                    refine pure_ (i := 21) (N := some 122) (v := undef) (a' := ?_) (px_l 22 3) rfl rfl (any_of HT_.out (by kernel_rfl)) (fun _ _ _ h => h) (Or.inr ⟨by rfl, rfl⟩) ?_ ?_
                    rotate_left
                    ·simp only [px_q]
                     rfl
                    refine pure_ (i := 22) (N := some 123) (v := undef) (a' := ?_) (px_l 23 2) rfl rfl (any_of HT_.out (by kernel_rfl)) (fun _ _ _ h => h) (Or.inr ⟨by rfl, rfl⟩) ?_ ?_
                    rotate_left
                    ·simp only [px_q]
                     rfl
                    refine pure_ (i := 23) (N := some 124) (v := undef) (a' := ?_) (px_l 24 1) rfl rfl (any_of HT_.out (by kernel_rfl)) (fun _ _ _ h => h) (Or.inr ⟨by rfl, rfl⟩) ?_ ?_
                    rotate_left
                    ·simp only [px_q]
                     rfl
                    refine pure_ (i := 24) (N := some 125) (v := ?_) (a' := ?_) (px_l 25 0) rfl rfl (any_of HT_.out (by kernel_rfl)) (fun _ _ _ h => h) (Or.inl ⟨by rfl, ?_⟩) ?_ ?_
                    rotate_left
                    ·intro w'
                     go_simp
                     with_reducible rfl
                    rotate_left
                    ·simp only [px_q]
                     rfl
                    refine done_ (done_of HT_.out (by kernel_rfl)) ?_
                    try go_wp2
                    go_meet
                    case rel => exact ⟨_, (true), px_rf, H', ⟨by have := HJ1.out; have := HK2.out; have := HK3.out; first | omega | exact Nat.le_refl _⟩, ⟨px_rV HO_3.out⟩, ⟨by first | exact px_bV BK201.out | (rw [← Nbq55.out]; exact px_bV BK201.out)⟩, ⟨by first | exact px_bV BK216.out | (rw [← Nbq55.out]; exact px_bV BK216.out)⟩, ⟨px_h2 HB.out GE201.out GE216.out⟩⟩
                   ·rw [if_neg c63] at H
                    have c63b0 : decide (20 < (((rd_T38 l0_1 x90_3).f0).size : Int)) = false := decide_eq_false c63
                    have c63b1 : decide (20 < ((rd_T38 l0_1 x90_3).f0).size) = false := decide_eq_false (by omega)
                    clear c63
                    replace H := Option.bind_eq_some_iff.mp H
                    obtain ⟨t218, A670, H⟩ := H
                    replace H : (if ((rd_T38 l0_1 x90_3).f1) = t218 then ((impl_within.f ((rd_T38 l0_1 x90_3).f2) (-1000000) 1000000).bind fun t219 => (impl_DictOk.j4 k3 x3_2 l0_1 (l0_1.length : Int) x90_3 (!t219) l0_0 l0_1)) else (impl_DictOk.j4 k3 x3_2 l0_1 (l0_1.length : Int) x90_3 true l0_0 l0_1)) = some r := H
                    have A67 := aM A670
                    clear A670
                    by_cases c68 : ((rd_T38 l0_1 x90_3).f1) = t218
                    ·rw [if_pos c68] at H
                     have c68b0 : (((rd_T38 l0_1 x90_3).f1) == t218) = true := beq_iff_eq.mpr c68
                     have c68b1 : (((rd_T38 l0_1 x90_3).f1) != t218) = false := bne_eq_false_iff_eq.mpr c68
                     clear c68
                     replace H := Option.bind_eq_some_iff.mp H
                     obtain ⟨t219, A690, H⟩ := H
                     replace H : (impl_DictOk.j4 k3 x3_2 l0_1 (l0_1.length : Int) x90_3 (!t219) l0_0 l0_1) = some r := H
                     have A69 := aM A690
                     clear A690
                     have H' := aM H
                     clear H
                     try go_wp2
                     have n0_ : Aside0 (Kd.R (Kd.int .i64) 3 ((((w58.setCell ⟨gb216, 0, none⟩ (.string ((rd_T38 l0_1 x90_3).f0))).setCell ⟨gb216, 1, none⟩ (.int .i64 ((rd_T38 l0_1 x90_3).f1))).setCell ⟨gb216, 2, none⟩ (.int .i64 ((rd_T38 l0_1 x90_3).f2))).setCell ⟨gb216, 3, none⟩ (.bool true)) w.heap.size (fun _ => True) v208 x3_2) := ⟨by (with_reducible repeat (first | apply Kd.R_alloc | apply Kd.R_drewN | apply Kd.R_drew)); exact Kd.R_mono (Kd.R_far (p := ⟨gb216, 3, none⟩) (Kd.R_far (p := ⟨gb216, 2, none⟩) (Kd.R_far (p := ⟨gb216, 1, none⟩) (Kd.R_far (p := ⟨gb216, 0, none⟩) (Kd.R_types HO_3.out BK216.out (by decide)) (fun _ hk => hk.2) (.string ((rd_T38 l0_1 x90_3).f0))) (fun _ hk => hk.2) (.int .i64 ((rd_T38 l0_1 x90_3).f1))) (fun _ hk => hk.2) (.int .i64 ((rd_T38 l0_1 x90_3).f2))) (fun _ hk => hk.2) (.bool true)) (fun _ hk => trivial)⟩
                     have n1_ : Aside0 (((((w58.setCell ⟨gb216, 0, none⟩ (.string ((rd_T38 l0_1 x90_3).f0))).setCell ⟨gb216, 1, none⟩ (.int .i64 ((rd_T38 l0_1 x90_3).f1))).setCell ⟨gb216, 2, none⟩ (.int .i64 ((rd_T38 l0_1 x90_3).f2))).setCell ⟨gb216, 3, none⟩ (.bool true)).heap[gb201]? = some (.cells #[.slice A0_0 l0_0.length c0_0, .slice (some ad215) l0_1.length c0_1] 30 (0, 0))) := ⟨by (with_reducible repeat (first | refine blk_drewN ?_ _ | refine blk_drew ?_ | refine blk_alloc ?_ _)); refine blk_far ?_ NB201_216.out _; (with_reducible repeat (first | refine blk_drewN ?_ _ | refine blk_drew ?_ | refine blk_alloc ?_ _)); refine blk_far ?_ NB201_216.out _; (with_reducible repeat (first | refine blk_drewN ?_ _ | refine blk_drew ?_ | refine blk_alloc ?_ _)); refine blk_far ?_ NB201_216.out _; (with_reducible repeat (first | refine blk_drewN ?_ _ | refine blk_drew ?_ | refine blk_alloc ?_ _)); refine blk_far ?_ NB201_216.out _; (with_reducible repeat (first | refine blk_drewN ?_ _ | refine blk_drew ?_ | refine blk_alloc ?_ _)); exact BK201.out⟩
                     have n2_ : Aside0 (((((w58.setCell ⟨gb216, 0, none⟩ (.string ((rd_T38 l0_1 x90_3).f0))).setCell ⟨gb216, 1, none⟩ (.int .i64 ((rd_T38 l0_1 x90_3).f1))).setCell ⟨gb216, 2, none⟩ (.int .i64 ((rd_T38 l0_1 x90_3).f2))).setCell ⟨gb216, 3, none⟩ (.bool true)).heap[gb216]? = some (.cells #[.string ((rd_T38 l0_1 x90_3).f0), .int .i64 ((rd_T38 l0_1 x90_3).f1), .int .i64 ((rd_T38 l0_1 x90_3).f2), .bool true] 38 (0, 0))) := ⟨by (with_reducible repeat (first | refine blk_drewN ?_ _ | refine blk_drew ?_ | refine blk_alloc ?_ _)); refine blk_put (cs := #[.string ((rd_T38 l0_1 x90_3).f0), .int .i64 ((rd_T38 l0_1 x90_3).f1), .int .i64 ((rd_T38 l0_1 x90_3).f2), .bool false]) ?_ 3 _ rfl; (with_reducible repeat (first | refine blk_drewN ?_ _ | refine blk_drew ?_ | refine blk_alloc ?_ _)); refine blk_put (cs := #[.string ((rd_T38 l0_1 x90_3).f0), .int .i64 ((rd_T38 l0_1 x90_3).f1), .int .i64 0, .bool false]) ?_ 2 _ rfl; (with_reducible repeat (first | refine blk_drewN ?_ _ | refine blk_drew ?_ | refine blk_alloc ?_ _)); refine blk_put (cs := #[.string ((rd_T38 l0_1 x90_3).f0), .int .i64 0, .int .i64 0, .bool false]) ?_ 1 _ rfl; (with_reducible repeat (first | refine blk_drewN ?_ _ | refine blk_drew ?_ | refine blk_alloc ?_ _)); refine blk_put (cs := #[.string (⟨#[]⟩ : ByteArray), .int .i64 0, .int .i64 0, .bool false]) ?_ 0 _ rfl; (with_reducible repeat (first | refine blk_drewN ?_ _ | refine blk_drew ?_ | refine blk_alloc ?_ _)); exact BK216.out⟩
                     have n3_ : Aside0 (Below w.heap.size w ((((w58.setCell ⟨gb216, 0, none⟩ (.string ((rd_T38 l0_1 x90_3).f0))).setCell ⟨gb216, 1, none⟩ (.int .i64 ((rd_T38 l0_1 x90_3).f1))).setCell ⟨gb216, 2, none⟩ (.int .i64 ((rd_T38 l0_1 x90_3).f2))).setCell ⟨gb216, 3, none⟩ (.bool true))) := ⟨px_h2 HB.out GE201.out GE216.out⟩
                     (try clear HO_3)
                     (try clear BK201)
                     (try clear BK216)
                     (try clear HB)
                     generalize ((((w58.setCell ⟨gb216, 0, none⟩ (.string ((rd_T38 l0_1 x90_3).f0))).setCell ⟨gb216, 1, none⟩ (.int .i64 ((rd_T38 l0_1 x90_3).f1))).setCell ⟨gb216, 2, none⟩ (.int .i64 ((rd_T38 l0_1 x90_3).f2))).setCell ⟨gb216, 3, none⟩ (.bool true)) = w70 at n0_ n1_ n2_ n3_ ⊢
                     have HO_3 := n0_
                     have BK201 := n1_
                     have BK216 := n2_
                     have HB := n3_
                     clear n0_ n1_ n2_ n3_
                     have n0_ := aM (Kd.R_drew HO_3.out)
                     have n1_ := aM (blk_drew BK201.out)
                     have n2_ := aM (blk_drew BK216.out)
                     have n3_ := aM (below_drew1 HB.out)
                     clear HO_3
                     clear BK201
                     clear BK216
                     clear HB
                     have HO_3 := n0_
                     have BK201 := n1_
                     have BK216 := n2_
                     have HB := n3_
                     clear n0_ n1_ n2_ n3_
                     obtain ⟨Ao72, co72, eo72⟩ := Kd.R_slice HO_3.out
                     (first | subst eo72 | (injection eo72 with f1_ f2_ f3_; have f4_ := f1_.symm; have f5_ := f3_.symm; clear f1_ f2_ f3_; subst f4_; subst f5_))
                     have p217 : 0 ≤ (x90_3 : Int) := px_od
                     have q217 : x90_3 < (x3_2.length : Int) := px_od
                     obtain ⟨ad217, e217, hx217_0⟩ := Kd.at_int (Kd.R_reads' HO_3.out).2.2 x90_3 p217 q217
                     cases e217
                     replace p217 := eq_true p217
                     replace q217 := eq_true q217
                     refine start_ (n := 25) (S := fun w' => w'.cell? ⟨gb216, 0, none⟩ = some (.string ((rd_T38 l0_1 x90_3).f0)) ∧ w'.cell? ⟨gb216, 1, none⟩ = some (.int .i64 ((rd_T38 l0_1 x90_3).f1)) ∧ w'.cell? ⟨gb216, 2, none⟩ = some (.int .i64 ((rd_T38 l0_1 x90_3).f2)) ∧ w'.cell? ⟨gb216, 3, none⟩ = some (.bool true) ∧ w'.cell? (ad217.add (x90_3).toNat) = some (.int .i64 (rd x3_2 x90_3))) (ds := []) (px_l 0 25) (by kernel_rfl) rfl rfl ⟨(blk_cell BK216.out 0).trans rfl, (blk_cell BK216.out 1).trans rfl, (blk_cell BK216.out 2).trans rfl, (blk_cell BK216.out 3).trans rfl, hx217_0⟩ (fun hHeld => ?_); refine with_tabW impl_DictOk.tab23 impl_DictOk.bits23 (fun HT_ HW_ => ?_)
                     generalize w70.drew = w71 at HO_3 BK201 BK216 HB hx217_0 hHeld ⊢
                     refine pure_ (i := 0) (N := some 101) (v := ?_) (a' := ?_) (px_l 1 24) rfl rfl (any_of HT_.out (by kernel_rfl)) (fun _ _ _ h => h) (Or.inl ⟨by rfl, ?_⟩) ?_ ?_
                     rotate_left
                     ·intro w'
                      go_simp
                      with_reducible rfl
                     rotate_left
                     ·simp only [px_q]
                      rfl
                     refine pure_ (i := 1) (N := some 102) (v := ?_) (a' := ?_) (px_l 2 23) rfl rfl (any_of HT_.out (by kernel_rfl)) (fun _ _ _ h => h) (Or.inl ⟨by rfl, ?_⟩) ?_ ?_
                     rotate_left
                     ·intro w'
                      go_simp
                      with_reducible rfl
                     rotate_left
                     ·simp only [px_q]
                      rfl
                     refine pure_ (i := 2) (N := some 103) (v := ?_) (a' := ?_) (px_l 3 22) rfl rfl (any_of HT_.out (by kernel_rfl)) (fun _ _ _ h => h) (Or.inl ⟨by rfl, ?_⟩) ?_ ?_
                     rotate_left
                     ·intro w'
                      go_simp
                      with_reducible rfl
                     rotate_left
                     ·simp only [px_q]
                      rfl
                     refine take_ (i := 3) (N := some 104) (v := ?_) (a' := ?_) (px_l 4 21) rfl rfl (take_ofW HT_.out HW_.out (by kernel_rfl)) (fun _ _ _ h => h) (Or.inl ⟨by rfl, ?_⟩) hHeld ?_ ?_
                     rotate_left
                     ·rintro w' ⟨s0, s1, s2, s3, s4⟩
                      go_simp
                      with_reducible rfl
                     rotate_left
                     ·simp only [px_q]
                      rfl
                     refine pure_ (i := 4) (N := some 105) (v := ?_) (a' := ?_) (px_l 5 20) rfl rfl (any_of HT_.out (by kernel_rfl)) (fun _ _ _ h => h) (Or.inl ⟨by rfl, ?_⟩) ?_ ?_
                     rotate_left
                     ·intro w'
                      go_simp
                      with_reducible rfl
                     rotate_left
                     ·simp only [px_q]
                      rfl
                     refine pure_ (i := 5) (N := some 106) (v := ?_) (a' := ?_) (px_l 6 19) rfl rfl (any_of HT_.out (by kernel_rfl)) (fun _ _ _ h => h) (Or.inl ⟨by rfl, ?_⟩) ?_ ?_
                     rotate_left
                     ·intro w'
                      go_simp
                      with_reducible rfl
                     rotate_left
                     ·simp only [px_q]
                      rfl
                     refine pure_ (i := 6) (N := some 107) (v := ?_) (a' := ?_) (px_l 7 18) rfl rfl (any_of HT_.out (by kernel_rfl)) (fun _ _ _ h => h) (Or.inl ⟨by rfl, ?_⟩) ?_ ?_
                     rotate_left
                     ·intro w'
                      go_simp
                      with_reducible rfl
                     rotate_left
                     ·simp only [px_q]
                      rfl
                     refine take_ (i := 7) (N := some 108) (v := ?_) (a' := ?_) (px_l 8 17) rfl rfl (take_ofW HT_.out HW_.out (by kernel_rfl)) (fun _ _ _ h => h) (Or.inl ⟨by rfl, ?_⟩) hHeld ?_ ?_
                     rotate_left
                     ·rintro w' ⟨s0, s1, s2, s3, s4⟩
                      go_simp
                      with_reducible rfl
                     rotate_left
                     ·simp only [px_q]
                      rfl
                     refine pure_ (i := 8) (N := some 109) (v := ?_) (a' := ?_) (px_l 9 16) rfl rfl (any_of HT_.out (by kernel_rfl)) (fun _ _ _ h => h) (Or.inl ⟨by rfl, ?_⟩) ?_ ?_
                     rotate_left
                     ·intro w'
                      go_simp
                      with_reducible rfl
                     rotate_left
                     ·simp only [px_q]
                      rfl
                     refine pure_ (i := 9) (N := some 110) (v := ?_) (a' := ?_) (px_l 10 15) rfl rfl (any_of HT_.out (by kernel_rfl)) (fun _ _ _ h => h) (Or.inl ⟨by rfl, ?_⟩) ?_ ?_
                     rotate_left
                     ·intro w'
                      go_simp
                      with_reducible rfl
                     rotate_left
                     ·simp only [px_q]
                      rfl
                     refine pure_ (i := 10) (N := some 111) (v := ?_) (a' := ?_) (px_l 11 14) rfl rfl (any_of HT_.out (by kernel_rfl)) (fun _ _ _ h => h) (Or.inl ⟨by rfl, ?_⟩) ?_ ?_
                     rotate_left
                     ·intro w'
                      go_simp
                      with_reducible rfl
                     rotate_left
                     ·simp only [px_q]
                      rfl
                     refine pure_ (i := 11) (N := some 112) (v := ?_) (a' := ?_) (px_l 12 13) rfl rfl (any_of HT_.out (by kernel_rfl)) (fun _ _ _ h => h) (Or.inl ⟨by rfl, ?_⟩) ?_ ?_
                     rotate_left
                     ·intro w'
                      go_simp
                      with_reducible rfl
                     rotate_left
                     ·simp only [px_q]
                      rfl
                     refine pure_ (i := 12) (N := some 113) (v := ?_) (a' := ?_) (px_l 13 12) rfl rfl (any_of HT_.out (by kernel_rfl)) (fun _ _ _ h => h) (Or.inl ⟨by rfl, ?_⟩) ?_ ?_
                     rotate_left
                     ·intro w'
                      go_simp
                      with_reducible rfl
                     rotate_left
                     ·simp only [px_q]
                      rfl
                     refine pure_ (i := 14) (N := some 115) (v := ?_) (a' := ?_) #[true, true, true, true, true, true, true, true, true, true, true, true, true, false, true, false, false, false, false, false, false, false, false, false, false] rfl rfl (any_of HT_.out (by kernel_rfl)) (fun _ _ _ h => h) (Or.inl ⟨by rfl, ?_⟩) ?_ ?_
                     rotate_left
                     ·intro w'
                      go_simp
                      with_reducible rfl
                     rotate_left
                     ·simp only [px_q]
                      rfl
                     refine take_ (i := 13) (N := some 114) (v := ?_) (a' := ?_) (px_l 15 10) rfl rfl (take_ofW HT_.out HW_.out (by kernel_rfl)) (fun _ _ _ h => h) (Or.inl ⟨by rfl, ?_⟩) hHeld ?_ ?_
                     rotate_left
                     ·rintro w' ⟨s0, s1, s2, s3, s4⟩
                      go_simp
                      with_reducible rfl
                     rotate_left
                     ·simp only [px_q]
                      rfl
                     refine take_ (i := 15) (N := some 116) (v := ?_) (a' := ?_) (px_l 16 9) rfl rfl (take_ofW HT_.out HW_.out (by kernel_rfl)) (fun _ _ _ h => h) (Or.inl ⟨by rfl, ?_⟩) hHeld ?_ ?_
                     rotate_left
                     ·rintro w' ⟨s0, s1, s2, s3, s4⟩
                      go_simp
                      with_reducible rfl
                     rotate_left
                     ·simp only [px_q]
                      rfl
                     refine one_ (i := 16) (N := some 117) (px_l 17 8) rfl rfl (one_of HT_.out (by kernel_rfl)) (by decide) (fun K hK => ?_)
                     refine goes_ Try.func29 (by kernel_rfl) rfl #[.string ((rd_T38 l0_1 x90_3).f0)] (by rfl) rfl rfl px_dn ?_
                     with_reducible refine (impl_DictHash.calls k3 ((rd_T38 l0_1 x90_3).f0) t218 _ A67.out).mono ?_
                     rintro e w' ⟨rfl, ⟨nd, rfl⟩⟩
                     refine ⟨_, rfl, ?_⟩
                     refine hK.out _ _ ⟨(blk_cell BK216.out 0).trans rfl, (blk_cell BK216.out 1).trans rfl, (blk_cell BK216.out 2).trans rfl, (blk_cell BK216.out 3).trans rfl, hHeld.2.2.2.2⟩ (fun hHeld => ?_)
                     clear hK K
                     refine norm_ (a' := ?_) ?_ ?_
                     rotate_left
                     ·show Act.put _ (some 117) _ = _
                      simp only [px_q]
                      rfl
                     refine pure_ (i := 17) (N := some 118) (v := ?_) (a' := ?_) (px_l 18 7) rfl rfl (any_of HT_.out (by kernel_rfl)) (fun _ _ _ h => h) (Or.inl ⟨by rfl, ?_⟩) ?_ ?_
                     rotate_left
                     ·intro w'
                      go_simp
                      with_reducible rfl
                     rotate_left
                     ·simp only [px_q]
                      rfl
                     refine pure_ (i := 18) (N := some 119) (v := ?_) (a' := ?_) (px_l 19 6) rfl rfl (any_of HT_.out (by kernel_rfl)) (fun _ _ _ h => h) (Or.inl ⟨by rfl, ?_⟩) ?_ ?_
                     rotate_left
                     ·intro w'
                      go_simp
                      with_reducible rfl
                     rotate_left
                     ·simp only [px_q]
                      rfl
                     refine pure_ (i := 19) (N := some 120) (v := ?_) (a' := ?_) (px_l 20 5) rfl rfl (any_of HT_.out (by kernel_rfl)) (fun _ _ _ h => h) (Or.inl ⟨by rfl, ?_⟩) ?_ ?_
                     rotate_left
                     ·intro w'
                      go_simp
                      with_reducible rfl
                     rotate_left
                     ·simp only [px_q]
                      rfl
                     refine pure_ (i := 20) (N := some 121) (v := ?_) (a' := ?_) (px_l 21 4) rfl rfl (any_of HT_.out (by kernel_rfl)) (fun _ _ _ h => h) (Or.inl ⟨by rfl, ?_⟩) ?_ ?_
                     rotate_left
                     ·intro w'
                      go_simp
                      with_reducible rfl
                     rotate_left
                     ·simp only [px_q]
                      rfl
                     refine take_ (i := 21) (N := some 122) (v := ?_) (a' := ?_) (px_l 22 3) rfl rfl (take_ofW HT_.out HW_.out (by kernel_rfl)) (fun _ _ _ h => h) (Or.inl ⟨by rfl, ?_⟩) hHeld ?_ ?_
                     rotate_left
                     ·rintro w' ⟨s0, s1, s2, s3, s4⟩
                      go_simp
                      with_reducible rfl
                     rotate_left
                     ·simp only [px_q]
                      rfl
                     refine one_ (i := 22) (N := some 123) (px_l 23 2) rfl rfl (one_of HT_.out (by kernel_rfl)) (by decide) (fun K hK => ?_)
                     refine goes_ Try.func30 (by kernel_rfl) rfl #[.int .i64 ((rd_T38 l0_1 x90_3).f2), .int .i64 (-1000000), .int .i64 1000000] (by rfl) rfl rfl px_dn ?_
                     with_reducible refine (impl_within.calls ((rd_T38 l0_1 x90_3).f2) (-1000000) 1000000 t219 _ A69.out).mono ?_
                     rintro e w' ⟨rfl, ⟨nd, rfl⟩⟩
                     refine ⟨_, rfl, ?_⟩
                     refine hK.out _ _ ⟨(blk_cell BK216.out 0).trans rfl, (blk_cell BK216.out 1).trans rfl, (blk_cell BK216.out 2).trans rfl, (blk_cell BK216.out 3).trans rfl, hHeld.2.2.2.2⟩ (fun hHeld => ?_)
                     clear hK K
                     refine norm_ (a' := ?_) ?_ ?_
                     rotate_left
                     ·show Act.put _ (some 123) _ = _
                      simp only [px_q]
                      rfl
                     refine pure_ (i := 23) (N := some 124) (v := ?_) (a' := ?_) (px_l 24 1) rfl rfl (any_of HT_.out (by kernel_rfl)) (fun _ _ _ h => h) (Or.inl ⟨by rfl, ?_⟩) ?_ ?_
                     rotate_left
                     ·intro w'
                      go_simp
                      with_reducible rfl
                     rotate_left
                     ·simp only [px_q]
                      rfl
                     refine pure_ (i := 24) (N := some 125) (v := ?_) (a' := ?_) (px_l 25 0) rfl rfl (any_of HT_.out (by kernel_rfl)) (fun _ _ _ h => h) (Or.inl ⟨by rfl, ?_⟩) ?_ ?_
                     rotate_left
                     ·intro w'
                      go_simp
                      with_reducible rfl
                     rotate_left
                     ·simp only [px_q]
                      rfl
                     refine done_ (done_of HT_.out (by kernel_rfl)) ?_
                     try go_wp2
                     go_meet
                     case rel => exact ⟨_, (!t219), px_rf, H', ⟨by have := HJ1.out; have := HK2.out; have := HK3.out; first | omega | exact Nat.le_refl _⟩, ⟨px_rV HO_3.out⟩, ⟨by first | exact px_bV BK201.out | (rw [← Nbq55.out]; exact px_bV BK201.out)⟩, ⟨by first | exact px_bV BK216.out | (rw [← Nbq55.out]; exact px_bV BK216.out)⟩, ⟨px_h2 HB.out GE201.out GE216.out⟩⟩
                    ·rw [if_neg c68] at H
                     have c68b0 : (((rd_T38 l0_1 x90_3).f1) == t218) = false := beq_eq_false_iff_ne.mpr c68
                     have c68b1 : (((rd_T38 l0_1 x90_3).f1) != t218) = true := bne_iff_ne.mpr c68
                     have H' := aM H
                     clear H
                     try go_wp2
                     have n0_ : Aside0 (Kd.R (Kd.int .i64) 3 ((((w58.setCell ⟨gb216, 0, none⟩ (.string ((rd_T38 l0_1 x90_3).f0))).setCell ⟨gb216, 1, none⟩ (.int .i64 ((rd_T38 l0_1 x90_3).f1))).setCell ⟨gb216, 2, none⟩ (.int .i64 ((rd_T38 l0_1 x90_3).f2))).setCell ⟨gb216, 3, none⟩ (.bool true)) w.heap.size (fun _ => True) v208 x3_2) := ⟨by (with_reducible repeat (first | apply Kd.R_alloc | apply Kd.R_drewN | apply Kd.R_drew)); exact Kd.R_mono (Kd.R_far (p := ⟨gb216, 3, none⟩) (Kd.R_far (p := ⟨gb216, 2, none⟩) (Kd.R_far (p := ⟨gb216, 1, none⟩) (Kd.R_far (p := ⟨gb216, 0, none⟩) (Kd.R_types HO_3.out BK216.out (by decide)) (fun _ hk => hk.2) (.string ((rd_T38 l0_1 x90_3).f0))) (fun _ hk => hk.2) (.int .i64 ((rd_T38 l0_1 x90_3).f1))) (fun _ hk => hk.2) (.int .i64 ((rd_T38 l0_1 x90_3).f2))) (fun _ hk => hk.2) (.bool true)) (fun _ hk => trivial)⟩
                     have n1_ : Aside0 (((((w58.setCell ⟨gb216, 0, none⟩ (.string ((rd_T38 l0_1 x90_3).f0))).setCell ⟨gb216, 1, none⟩ (.int .i64 ((rd_T38 l0_1 x90_3).f1))).setCell ⟨gb216, 2, none⟩ (.int .i64 ((rd_T38 l0_1 x90_3).f2))).setCell ⟨gb216, 3, none⟩ (.bool true)).heap[gb201]? = some (.cells #[.slice A0_0 l0_0.length c0_0, .slice (some ad215) l0_1.length c0_1] 30 (0, 0))) := ⟨by (with_reducible repeat (first | refine blk_drewN ?_ _ | refine blk_drew ?_ | refine blk_alloc ?_ _)); refine blk_far ?_ NB201_216.out _; (with_reducible repeat (first | refine blk_drewN ?_ _ | refine blk_drew ?_ | refine blk_alloc ?_ _)); refine blk_far ?_ NB201_216.out _; (with_reducible repeat (first | refine blk_drewN ?_ _ | refine blk_drew ?_ | refine blk_alloc ?_ _)); refine blk_far ?_ NB201_216.out _; (with_reducible repeat (first | refine blk_drewN ?_ _ | refine blk_drew ?_ | refine blk_alloc ?_ _)); refine blk_far ?_ NB201_216.out _; (with_reducible repeat (first | refine blk_drewN ?_ _ | refine blk_drew ?_ | refine blk_alloc ?_ _)); exact BK201.out⟩
                     have n2_ : Aside0 (((((w58.setCell ⟨gb216, 0, none⟩ (.string ((rd_T38 l0_1 x90_3).f0))).setCell ⟨gb216, 1, none⟩ (.int .i64 ((rd_T38 l0_1 x90_3).f1))).setCell ⟨gb216, 2, none⟩ (.int .i64 ((rd_T38 l0_1 x90_3).f2))).setCell ⟨gb216, 3, none⟩ (.bool true)).heap[gb216]? = some (.cells #[.string ((rd_T38 l0_1 x90_3).f0), .int .i64 ((rd_T38 l0_1 x90_3).f1), .int .i64 ((rd_T38 l0_1 x90_3).f2), .bool true] 38 (0, 0))) := ⟨by (with_reducible repeat (first | refine blk_drewN ?_ _ | refine blk_drew ?_ | refine blk_alloc ?_ _)); refine blk_put (cs := #[.string ((rd_T38 l0_1 x90_3).f0), .int .i64 ((rd_T38 l0_1 x90_3).f1), .int .i64 ((rd_T38 l0_1 x90_3).f2), .bool false]) ?_ 3 _ rfl; (with_reducible repeat (first | refine blk_drewN ?_ _ | refine blk_drew ?_ | refine blk_alloc ?_ _)); refine blk_put (cs := #[.string ((rd_T38 l0_1 x90_3).f0), .int .i64 ((rd_T38 l0_1 x90_3).f1), .int .i64 0, .bool false]) ?_ 2 _ rfl; (with_reducible repeat (first | refine blk_drewN ?_ _ | refine blk_drew ?_ | refine blk_alloc ?_ _)); refine blk_put (cs := #[.string ((rd_T38 l0_1 x90_3).f0), .int .i64 0, .int .i64 0, .bool false]) ?_ 1 _ rfl; (with_reducible repeat (first | refine blk_drewN ?_ _ | refine blk_drew ?_ | refine blk_alloc ?_ _)); refine blk_put (cs := #[.string (⟨#[]⟩ : ByteArray), .int .i64 0, .int .i64 0, .bool false]) ?_ 0 _ rfl; (with_reducible repeat (first | refine blk_drewN ?_ _ | refine blk_drew ?_ | refine blk_alloc ?_ _)); exact BK216.out⟩
                     have n3_ : Aside0 (Below w.heap.size w ((((w58.setCell ⟨gb216, 0, none⟩ (.string ((rd_T38 l0_1 x90_3).f0))).setCell ⟨gb216, 1, none⟩ (.int .i64 ((rd_T38 l0_1 x90_3).f1))).setCell ⟨gb216, 2, none⟩ (.int .i64 ((rd_T38 l0_1 x90_3).f2))).setCell ⟨gb216, 3, none⟩ (.bool true))) := ⟨px_h2 HB.out GE201.out GE216.out⟩
                     (try clear HO_3)
                     (try clear BK201)
                     (try clear BK216)
                     (try clear HB)
                     generalize ((((w58.setCell ⟨gb216, 0, none⟩ (.string ((rd_T38 l0_1 x90_3).f0))).setCell ⟨gb216, 1, none⟩ (.int .i64 ((rd_T38 l0_1 x90_3).f1))).setCell ⟨gb216, 2, none⟩ (.int .i64 ((rd_T38 l0_1 x90_3).f2))).setCell ⟨gb216, 3, none⟩ (.bool true)) = w73 at n0_ n1_ n2_ n3_ ⊢
                     have HO_3 := n0_
                     have BK201 := n1_
                     have BK216 := n2_
                     have HB := n3_
                     clear n0_ n1_ n2_ n3_
                     have n0_ := aM (Kd.R_drew HO_3.out)
                     have n1_ := aM (blk_drew BK201.out)
                     have n2_ := aM (blk_drew BK216.out)
                     have n3_ := aM (below_drew1 HB.out)
                     clear HO_3
                     clear BK201
                     clear BK216
                     clear HB
                     have HO_3 := n0_
                     have BK201 := n1_
                     have BK216 := n2_
                     have HB := n3_
                     clear n0_ n1_ n2_ n3_
                     obtain ⟨Ao75, co75, eo75⟩ := Kd.R_slice HO_3.out
                     (first | subst eo75 | (injection eo75 with f1_ f2_ f3_; have f4_ := f1_.symm; have f5_ := f3_.symm; clear f1_ f2_ f3_; subst f4_; subst f5_))
                     have p217 : 0 ≤ (x90_3 : Int) := px_od
                     have q217 : x90_3 < (x3_2.length : Int) := px_od
                     obtain ⟨ad217, e217, hx217_0⟩ := Kd.at_int (Kd.R_reads' HO_3.out).2.2 x90_3 p217 q217
                     cases e217
                     replace p217 := eq_true p217
                     replace q217 := eq_true q217
                     refine start_ (n := 25) (S := fun w' => w'.cell? ⟨gb216, 0, none⟩ = some (.string ((rd_T38 l0_1 x90_3).f0)) ∧ w'.cell? ⟨gb216, 1, none⟩ = some (.int .i64 ((rd_T38 l0_1 x90_3).f1)) ∧ w'.cell? ⟨gb216, 2, none⟩ = some (.int .i64 ((rd_T38 l0_1 x90_3).f2)) ∧ w'.cell? ⟨gb216, 3, none⟩ = some (.bool true) ∧ w'.cell? (ad217.add (x90_3).toNat) = some (.int .i64 (rd x3_2 x90_3))) (ds := []) (px_l 0 25) (by kernel_rfl) rfl rfl ⟨(blk_cell BK216.out 0).trans rfl, (blk_cell BK216.out 1).trans rfl, (blk_cell BK216.out 2).trans rfl, (blk_cell BK216.out 3).trans rfl, hx217_0⟩ (fun hHeld => ?_); refine with_tabW impl_DictOk.tab23 impl_DictOk.bits23 (fun HT_ HW_ => ?_)
                     generalize w73.drew = w74 at HO_3 BK201 BK216 HB hx217_0 hHeld ⊢
                     refine pure_ (i := 0) (N := some 101) (v := ?_) (a' := ?_) (px_l 1 24) rfl rfl (any_of HT_.out (by kernel_rfl)) (fun _ _ _ h => h) (Or.inl ⟨by rfl, ?_⟩) ?_ ?_
                     rotate_left
                     ·intro w'
                      go_simp
                      with_reducible rfl
                     rotate_left
                     ·simp only [px_q]
                      rfl
                     refine pure_ (i := 1) (N := some 102) (v := ?_) (a' := ?_) (px_l 2 23) rfl rfl (any_of HT_.out (by kernel_rfl)) (fun _ _ _ h => h) (Or.inl ⟨by rfl, ?_⟩) ?_ ?_
                     rotate_left
                     ·intro w'
                      go_simp
                      with_reducible rfl
                     rotate_left
                     ·simp only [px_q]
                      rfl
                     refine pure_ (i := 2) (N := some 103) (v := ?_) (a' := ?_) (px_l 3 22) rfl rfl (any_of HT_.out (by kernel_rfl)) (fun _ _ _ h => h) (Or.inl ⟨by rfl, ?_⟩) ?_ ?_
                     rotate_left
                     ·intro w'
                      go_simp
                      with_reducible rfl
                     rotate_left
                     ·simp only [px_q]
                      rfl
                     refine take_ (i := 3) (N := some 104) (v := ?_) (a' := ?_) (px_l 4 21) rfl rfl (take_ofW HT_.out HW_.out (by kernel_rfl)) (fun _ _ _ h => h) (Or.inl ⟨by rfl, ?_⟩) hHeld ?_ ?_
                     rotate_left
                     ·rintro w' ⟨s0, s1, s2, s3, s4⟩
                      go_simp
                      with_reducible rfl
                     rotate_left
                     ·simp only [px_q]
                      rfl
                     refine pure_ (i := 4) (N := some 105) (v := ?_) (a' := ?_) (px_l 5 20) rfl rfl (any_of HT_.out (by kernel_rfl)) (fun _ _ _ h => h) (Or.inl ⟨by rfl, ?_⟩) ?_ ?_
                     rotate_left
                     ·intro w'
                      go_simp
                      with_reducible rfl
                     rotate_left
                     ·simp only [px_q]
                      rfl
                     refine pure_ (i := 5) (N := some 106) (v := ?_) (a' := ?_) (px_l 6 19) rfl rfl (any_of HT_.out (by kernel_rfl)) (fun _ _ _ h => h) (Or.inl ⟨by rfl, ?_⟩) ?_ ?_
                     rotate_left
                     ·intro w'
                      go_simp
                      with_reducible rfl
                     rotate_left
                     ·simp only [px_q]
                      rfl
                     refine pure_ (i := 6) (N := some 107) (v := ?_) (a' := ?_) (px_l 7 18) rfl rfl (any_of HT_.out (by kernel_rfl)) (fun _ _ _ h => h) (Or.inl ⟨by rfl, ?_⟩) ?_ ?_
                     rotate_left
                     ·intro w'
                      go_simp
                      with_reducible rfl
                     rotate_left
                     ·simp only [px_q]
                      rfl
                     refine take_ (i := 7) (N := some 108) (v := ?_) (a' := ?_) (px_l 8 17) rfl rfl (take_ofW HT_.out HW_.out (by kernel_rfl)) (fun _ _ _ h => h) (Or.inl ⟨by rfl, ?_⟩) hHeld ?_ ?_
                     rotate_left
                     ·rintro w' ⟨s0, s1, s2, s3, s4⟩
                      go_simp
                      with_reducible rfl
                     rotate_left
                     ·simp only [px_q]
                      rfl
                     refine pure_ (i := 8) (N := some 109) (v := ?_) (a' := ?_) (px_l 9 16) rfl rfl (any_of HT_.out (by kernel_rfl)) (fun _ _ _ h => h) (Or.inl ⟨by rfl, ?_⟩) ?_ ?_
                     rotate_left
                     ·intro w'
                      go_simp
                      with_reducible rfl
                     rotate_left
                     ·simp only [px_q]
                      rfl
                     refine pure_ (i := 9) (N := some 110) (v := ?_) (a' := ?_) (px_l 10 15) rfl rfl (any_of HT_.out (by kernel_rfl)) (fun _ _ _ h => h) (Or.inl ⟨by rfl, ?_⟩) ?_ ?_
                     rotate_left
                     ·intro w'
                      go_simp
                      with_reducible rfl
                     rotate_left
                     ·simp only [px_q]
                      rfl
                     refine pure_ (i := 10) (N := some 111) (v := ?_) (a' := ?_) (px_l 11 14) rfl rfl (any_of HT_.out (by kernel_rfl)) (fun _ _ _ h => h) (Or.inl ⟨by rfl, ?_⟩) ?_ ?_
                     rotate_left
                     ·intro w'
                      go_simp
                      with_reducible rfl
                     rotate_left
                     ·simp only [px_q]
                      rfl
                     refine pure_ (i := 11) (N := some 112) (v := ?_) (a' := ?_) (px_l 12 13) rfl rfl (any_of HT_.out (by kernel_rfl)) (fun _ _ _ h => h) (Or.inl ⟨by rfl, ?_⟩) ?_ ?_
                     rotate_left
                     ·intro w'
                      go_simp
                      with_reducible rfl
                     rotate_left
                     ·simp only [px_q]
                      rfl
                     refine pure_ (i := 12) (N := some 113) (v := ?_) (a' := ?_) (px_l 13 12) rfl rfl (any_of HT_.out (by kernel_rfl)) (fun _ _ _ h => h) (Or.inl ⟨by rfl, ?_⟩) ?_ ?_
                     rotate_left
                     ·intro w'
                      go_simp
                      with_reducible rfl
                     rotate_left
                     ·simp only [px_q]
                      rfl
                     refine pure_ (i := 14) (N := some 115) (v := ?_) (a' := ?_) #[true, true, true, true, true, true, true, true, true, true, true, true, true, false, true, false, false, false, false, false, false, false, false, false, false] rfl rfl (any_of HT_.out (by kernel_rfl)) (fun _ _ _ h => h) (Or.inl ⟨by rfl, ?_⟩) ?_ ?_
                     rotate_left
                     ·intro w'
                      go_simp
                      with_reducible rfl
                     rotate_left
                     ·simp only [px_q]
                      rfl
                     refine take_ (i := 13) (N := some 114) (v := ?_) (a' := ?_) (px_l 15 10) rfl rfl (take_ofW HT_.out HW_.out (by kernel_rfl)) (fun _ _ _ h => h) (Or.inl ⟨by rfl, ?_⟩) hHeld ?_ ?_
                     rotate_left
                     ·rintro w' ⟨s0, s1, s2, s3, s4⟩
                      go_simp
                      with_reducible rfl
                     rotate_left
                     ·simp only [px_q]
                      rfl
                     refine take_ (i := 15) (N := some 116) (v := ?_) (a' := ?_) (px_l 16 9) rfl rfl (take_ofW HT_.out HW_.out (by kernel_rfl)) (fun _ _ _ h => h) (Or.inl ⟨by rfl, ?_⟩) hHeld ?_ ?_
                     rotate_left
                     ·rintro w' ⟨s0, s1, s2, s3, s4⟩
                      go_simp
                      with_reducible rfl
                     rotate_left
                     ·simp only [px_q]
                      rfl
                     refine one_ (i := 16) (N := some 117) (px_l 17 8) rfl rfl (one_of HT_.out (by kernel_rfl)) (by decide) (fun K hK => ?_)
                     refine goes_ Try.func29 (by kernel_rfl) rfl #[.string ((rd_T38 l0_1 x90_3).f0)] (by rfl) rfl rfl px_dn ?_
                     with_reducible refine (impl_DictHash.calls k3 ((rd_T38 l0_1 x90_3).f0) t218 _ A67.out).mono ?_
                     rintro e w' ⟨rfl, ⟨nd, rfl⟩⟩
                     refine ⟨_, rfl, ?_⟩
                     refine hK.out _ _ ⟨(blk_cell BK216.out 0).trans rfl, (blk_cell BK216.out 1).trans rfl, (blk_cell BK216.out 2).trans rfl, (blk_cell BK216.out 3).trans rfl, hHeld.2.2.2.2⟩ (fun hHeld => ?_)
                     clear hK K
                     refine norm_ (a' := ?_) ?_ ?_
                     rotate_left
                     ·show Act.put _ (some 117) _ = _
                      simp only [px_q]
                      rfl
                     refine pure_ (i := 17) (N := some 118) (v := ?_) (a' := ?_) (px_l 18 7) rfl rfl (any_of HT_.out (by kernel_rfl)) (fun _ _ _ h => h) (Or.inl ⟨by rfl, ?_⟩) ?_ ?_
                     rotate_left
                     ·intro w'
                      go_simp
                      with_reducible rfl
                     rotate_left
                     ·simp only [px_q]
                      rfl
                     refine pure_ (i := 18) (N := some 119) (v := ?_) (a' := ?_) (px_l 19 6) rfl rfl (any_of HT_.out (by kernel_rfl)) (fun _ _ _ h => h) (Or.inl ⟨by rfl, ?_⟩) ?_ ?_
                     rotate_left
                     ·intro w'
                      go_simp
                      with_reducible rfl
                     rotate_left
                     ·simp only [px_q]
                      rfl
                     refine pure_ (i := 19) (N := some 120) (v := ?_) (a' := ?_) (px_l 20 5) rfl rfl (any_of HT_.out (by kernel_rfl)) (fun _ _ _ h => h) (Or.inl ⟨by rfl, ?_⟩) ?_ ?_
                     rotate_left
                     ·intro w'
                      go_simp
                      with_reducible rfl
                     rotate_left
                     ·simp only [px_q]
                      rfl
                     refine pure_ (i := 20) (N := some 121) (v := undef) (a' := ?_) (px_l 21 4) rfl rfl (any_of HT_.out (by kernel_rfl)) (fun _ _ _ h => h) (Or.inr ⟨by rfl, rfl⟩) ?_ ?_
                     rotate_left
                     ·simp only [px_q]
                      rfl
                     refine pure_ (i := 21) (N := some 122) (v := undef) (a' := ?_) (px_l 22 3) rfl rfl (any_of HT_.out (by kernel_rfl)) (fun _ _ _ h => h) (Or.inr ⟨by rfl, rfl⟩) ?_ ?_
                     rotate_left
                     ·simp only [px_q]
                      rfl
                     refine pure_ (i := 22) (N := some 123) (v := undef) (a' := ?_) (px_l 23 2) rfl rfl (any_of HT_.out (by kernel_rfl)) (fun _ _ _ h => h) (Or.inr ⟨by rfl, rfl⟩) ?_ ?_
                     rotate_left
                     ·simp only [px_q]
                      rfl
                     refine pure_ (i := 23) (N := some 124) (v := undef) (a' := ?_) (px_l 24 1) rfl rfl (any_of HT_.out (by kernel_rfl)) (fun _ _ _ h => h) (Or.inr ⟨by rfl, rfl⟩) ?_ ?_
                     rotate_left
                     ·simp only [px_q]
                      rfl
                     refine pure_ (i := 24) (N := some 125) (v := ?_) (a' := ?_) (px_l 25 0) rfl rfl (any_of HT_.out (by kernel_rfl)) (fun _ _ _ h => h) (Or.inl ⟨by rfl, ?_⟩) ?_ ?_
                     rotate_left
                     ·intro w'
                      go_simp
                      with_reducible rfl
                     rotate_left
                     ·simp only [px_q]
                      rfl
                     refine done_ (done_of HT_.out (by kernel_rfl)) ?_
                     try go_wp2
                     go_meet
                     case rel => exact ⟨_, (true), px_rf, H', ⟨by have := HJ1.out; have := HK2.out; have := HK3.out; first | omega | exact Nat.le_refl _⟩, ⟨px_rV HO_3.out⟩, ⟨by first | exact px_bV BK201.out | (rw [← Nbq55.out]; exact px_bV BK201.out)⟩, ⟨by first | exact px_bV BK216.out | (rw [← Nbq55.out]; exact px_bV BK216.out)⟩, ⟨px_h2 HB.out GE201.out GE216.out⟩⟩
                  ·rw [if_neg c62] at H
                   have c62b0 : ((rd x3_2 x90_3) == 1) = false := beq_eq_false_iff_ne.mpr c62
                   have c62b1 : ((rd x3_2 x90_3) != 1) = true := bne_iff_ne.mpr c62
                   have H' := aM H
                   clear H
                   try go_wp2
                   have n0_ : Aside0 (Kd.R (Kd.int .i64) 3 ((((w58.setCell ⟨gb216, 0, none⟩ (.string ((rd_T38 l0_1 x90_3).f0))).setCell ⟨gb216, 1, none⟩ (.int .i64 ((rd_T38 l0_1 x90_3).f1))).setCell ⟨gb216, 2, none⟩ (.int .i64 ((rd_T38 l0_1 x90_3).f2))).setCell ⟨gb216, 3, none⟩ (.bool true)) w.heap.size (fun _ => True) v208 x3_2) := ⟨by (with_reducible repeat (first | apply Kd.R_alloc | apply Kd.R_drewN | apply Kd.R_drew)); exact Kd.R_mono (Kd.R_far (p := ⟨gb216, 3, none⟩) (Kd.R_far (p := ⟨gb216, 2, none⟩) (Kd.R_far (p := ⟨gb216, 1, none⟩) (Kd.R_far (p := ⟨gb216, 0, none⟩) (Kd.R_types HO_3.out BK216.out (by decide)) (fun _ hk => hk.2) (.string ((rd_T38 l0_1 x90_3).f0))) (fun _ hk => hk.2) (.int .i64 ((rd_T38 l0_1 x90_3).f1))) (fun _ hk => hk.2) (.int .i64 ((rd_T38 l0_1 x90_3).f2))) (fun _ hk => hk.2) (.bool true)) (fun _ hk => trivial)⟩
                   have n1_ : Aside0 (((((w58.setCell ⟨gb216, 0, none⟩ (.string ((rd_T38 l0_1 x90_3).f0))).setCell ⟨gb216, 1, none⟩ (.int .i64 ((rd_T38 l0_1 x90_3).f1))).setCell ⟨gb216, 2, none⟩ (.int .i64 ((rd_T38 l0_1 x90_3).f2))).setCell ⟨gb216, 3, none⟩ (.bool true)).heap[gb201]? = some (.cells #[.slice A0_0 l0_0.length c0_0, .slice (some ad215) l0_1.length c0_1] 30 (0, 0))) := ⟨by (with_reducible repeat (first | refine blk_drewN ?_ _ | refine blk_drew ?_ | refine blk_alloc ?_ _)); refine blk_far ?_ NB201_216.out _; (with_reducible repeat (first | refine blk_drewN ?_ _ | refine blk_drew ?_ | refine blk_alloc ?_ _)); refine blk_far ?_ NB201_216.out _; (with_reducible repeat (first | refine blk_drewN ?_ _ | refine blk_drew ?_ | refine blk_alloc ?_ _)); refine blk_far ?_ NB201_216.out _; (with_reducible repeat (first | refine blk_drewN ?_ _ | refine blk_drew ?_ | refine blk_alloc ?_ _)); refine blk_far ?_ NB201_216.out _; (with_reducible repeat (first | refine blk_drewN ?_ _ | refine blk_drew ?_ | refine blk_alloc ?_ _)); exact BK201.out⟩
                   have n2_ : Aside0 (((((w58.setCell ⟨gb216, 0, none⟩ (.string ((rd_T38 l0_1 x90_3).f0))).setCell ⟨gb216, 1, none⟩ (.int .i64 ((rd_T38 l0_1 x90_3).f1))).setCell ⟨gb216, 2, none⟩ (.int .i64 ((rd_T38 l0_1 x90_3).f2))).setCell ⟨gb216, 3, none⟩ (.bool true)).heap[gb216]? = some (.cells #[.string ((rd_T38 l0_1 x90_3).f0), .int .i64 ((rd_T38 l0_1 x90_3).f1), .int .i64 ((rd_T38 l0_1 x90_3).f2), .bool true] 38 (0, 0))) := ⟨by (with_reducible repeat (first | refine blk_drewN ?_ _ | refine blk_drew ?_ | refine blk_alloc ?_ _)); refine blk_put (cs := #[.string ((rd_T38 l0_1 x90_3).f0), .int .i64 ((rd_T38 l0_1 x90_3).f1), .int .i64 ((rd_T38 l0_1 x90_3).f2), .bool false]) ?_ 3 _ rfl; (with_reducible repeat (first | refine blk_drewN ?_ _ | refine blk_drew ?_ | refine blk_alloc ?_ _)); refine blk_put (cs := #[.string ((rd_T38 l0_1 x90_3).f0), .int .i64 ((rd_T38 l0_1 x90_3).f1), .int .i64 0, .bool false]) ?_ 2 _ rfl; (with_reducible repeat (first | refine blk_drewN ?_ _ | refine blk_drew ?_ | refine blk_alloc ?_ _)); refine blk_put (cs := #[.string ((rd_T38 l0_1 x90_3).f0), .int .i64 0, .int .i64 0, .bool false]) ?_ 1 _ rfl; (with_reducible repeat (first | refine blk_drewN ?_ _ | refine blk_drew ?_ | refine blk_alloc ?_ _)); refine blk_put (cs := #[.string (⟨#[]⟩ : ByteArray), .int .i64 0, .int .i64 0, .bool false]) ?_ 0 _ rfl; (with_reducible repeat (first | refine blk_drewN ?_ _ | refine blk_drew ?_ | refine blk_alloc ?_ _)); exact BK216.out⟩
                   have n3_ : Aside0 (Below w.heap.size w ((((w58.setCell ⟨gb216, 0, none⟩ (.string ((rd_T38 l0_1 x90_3).f0))).setCell ⟨gb216, 1, none⟩ (.int .i64 ((rd_T38 l0_1 x90_3).f1))).setCell ⟨gb216, 2, none⟩ (.int .i64 ((rd_T38 l0_1 x90_3).f2))).setCell ⟨gb216, 3, none⟩ (.bool true))) := ⟨px_h2 HB.out GE201.out GE216.out⟩
                   (try clear HO_3)
                   (try clear BK201)
                   (try clear BK216)
                   (try clear HB)
                   generalize ((((w58.setCell ⟨gb216, 0, none⟩ (.string ((rd_T38 l0_1 x90_3).f0))).setCell ⟨gb216, 1, none⟩ (.int .i64 ((rd_T38 l0_1 x90_3).f1))).setCell ⟨gb216, 2, none⟩ (.int .i64 ((rd_T38 l0_1 x90_3).f2))).setCell ⟨gb216, 3, none⟩ (.bool true)) = w76 at n0_ n1_ n2_ n3_ ⊢
                   have HO_3 := n0_
                   have BK201 := n1_
                   have BK216 := n2_
                   have HB := n3_
                   clear n0_ n1_ n2_ n3_
                   have n0_ := aM (Kd.R_drew HO_3.out)
                   have n1_ := aM (blk_drew BK201.out)
                   have n2_ := aM (blk_drew BK216.out)
                   have n3_ := aM (below_drew1 HB.out)
                   clear HO_3
                   clear BK201
                   clear BK216
                   clear HB
                   have HO_3 := n0_
                   have BK201 := n1_
                   have BK216 := n2_
                   have HB := n3_
                   clear n0_ n1_ n2_ n3_
                   obtain ⟨Ao78, co78, eo78⟩ := Kd.R_slice HO_3.out
                   (first | subst eo78 | (injection eo78 with f1_ f2_ f3_; have f4_ := f1_.symm; have f5_ := f3_.symm; clear f1_ f2_ f3_; subst f4_; subst f5_))
                   have p217 : 0 ≤ (x90_3 : Int) := px_od
                   have q217 : x90_3 < (x3_2.length : Int) := px_od
                   obtain ⟨ad217, e217, hx217_0⟩ := Kd.at_int (Kd.R_reads' HO_3.out).2.2 x90_3 p217 q217
                   cases e217
                   replace p217 := eq_true p217
                   replace q217 := eq_true q217
                   refine start_ (n := 25) (S := fun w' => w'.cell? (ad217.add (x90_3).toNat) = some (.int .i64 (rd x3_2 x90_3))) (ds := []) (px_l 0 25) (by kernel_rfl) rfl rfl (hx217_0) (fun hHeld => ?_); refine with_tabW impl_DictOk.tab23 impl_DictOk.bits23 (fun HT_ HW_ => ?_)
                   generalize w76.drew = w77 at HO_3 BK201 BK216 HB hx217_0 hHeld ⊢
                   refine pure_ (i := 0) (N := some 101) (v := ?_) (a' := ?_) (px_l 1 24) rfl rfl (any_of HT_.out (by kernel_rfl)) (fun _ _ _ h => h) (Or.inl ⟨by rfl, ?_⟩) ?_ ?_
                   rotate_left
                   ·intro w'
                    go_simp
                    with_reducible rfl
                   rotate_left
                   ·simp only [px_q]
                    rfl
                   refine pure_ (i := 1) (N := some 102) (v := ?_) (a' := ?_) (px_l 2 23) rfl rfl (any_of HT_.out (by kernel_rfl)) (fun _ _ _ h => h) (Or.inl ⟨by rfl, ?_⟩) ?_ ?_
                   rotate_left
                   ·intro w'
                    go_simp
                    with_reducible rfl
                   rotate_left
                   ·simp only [px_q]
                    rfl
                   refine pure_ (i := 2) (N := some 103) (v := ?_) (a' := ?_) (px_l 3 22) rfl rfl (any_of HT_.out (by kernel_rfl)) (fun _ _ _ h => h) (Or.inl ⟨by rfl, ?_⟩) ?_ ?_
                   rotate_left
                   ·intro w'
                    go_simp
                    with_reducible rfl
                   rotate_left
                   ·simp only [px_q]
                    rfl
                   refine take_ (i := 3) (N := some 104) (v := ?_) (a' := ?_) (px_l 4 21) rfl rfl (take_ofW HT_.out HW_.out (by kernel_rfl)) (fun _ _ _ h => h) (Or.inl ⟨by rfl, ?_⟩) hHeld ?_ ?_
                   rotate_left
                   ·intro w' s0
                    go_simp
                    with_reducible rfl
                   rotate_left
                   ·simp only [px_q]
                    rfl
                   refine pure_ (i := 4) (N := some 105) (v := ?_) (a' := ?_) (px_l 5 20) rfl rfl (any_of HT_.out (by kernel_rfl)) (fun _ _ _ h => h) (Or.inl ⟨by rfl, ?_⟩) ?_ ?_
                   rotate_left
                   ·intro w'
                    go_simp
                    with_reducible rfl
                   rotate_left
                   ·simp only [px_q]
                    rfl
                   refine pure_ (i := 5) (N := some 106) (v := ?_) (a' := ?_) (px_l 6 19) rfl rfl (any_of HT_.out (by kernel_rfl)) (fun _ _ _ h => h) (Or.inl ⟨by rfl, ?_⟩) ?_ ?_
                   rotate_left
                   ·intro w'
                    go_simp
                    with_reducible rfl
                   rotate_left
                   ·simp only [px_q]
                    rfl
                   refine pure_ (i := 6) (N := some 107) (v := undef) (a' := ?_) (px_l 7 18) rfl rfl (any_of HT_.out (by kernel_rfl)) (fun _ _ _ h => h) (Or.inr ⟨by rfl, rfl⟩) ?_ ?_
                   rotate_left
                   ·simp only [px_q]
                    rfl
                   refine pure_ (i := 7) (N := some 108) (v := undef) (a' := ?_) (px_l 8 17) rfl rfl (any_of HT_.out (by kernel_rfl)) (fun _ _ _ h => h) (Or.inr ⟨by rfl, rfl⟩) ?_ ?_
                   rotate_left
                   ·simp only [px_q]
                    rfl
                   refine pure_ (i := 8) (N := some 109) (v := undef) (a' := ?_) (px_l 9 16) rfl rfl (any_of HT_.out (by kernel_rfl)) (fun _ _ _ h => h) (Or.inr ⟨by rfl, rfl⟩) ?_ ?_
                   rotate_left
                   ·simp only [px_q]
                    rfl
                   refine pure_ (i := 9) (N := some 110) (v := undef) (a' := ?_) (px_l 10 15) rfl rfl (any_of HT_.out (by kernel_rfl)) (fun _ _ _ h => h) (Or.inr ⟨by rfl, rfl⟩) ?_ ?_
                   rotate_left
                   ·simp only [px_q]
                    rfl
                   refine pure_ (i := 10) (N := some 111) (v := ?_) (a' := ?_) (px_l 11 14) rfl rfl (any_of HT_.out (by kernel_rfl)) (fun _ _ _ h => h) (Or.inl ⟨by rfl, ?_⟩) ?_ ?_
                   rotate_left
                   ·intro w'
                    go_simp
                    with_reducible rfl
                   rotate_left
                   ·simp only [px_q]
                    rfl
                   refine pure_ (i := 11) (N := some 112) (v := ?_) (a' := ?_) (px_l 12 13) rfl rfl (any_of HT_.out (by kernel_rfl)) (fun _ _ _ h => h) (Or.inl ⟨by rfl, ?_⟩) ?_ ?_
                   rotate_left
                   ·intro w'
                    go_simp
                    with_reducible rfl
                   rotate_left
                   ·simp only [px_q]
                    rfl
                   refine pure_ (i := 12) (N := some 113) (v := undef) (a' := ?_) (px_l 13 12) rfl rfl (any_of HT_.out (by kernel_rfl)) (fun _ _ _ h => h) (Or.inr ⟨by rfl, rfl⟩) ?_ ?_
                   rotate_left
                   ·simp only [px_q]
                    rfl
                   refine pure_ (i := 13) (N := some 114) (v := undef) (a' := ?_) (px_l 14 11) rfl rfl (any_of HT_.out (by kernel_rfl)) (fun _ _ _ h => h) (Or.inr ⟨by rfl, rfl⟩) ?_ ?_
                   rotate_left
                   ·simp only [px_q]
                    rfl
                   refine pure_ (i := 14) (N := some 115) (v := undef) (a' := ?_) (px_l 15 10) rfl rfl (any_of HT_.out (by kernel_rfl)) (fun _ _ _ h => h) (Or.inr ⟨by rfl, rfl⟩) ?_ ?_
                   rotate_left
                   ·simp only [px_q]
                    rfl
                   refine pure_ (i := 15) (N := some 116) (v := undef) (a' := ?_) (px_l 16 9) rfl rfl (any_of HT_.out (by kernel_rfl)) (fun _ _ _ h => h) (Or.inr ⟨by rfl, rfl⟩) ?_ ?_
                   rotate_left
                   ·simp only [px_q]
                    rfl
                   refine pure_ (i := 16) (N := some 117) (v := undef) (a' := ?_) (px_l 17 8) rfl rfl (any_of HT_.out (by kernel_rfl)) (fun _ _ _ h => h) (Or.inr ⟨by rfl, rfl⟩) ?_ ?_
                   rotate_left
                   ·simp only [px_q]
                    rfl
                   refine pure_ (i := 17) (N := some 118) (v := undef) (a' := ?_) (px_l 18 7) rfl rfl (any_of HT_.out (by kernel_rfl)) (fun _ _ _ h => h) (Or.inr ⟨by rfl, rfl⟩) ?_ ?_
                   rotate_left
                   ·simp only [px_q]
                    rfl
                   refine pure_ (i := 18) (N := some 119) (v := ?_) (a' := ?_) (px_l 19 6) rfl rfl (any_of HT_.out (by kernel_rfl)) (fun _ _ _ h => h) (Or.inl ⟨by rfl, ?_⟩) ?_ ?_
                   rotate_left
                   ·intro w'
                    go_simp
                    with_reducible rfl
                   rotate_left
                   ·simp only [px_q]
                    rfl
                   refine pure_ (i := 19) (N := some 120) (v := ?_) (a' := ?_) (px_l 20 5) rfl rfl (any_of HT_.out (by kernel_rfl)) (fun _ _ _ h => h) (Or.inl ⟨by rfl, ?_⟩) ?_ ?_
                   rotate_left
                   ·intro w'
                    go_simp
                    with_reducible rfl
                   rotate_left
                   ·simp only [px_q]
                    rfl
                   refine pure_ (i := 20) (N := some 121) (v := undef) (a' := ?_) (px_l 21 4) rfl rfl (any_of HT_.out (by kernel_rfl)) (fun _ _ _ h => h) (Or.inr ⟨by rfl, rfl⟩) ?_ ?_
                   rotate_left
                   ·simp only [px_q]
                    rfl
                   refine pure_ (i := 21) (N := some 122) (v := undef) (a' := ?_) (px_l 22 3) rfl rfl (any_of HT_.out (by kernel_rfl)) (fun _ _ _ h => h) (Or.inr ⟨by rfl, rfl⟩) ?_ ?_
                   rotate_left
                   ·simp only [px_q]
                    rfl
                   refine pure_ (i := 22) (N := some 123) (v := undef) (a' := ?_) (px_l 23 2) rfl rfl (any_of HT_.out (by kernel_rfl)) (fun _ _ _ h => h) (Or.inr ⟨by rfl, rfl⟩) ?_ ?_
                   rotate_left
                   ·simp only [px_q]
                    rfl
                   refine pure_ (i := 23) (N := some 124) (v := undef) (a' := ?_) (px_l 24 1) rfl rfl (any_of HT_.out (by kernel_rfl)) (fun _ _ _ h => h) (Or.inr ⟨by rfl, rfl⟩) ?_ ?_
                   rotate_left
                   ·simp only [px_q]
                    rfl
                   refine pure_ (i := 24) (N := some 125) (v := ?_) (a' := ?_) (px_l 25 0) rfl rfl (any_of HT_.out (by kernel_rfl)) (fun _ _ _ h => h) (Or.inl ⟨by rfl, ?_⟩) ?_ ?_
                   rotate_left
                   ·intro w'
                    go_simp
                    with_reducible rfl
                   rotate_left
                   ·simp only [px_q]
                    rfl
                   refine done_ (done_of HT_.out (by kernel_rfl)) ?_
                   try go_wp2
                   go_meet
                   case rel => exact ⟨_, (true), px_rf, H', ⟨by have := HJ1.out; have := HK2.out; have := HK3.out; first | omega | exact Nat.le_refl _⟩, ⟨px_rV HO_3.out⟩, ⟨by first | exact px_bV BK201.out | (rw [← Nbq55.out]; exact px_bV BK201.out)⟩, ⟨by first | exact px_bV BK216.out | (rw [← Nbq55.out]; exact px_bV BK216.out)⟩, ⟨px_h2 HB.out GE201.out GE216.out⟩⟩
                 ·rw [if_neg c61] at H
                  exact absurd H (by simp)
                case rest =>
                 clear HC57
                 try clear c2
                 try clear p2
                 try clear q2
                 try clear hx2
                 try clear c3
                 try clear c6
                 try clear p21
                 try clear q21
                 try clear hx21
                 try clear c29
                 try clear c30
                 try clear c61
                 try clear c62
                 try clear c62b0
                 try clear c62b1
                 try clear c68
                 try clear c68b0
                 try clear c68b1
                 try clear hx217_0
                 try clear p217
                 try clear q217
                 obtain ⟨kq, x125_56, rfl, HA, HJ56, HO_3, BK201, BK216, HB⟩ := hcut
                 cases kq with
                 | zero => exact absurd HA.out (by simp [impl_DictOk.j4])
                 | succ kj56 =>
                  have H := HA.out
                  clear HA
                  simp only [impl_DictOk.j4] at H
                  by_cases c79 : x125_56 = true
                  ·subst c79
                   have H1 : (some false) = some r := by rw [if_pos rfl] at H; exact H
                   clear H
                   have H := H1
                   clear H1
                   obtain rfl := Option.some.inj H
                   go_wp2
                   go_ret
                   exact ⟨by first | rfl | (simp [errW_none, errW_some] <;> rfl) | (simp [*, errW_none, errW_some] <;> rfl), px_h2 HB.out GE201.out GE216.out⟩
                  ·replace c79 := Bool.eq_false_iff.mpr c79
                   subst c79
                   have H1 : (impl_DictOk.l1 kj56 x3_2 l0_1 (l0_1.length : Int) (wrap64 (x90_3 + 1)) l0_0 l0_1) = some r := by rw [if_neg (show ¬ (false = true) by decide)] at H; exact H
                   clear H
                   have H := H1
                   clear H1
                   have H' := aM H
                   clear H
                   go_wp2
                   go_roundg kj56
                   case measure => have := HJ1.out; have := HK2.out; have := HK3.out; have := HJ56.out; omega
                   case rel => exact ⟨(wrap64 (x90_3 + 1)), px_rf, H', ⟨by have := HJ1.out; have := HK2.out; have := HK3.out; have := HJ56.out; omega⟩, ⟨px_rV HO_3.out⟩, ⟨by first | exact px_bV BK201.out | (rw [← Nbq55.out]; exact px_bV BK201.out)⟩, ⟨px_h2 HB.out GE201.out GE216.out⟩⟩
               ·replace c56 := Bool.eq_false_iff.mpr c56
                subst c56
                have H1 : (if (!((((rd_T38 l0_1 x90_3).f0).toList) == ([] : List UInt8)) || (!(((rd_T38 l0_1 x90_3).f1) == 0) || (!(((rd_T38 l0_1 x90_3).f2) == 0) || ((false))))) = true then (some false) else (impl_DictOk.l1 k3 x3_2 l0_1 (l0_1.length : Int) (wrap64 (x90_3 + 1)) l0_0 l0_1)) = some r := by rw [if_neg (show ¬ (false = true) by decide)] at H; exact H
                clear H
                have H := H1
                clear H1
                by_cases c80 : (!((((rd_T38 l0_1 x90_3).f0).toList) == ([] : List UInt8)) || (!(((rd_T38 l0_1 x90_3).f1) == 0) || (!(((rd_T38 l0_1 x90_3).f2) == 0) || ((false))))) = true
                ·rw [if_pos c80] at H
                 have c80b0 : (!((((rd_T38 l0_1 x90_3).f0).toList) == ([] : List UInt8)) || (!(((rd_T38 l0_1 x90_3).f1) == 0) || (!(((rd_T38 l0_1 x90_3).f2) == 0) || ((false))))) = true := c80
                 (try have c80b1 : (!(((rd_T38 l0_1 x90_3).f0).toList.isEmpty) || (!(((rd_T38 l0_1 x90_3).f1) == 0) || (!(((rd_T38 l0_1 x90_3).f2) == 0)))) = true := by simpa using c80b0)
                 clear c80
                 obtain rfl := Option.some.inj H
                 have p215 : 0 ≤ (x90_3 : Int) := px_od
                 have q215 : x90_3 < (l0_1.length : Int) := px_od
                 obtain ⟨ad215, e215, hx215_0, hx215_1, hx215_2, hx215_3⟩ := at_T38 HR0_1.out x90_3 p215 q215
                 (try rw [← Nbq55.out] at hx215_3)
                 (try rw [← Nbq55.out] at hw215_3)
                 cases e215
                 replace hx215_0 := px_hx HB.out hx215_0
                 replace hx215_1 := px_hx HB.out hx215_1
                 replace hx215_2 := px_hx HB.out hx215_2
                 replace hx215_3 := px_hx HB.out hx215_3
                 replace p215 := eq_true p215
                 replace q215 := eq_true q215
                 go_wp2_with (first | ((with_reducible refine gate_dst (N := 8) rfl ?_); (try (refine gate_guard (by rfl) ?_; dsimp only)); refine box_event ?hg (N := 8) ?hd (cs := #[.string (⟨#[]⟩ : ByteArray), .int .i64 0, .int .i64 0, .bool false]) (t := 38) ?hr ?_; (case hd => rfl); (case hg => rfl); (case hr => first | (go_simp; done) | (go_simp; rfl)); intro gb216 hg w81 hbox hb; have n0_ := aM (Kd.R_below (px_rV HO_3.out) hb); have n1_ := aM (blk_below (g := gb201) (o := .cells #[.slice A0_0 l0_0.length c0_0, .slice (some ad215) l0_1.length c0_1] 30 (0, 0)) (px_bV BK201.out) hb); have n2_ := aM (below_step (px_h1 HB.out GE201.out) hb); have n3_ := aM (hbox); have n4_ := aM ((by rw [hg]; exact (below_size (px_h1 HB.out GE201.out)) : w.heap.size ≤ gb216)); have n5_ := aM ((by rw [hg]; exact (below_size (px_h1 HB.out GE201.out)) : w.heap.size ≤ gb216)); have n6_ := aM ((by rw [hg]; exact Nat.ne_of_lt (blk_lt (g := gb201) (o := .cells #[.slice A0_0 l0_0.length c0_0, .slice (some ad215) l0_1.length c0_1] 30 (0, 0)) (px_bV BK201.out)) : gb201 ≠ gb216)); have n7_ := aM ((by rw [hg]; exact Nat.ne_of_gt (blk_lt (g := gb201) (o := .cells #[.slice A0_0 l0_0.length c0_0, .slice (some ad215) l0_1.length c0_1] 30 (0, 0)) (px_bV BK201.out)) : gb216 ≠ gb201)); clear HO_3; clear BK201; clear HB; have HO_3 := n0_; have BK201 := n1_; have HB := n2_; have BK216 := n3_; have GW216 := n4_; have GE216 := n5_; have NB201_216 := n6_; have NB216_201 := n7_; clear n0_ n1_ n2_ n3_ n4_ n5_ n6_ n7_; clear hb hbox hg; have hnb82 := NB216_201.out; have hnc82 := NB201_216.out; have hcz83_0 : w81.cell? ⟨gb216, 0, none⟩ = some (.string (⟨#[]⟩ : ByteArray)) := (blk_cell BK216.out 0).trans rfl; have hcz83_1 : w81.cell? ⟨gb216, 1, none⟩ = some (.int .i64 0) := (blk_cell BK216.out 1).trans rfl; have hcz83_2 : w81.cell? ⟨gb216, 2, none⟩ = some (.int .i64 0) := (blk_cell BK216.out 2).trans rfl; have hcz83_3 : w81.cell? ⟨gb216, 3, none⟩ = some (.bool false) := (blk_cell BK216.out 3).trans rfl; have hfz83_0 := blk_frozen BK216.out 0; have hfz83_1 := blk_frozen BK216.out 1; have hfz83_2 := blk_frozen BK216.out 2; have hfz83_3 := blk_frozen BK216.out 3))
                 go_ret
                 exact ⟨by first | rfl | (simp [errW_none, errW_some] <;> rfl) | (simp [*, errW_none, errW_some] <;> rfl), px_h2 HB.out GE201.out GE216.out⟩
                ·rw [if_neg c80] at H
                 have c80b0 : (!((((rd_T38 l0_1 x90_3).f0).toList) == ([] : List UInt8)) || (!(((rd_T38 l0_1 x90_3).f1) == 0) || (!(((rd_T38 l0_1 x90_3).f2) == 0) || ((false))))) = false := by simpa using c80
                 (try have c80b1 : (!(((rd_T38 l0_1 x90_3).f0).toList.isEmpty) || (!(((rd_T38 l0_1 x90_3).f1) == 0) || (!(((rd_T38 l0_1 x90_3).f2) == 0)))) = false := by simpa using c80b0)
                 clear c80
                 have H' := aM H
                 clear H
                 have p215 : 0 ≤ (x90_3 : Int) := px_od
                 have q215 : x90_3 < (l0_1.length : Int) := px_od
                 obtain ⟨ad215, e215, hx215_0, hx215_1, hx215_2, hx215_3⟩ := at_T38 HR0_1.out x90_3 p215 q215
                 (try rw [← Nbq55.out] at hx215_3)
                 (try rw [← Nbq55.out] at hw215_3)
                 cases e215
                 replace hx215_0 := px_hx HB.out hx215_0
                 replace hx215_1 := px_hx HB.out hx215_1
                 replace hx215_2 := px_hx HB.out hx215_2
                 replace hx215_3 := px_hx HB.out hx215_3
                 replace p215 := eq_true p215
                 replace q215 := eq_true q215
                 go_wp2_with (first | ((with_reducible refine gate_dst (N := 8) rfl ?_); (try (refine gate_guard (by rfl) ?_; dsimp only)); refine box_event ?hg (N := 8) ?hd (cs := #[.string (⟨#[]⟩ : ByteArray), .int .i64 0, .int .i64 0, .bool false]) (t := 38) ?hr ?_; (case hd => rfl); (case hg => rfl); (case hr => first | (go_simp; done) | (go_simp; rfl)); intro gb216 hg w84 hbox hb; have n0_ := aM (Kd.R_below (px_rV HO_3.out) hb); have n1_ := aM (blk_below (g := gb201) (o := .cells #[.slice A0_0 l0_0.length c0_0, .slice (some ad215) l0_1.length c0_1] 30 (0, 0)) (px_bV BK201.out) hb); have n2_ := aM (below_step (px_h1 HB.out GE201.out) hb); have n3_ := aM (hbox); have n4_ := aM ((by rw [hg]; exact (below_size (px_h1 HB.out GE201.out)) : w.heap.size ≤ gb216)); have n5_ := aM ((by rw [hg]; exact (below_size (px_h1 HB.out GE201.out)) : w.heap.size ≤ gb216)); have n6_ := aM ((by rw [hg]; exact Nat.ne_of_lt (blk_lt (g := gb201) (o := .cells #[.slice A0_0 l0_0.length c0_0, .slice (some ad215) l0_1.length c0_1] 30 (0, 0)) (px_bV BK201.out)) : gb201 ≠ gb216)); have n7_ := aM ((by rw [hg]; exact Nat.ne_of_gt (blk_lt (g := gb201) (o := .cells #[.slice A0_0 l0_0.length c0_0, .slice (some ad215) l0_1.length c0_1] 30 (0, 0)) (px_bV BK201.out)) : gb216 ≠ gb201)); clear HO_3; clear BK201; clear HB; have HO_3 := n0_; have BK201 := n1_; have HB := n2_; have BK216 := n3_; have GW216 := n4_; have GE216 := n5_; have NB201_216 := n6_; have NB216_201 := n7_; clear n0_ n1_ n2_ n3_ n4_ n5_ n6_ n7_; clear hb hbox hg; have hnb85 := NB216_201.out; have hnc85 := NB201_216.out; have hcz86_0 : w84.cell? ⟨gb216, 0, none⟩ = some (.string (⟨#[]⟩ : ByteArray)) := (blk_cell BK216.out 0).trans rfl; have hcz86_1 : w84.cell? ⟨gb216, 1, none⟩ = some (.int .i64 0) := (blk_cell BK216.out 1).trans rfl; have hcz86_2 : w84.cell? ⟨gb216, 2, none⟩ = some (.int .i64 0) := (blk_cell BK216.out 2).trans rfl; have hcz86_3 : w84.cell? ⟨gb216, 3, none⟩ = some (.bool false) := (blk_cell BK216.out 3).trans rfl; have hfz86_0 := blk_frozen BK216.out 0; have hfz86_1 := blk_frozen BK216.out 1; have hfz86_2 := blk_frozen BK216.out 2; have hfz86_3 := blk_frozen BK216.out 3))
                 go_roundg k3
                 case measure => have := HJ1.out; have := HK2.out; have := HK3.out; omega
                 case rel => exact ⟨(wrap64 (x90_3 + 1)), px_rf, H', ⟨by have := HJ1.out; have := HK2.out; have := HK3.out; omega⟩, ⟨by (with_reducible repeat (first | apply Kd.R_alloc | apply Kd.R_drewN | apply Kd.R_drew)); exact Kd.R_mono (Kd.R_far (p := ⟨gb216, 3, none⟩) (Kd.R_far (p := ⟨gb216, 2, none⟩) (Kd.R_far (p := ⟨gb216, 1, none⟩) (Kd.R_far (p := ⟨gb216, 0, none⟩) (Kd.R_types HO_3.out BK216.out (by decide)) (fun _ hk => hk.2) (.string ((rd_T38 l0_1 x90_3).f0))) (fun _ hk => hk.2) (.int .i64 ((rd_T38 l0_1 x90_3).f1))) (fun _ hk => hk.2) (.int .i64 ((rd_T38 l0_1 x90_3).f2))) (fun _ hk => hk.2) (.bool false)) (fun _ hk => trivial)⟩, ⟨by (with_reducible repeat (first | refine blk_drewN ?_ _ | refine blk_drew ?_ | refine blk_alloc ?_ _)); refine blk_far ?_ NB201_216.out _; (with_reducible repeat (first | refine blk_drewN ?_ _ | refine blk_drew ?_ | refine blk_alloc ?_ _)); refine blk_far ?_ NB201_216.out _; (with_reducible repeat (first | refine blk_drewN ?_ _ | refine blk_drew ?_ | refine blk_alloc ?_ _)); refine blk_far ?_ NB201_216.out _; (with_reducible repeat (first | refine blk_drewN ?_ _ | refine blk_drew ?_ | refine blk_alloc ?_ _)); refine blk_far ?_ NB201_216.out _; (with_reducible repeat (first | refine blk_drewN ?_ _ | refine blk_drew ?_ | refine blk_alloc ?_ _)); first | exact BK201.out | (rw [← Nbq55.out]; exact BK201.out)⟩, ⟨px_h2 HB.out GE201.out GE216.out⟩⟩
              ·rw [if_neg c54] at H
               exact absurd H (by simp)
             ·rw [if_neg c53] at H
              exact absurd H (by simp)
            ·rw [if_neg c52] at H
             have c52b0 : decide (x90_3 < (l0_1.length : Int)) = false := decide_eq_false c52
             clear c52
             have H' := aM H
             clear H
             have hcz87_0 : wr.cell? ⟨gb201, 0, none⟩ = some (.slice A0_0 l0_0.length c0_0) := (blk_cell BK201.out 0).trans rfl
             have hcz87_1 : wr.cell? ⟨gb201, 1, none⟩ = some (.slice A0_1 l0_1.length c0_1) := (blk_cell BK201.out 1).trans rfl
             have hfz87_0 := blk_frozen BK201.out 0
             have hfz87_1 := blk_frozen BK201.out 1
             go_wp2
             go_loopg [130] k3 (fun kq v130 w' => ∃ (x130_4 : Int), v130 = .int .i64 x130_4 ∧ Aside0 (impl_DictOk.l2 kq l0_1 (l0_1.length : Int) x130_4 l0_0 l0_1 = some r) ∧ Aside0 (kq ≤ k3) ∧ Aside0 (w'.heap[gb201]? = some (.cells #[(.slice A0_0 l0_0.length c0_0), (.slice A0_1 l0_1.length c0_1)] 30 (0, 0))) ∧ Aside0 (Below w.heap.size w w'))
             case atStart => exact ⟨(0), px_rf, H', ⟨Nat.le_refl _⟩, ⟨px_bV BK201.out⟩, ⟨px_h1 HB.out GE201.out⟩⟩
             case round =>
              clear H'
              try clear c2
              try clear p2
              try clear q2
              try clear hx2
              try clear c3
              try clear c5
              try clear q5
              try clear c6
              try clear p6
              try clear c7
              try clear c8
              try clear p21
              try clear q21
              try clear hx21
              try clear c29
              try clear c30
              try clear c52
              try clear c52b0
              try clear c53
              try clear c54
              try clear q55
              try clear c56
              try clear c61
              try clear c62
              try clear c62b0
              try clear c62b1
              try clear p64
              try clear c68
              try clear c68b0
              try clear c68b1
              try clear c79
              try clear c80
              try clear c80b0
              try clear c82
              try clear c85
              try clear hcz83_0
              try clear hcz83_1
              try clear hcz83_2
              try clear hcz83_3
              try clear hcz86_0
              try clear hcz86_1
              try clear hcz86_2
              try clear hcz86_3
              try clear hcz87_0
              try clear hcz87_1
              try clear hfz83_0
              try clear hfz83_1
              try clear hfz83_2
              try clear hfz83_3
              try clear hfz86_0
              try clear hfz86_1
              try clear hfz86_2
              try clear hfz86_3
              try clear hfz87_0
              try clear hfz87_1
              try clear hx215_0
              try clear hx215_1
              try clear hx215_2
              try clear hx215_3
              try clear hx217_0
              try clear p2
              try clear p21
              try clear p215
              try clear p217
              try clear q2
              try clear q21
              try clear q215
              try clear q217
              obtain ⟨x130_4, rfl, HA, HK4, BK201, HB⟩ := hrel
              cases gk with
              | zero => exact absurd HA.out (by simp [impl_DictOk.l2])
              | succ k4 =>
               have H := HA.out
               clear HA
               simp only [impl_DictOk.l2] at H
               by_cases c88 : x130_4 < (l0_1.length : Int)
               ·rw [if_pos c88] at H
                have c88b0 : decide (x130_4 < (l0_1.length : Int)) = true := decide_eq_true c88
                clear c88
                by_cases c89 : 0 ≤ x130_4
                ·rw [if_pos c89] at H
                 have c89b0 : decide (0 ≤ x130_4) = true := decide_eq_true c89
                 clear c89
                 by_cases c90 : x130_4 < (l0_1.length : Int)
                 ·rw [if_pos c90] at H
                  have c90b0 : decide (x130_4 < (l0_1.length : Int)) = true := decide_eq_true c90
                  clear c90
                  obtain ⟨bq91, hbq91⟩ : ∃ b_ : Bool, b_ = ((rd_T38 l0_1 x130_4).f3) := ⟨_, rfl⟩
                  replace H : (if bq91 = true then ((impl_Dict_probe.f k4 l0_0 l0_1 ((rd_T38 l0_1 x130_4).f0)).bind fun t222 => (if 0 ≤ (wrap64 ((t222.length : Int) - 1)) then (if (wrap64 ((t222.length : Int) - 1)) < (t222.length : Int) then (if 0 ≤ (rd t222 (wrap64 ((t222.length : Int) - 1))) then (if (rd t222 (wrap64 ((t222.length : Int) - 1))) < (l0_0.length : Int) then (if (rd l0_0 (rd t222 (wrap64 ((t222.length : Int) - 1)))) = x130_4 then (impl_DictOk.l2 k4 l0_1 (l0_1.length : Int) (wrap64 (x130_4 + 1)) l0_0 l0_1) else (some false)) else (none)) else (none)) else (none)) else (none))) else (impl_DictOk.l2 k4 l0_1 (l0_1.length : Int) (wrap64 (x130_4 + 1)) l0_0 l0_1)) = some r := by rw [← hbq91] at H; exact H
                  have Nbq91 := aM hbq91
                  clear hbq91
                  by_cases c92 : bq91 = true
                  ·subst c92
                   have H1 : ((impl_Dict_probe.f k4 l0_0 l0_1 ((rd_T38 l0_1 x130_4).f0)).bind fun t222 => (if 0 ≤ (wrap64 ((t222.length : Int) - 1)) then (if (wrap64 ((t222.length : Int) - 1)) < (t222.length : Int) then (if 0 ≤ (rd t222 (wrap64 ((t222.length : Int) - 1))) then (if (rd t222 (wrap64 ((t222.length : Int) - 1))) < (l0_0.length : Int) then (if (rd l0_0 (rd t222 (wrap64 ((t222.length : Int) - 1)))) = x130_4 then (impl_DictOk.l2 k4 l0_1 (l0_1.length : Int) (wrap64 (x130_4 + 1)) l0_0 l0_1) else (some false)) else (none)) else (none)) else (none)) else (none))) = some r := by rw [if_pos rfl] at H; exact H
                   clear H
                   have H := H1
                   clear H1
                   replace H := Option.bind_eq_some_iff.mp H
                   obtain ⟨t222, A930, H⟩ := H
                   replace H : (if 0 ≤ (wrap64 ((t222.length : Int) - 1)) then (if (wrap64 ((t222.length : Int) - 1)) < (t222.length : Int) then (if 0 ≤ (rd t222 (wrap64 ((t222.length : Int) - 1))) then (if (rd t222 (wrap64 ((t222.length : Int) - 1))) < (l0_0.length : Int) then (if (rd l0_0 (rd t222 (wrap64 ((t222.length : Int) - 1)))) = x130_4 then (impl_DictOk.l2 k4 l0_1 (l0_1.length : Int) (wrap64 (x130_4 + 1)) l0_0 l0_1) else (some false)) else (none)) else (none)) else (none)) else (none)) = some r := H
                   have A93 := aM A930
                   clear A930
                   obtain ⟨ji94, hji94⟩ : ∃ j_ : Int, (wrap64 ((t222.length : Int) - 1)) = j_ := ⟨_, rfl⟩
                   replace H : (if 0 ≤ (ji94) then (if (ji94) < (t222.length : Int) then (if 0 ≤ (rd t222 (ji94)) then (if (rd t222 (ji94)) < (l0_0.length : Int) then (if (rd l0_0 (rd t222 (ji94))) = x130_4 then (impl_DictOk.l2 k4 l0_1 (l0_1.length : Int) (wrap64 (x130_4 + 1)) l0_0 l0_1) else (some false)) else (none)) else (none)) else (none)) else (none)) = some r := by first | (rw [hji94] at H; exact H) | (simp only [hji94] at H ⊢; exact H)
                   (try rw [hji94] at A93)
                   have hji94w : (IntKind.i64.wrap ((t222.length : Int) - 1)) = ji94 := (i64_w _).trans hji94
                   by_cases c95 : 0 ≤ (ji94)
                   ·rw [if_pos c95] at H
                    have c95b0 : decide (0 ≤ (ji94)) = true := decide_eq_true c95
                    clear c95
                    by_cases c96 : (ji94) < (t222.length : Int)
                    ·rw [if_pos c96] at H
                     have c96b0 : decide ((ji94) < (t222.length : Int)) = true := decide_eq_true c96
                     clear c96
                     by_cases c97 : 0 ≤ (rd t222 (ji94))
                     ·rw [if_pos c97] at H
                      have c97b0 : decide (0 ≤ (rd t222 (ji94))) = true := decide_eq_true c97
                      clear c97
                      by_cases c98 : (rd t222 (ji94)) < (l0_0.length : Int)
                      ·rw [if_pos c98] at H
                       have c98b0 : decide ((rd t222 (ji94)) < (l0_0.length : Int)) = true := decide_eq_true c98
                       clear c98
                       by_cases c99 : (rd l0_0 (rd t222 (ji94))) = x130_4
                       ·rw [if_pos c99] at H
                        have c99b0 : ((rd l0_0 (rd t222 (ji94))) == x130_4) = true := beq_iff_eq.mpr c99
                        have c99b1 : ((rd l0_0 (rd t222 (ji94))) != x130_4) = false := bne_eq_false_iff_eq.mpr c99
                        clear c99
                        have H' := aM H
                        clear H
                        have p220 : 0 ≤ (x130_4 : Int) := px_od
                        have q220 : x130_4 < (l0_1.length : Int) := px_od
                        obtain ⟨ad220, e220, hx220_0, hx220_1, hx220_2, hx220_3⟩ := at_T38 HR0_1.out x130_4 p220 q220
                        (try rw [← Nbq91.out] at hx220_3)
                        (try rw [← Nbq91.out] at hw220_3)
                        cases e220
                        replace hx220_0 := px_hx HB.out hx220_0
                        replace hx220_1 := px_hx HB.out hx220_1
                        replace hx220_2 := px_hx HB.out hx220_2
                        replace hx220_3 := px_hx HB.out hx220_3
                        replace p220 := eq_true p220
                        replace q220 := eq_true q220
                        try go_wp2_with (first | ((with_reducible refine gate_dst (N := 10) rfl ?_); (try (refine gate_guard (by rfl) ?_; dsimp only)); refine box_event ?hg (N := 10) ?hd (cs := #[.string (⟨#[]⟩ : ByteArray), .int .i64 0, .int .i64 0, .bool false]) (t := 38) ?hr ?_; (case hd => rfl); (case hg => rfl); (case hr => first | (go_simp; done) | (go_simp; rfl)); intro gb221 hg w100 hbox hb; have n0_ := aM (blk_below (g := gb201) (o := .cells #[.slice A0_0 l0_0.length c0_0, .slice (some ad220) l0_1.length c0_1] 30 (0, 0)) (px_bV BK201.out) hb); have n1_ := aM (below_step (px_h1 HB.out GE201.out) hb); have n2_ := aM (hbox); have n3_ := aM ((by rw [hg]; exact (below_size (px_h1 HB.out GE201.out)) : w.heap.size ≤ gb221)); have n4_ := aM ((by rw [hg]; exact (below_size (px_h1 HB.out GE201.out)) : w.heap.size ≤ gb221)); have n5_ := aM ((by rw [hg]; exact Nat.ne_of_lt (blk_lt (g := gb201) (o := .cells #[.slice A0_0 l0_0.length c0_0, .slice (some ad220) l0_1.length c0_1] 30 (0, 0)) (px_bV BK201.out)) : gb201 ≠ gb221)); have n6_ := aM ((by rw [hg]; exact Nat.ne_of_gt (blk_lt (g := gb201) (o := .cells #[.slice A0_0 l0_0.length c0_0, .slice (some ad220) l0_1.length c0_1] 30 (0, 0)) (px_bV BK201.out)) : gb221 ≠ gb201)); clear BK201; clear HB; have BK201 := n0_; have HB := n1_; have BK221 := n2_; have GW221 := n3_; have GE221 := n4_; have NB201_221 := n5_; have NB221_201 := n6_; clear n0_ n1_ n2_ n3_ n4_ n5_ n6_; clear hb hbox hg; have hnb101 := NB221_201.out; have hnc101 := NB201_221.out; have hcz102_0 : w100.cell? ⟨gb221, 0, none⟩ = some (.string (⟨#[]⟩ : ByteArray)) := (blk_cell BK221.out 0).trans rfl; have hcz102_1 : w100.cell? ⟨gb221, 1, none⟩ = some (.int .i64 0) := (blk_cell BK221.out 1).trans rfl; have hcz102_2 : w100.cell? ⟨gb221, 2, none⟩ = some (.int .i64 0) := (blk_cell BK221.out 2).trans rfl; have hcz102_3 : w100.cell? ⟨gb221, 3, none⟩ = some (.bool false) := (blk_cell BK221.out 3).trans rfl; have hfz102_0 := blk_frozen BK221.out 0; have hfz102_1 := blk_frozen BK221.out 1; have hfz102_2 := blk_frozen BK221.out 2; have hfz102_3 := blk_frozen BK221.out 3; have hcz103_0 : w100.cell? ⟨gb201, 0, none⟩ = some (.slice A0_0 l0_0.length c0_0) := (blk_cell BK201.out 0).trans rfl; have hcz103_1 : w100.cell? ⟨gb201, 1, none⟩ = some (.slice (some ad220) l0_1.length c0_1) := (blk_cell BK201.out 1).trans rfl; have hfz103_0 := blk_frozen BK201.out 0; have hfz103_1 := blk_frozen BK201.out 1) | ((with_reducible refine gate_callee (f := 31) rfl ?_); refine goesL_ (some 140) rfl rfl Try.func31 (by kernel_rfl) rfl #[.agg #[.slice A0_0 l0_0.length c0_0, .slice (some ad220) l0_1.length c0_1], .string ((rd_T38 l0_1 x130_4).f0)] rfl px_dn ?_; (with_reducible refine (impl_Dict_probe.calls k4 _ _ l0_0 _ _ l0_1 ((rd_T38 l0_1 x130_4).f0) t222 _ ?side1 ?side2 ?side3 ?side4 A93.out).mono ?_); (case side1 => exact Kd.C_below HR0_0.out (px_h2 HB.out GE201.out GE221.out)); (case side2 => exact HC0_0.out); (case side3 => exact Kd.C_below HR0_1.out (px_h2 HB.out GE201.out GE221.out)); (case side4 => exact HC0_1.out); rintro e w104 ⟨v223, rfl, ho0, hb⟩; refine ⟨_, rfl, ?_⟩; have n0_ := aM (Kd.R_lower ho0 (below_size (px_h2 HB.out GE201.out GE221.out))); have n1_ := aM (blk_below (g := gb201) (o := .cells #[.slice A0_0 l0_0.length c0_0, .slice (some ad220) l0_1.length c0_1] 30 (0, 0)) (by (with_reducible repeat (first | refine blk_drewN ?_ _ | refine blk_drew ?_ | refine blk_alloc ?_ _)); refine blk_far ?_ NB201_221.out _; (with_reducible repeat (first | refine blk_drewN ?_ _ | refine blk_drew ?_ | refine blk_alloc ?_ _)); refine blk_far ?_ NB201_221.out _; (with_reducible repeat (first | refine blk_drewN ?_ _ | refine blk_drew ?_ | refine blk_alloc ?_ _)); refine blk_far ?_ NB201_221.out _; (with_reducible repeat (first | refine blk_drewN ?_ _ | refine blk_drew ?_ | refine blk_alloc ?_ _)); refine blk_far ?_ NB201_221.out _; (with_reducible repeat (first | refine blk_drewN ?_ _ | refine blk_drew ?_ | refine blk_alloc ?_ _)); exact BK201.out) hb); have n2_ := aM (blk_below (g := gb221) (o := .cells #[.string ((rd_T38 l0_1 x130_4).f0), .int .i64 ((rd_T38 l0_1 x130_4).f1), .int .i64 ((rd_T38 l0_1 x130_4).f2), .bool true] 38 (0, 0)) (by (with_reducible repeat (first | refine blk_drewN ?_ _ | refine blk_drew ?_ | refine blk_alloc ?_ _)); refine blk_put (cs := #[.string ((rd_T38 l0_1 x130_4).f0), .int .i64 ((rd_T38 l0_1 x130_4).f1), .int .i64 ((rd_T38 l0_1 x130_4).f2), .bool false]) ?_ 3 _ rfl; (with_reducible repeat (first | refine blk_drewN ?_ _ | refine blk_drew ?_ | refine blk_alloc ?_ _)); refine blk_put (cs := #[.string ((rd_T38 l0_1 x130_4).f0), .int .i64 ((rd_T38 l0_1 x130_4).f1), .int .i64 0, .bool false]) ?_ 2 _ rfl; (with_reducible repeat (first | refine blk_drewN ?_ _ | refine blk_drew ?_ | refine blk_alloc ?_ _)); refine blk_put (cs := #[.string ((rd_T38 l0_1 x130_4).f0), .int .i64 0, .int .i64 0, .bool false]) ?_ 1 _ rfl; (with_reducible repeat (first | refine blk_drewN ?_ _ | refine blk_drew ?_ | refine blk_alloc ?_ _)); refine blk_put (cs := #[.string (⟨#[]⟩ : ByteArray), .int .i64 0, .int .i64 0, .bool false]) ?_ 0 _ rfl; (with_reducible repeat (first | refine blk_drewN ?_ _ | refine blk_drew ?_ | refine blk_alloc ?_ _)); exact BK221.out) hb); have n3_ := aM (below_step (px_h2 HB.out GE201.out GE221.out) hb); clear BK201; clear BK221; clear HB; have HO224 := n0_; have BK201 := n1_; have BK221 := n2_; have HB := n3_; clear n0_ n1_ n2_ n3_; (try clear hb); (try clear hb2); (try clear hk); (try clear hi); (try clear ho0)))
                        have n0_ := aM (Kd.R_drew HO224.out)
                        have n1_ := aM (blk_drew BK201.out)
                        have n2_ := aM (blk_drew BK221.out)
                        have n3_ := aM (below_drew1 HB.out)
                        clear HO224
                        clear BK201
                        clear BK221
                        clear HB
                        have HO224 := n0_
                        have BK201 := n1_
                        have BK221 := n2_
                        have HB := n3_
                        clear n0_ n1_ n2_ n3_
                        obtain ⟨Ao106, co106, eo106⟩ := Kd.R_slice HO224.out
                        (first | subst eo106 | (injection eo106 with f1_ f2_ f3_; have f4_ := f1_.symm; have f5_ := f3_.symm; clear f1_ f2_ f3_; subst f4_; subst f5_))
                        have p225 : 0 ≤ ((ji94) : Int) := px_od
                        have q225 : (ji94) < (t222.length : Int) := px_od
                        obtain ⟨ad225, e225, hx225_0⟩ := Kd.at_int (Kd.R_reads' HO224.out).2.2 (ji94) p225 q225
                        cases e225
                        replace p225 := eq_true p225
                        replace q225 := eq_true q225
                        have p226 : 0 ≤ ((rd t222 (ji94)) : Int) := px_od
                        have q226 : (rd t222 (ji94)) < (l0_0.length : Int) := px_od
                        obtain ⟨ad226, e226, hx226_0⟩ := Kd.at_int HR0_0.out (rd t222 (ji94)) p226 q226
                        have hw226_0 := hx226_0
                        cases e226
                        replace hx226_0 := px_hx HB.out hx226_0
                        replace p226 := eq_true p226
                        replace q226 := eq_true q226
                        refine start_ (n := 12) (S := fun w' => w'.cell? ⟨gb201, 0, none⟩ = some (.slice (some ad226) l0_0.length c0_0) ∧ w'.cell? ⟨gb201, 1, none⟩ = some (.slice (some ad220) l0_1.length c0_1) ∧ w'.cell? (ad225.add ((ji94)).toNat) = some (.int .i64 (rd t222 (ji94))) ∧ w'.cell? (ad226.add ((rd t222 (ji94))).toNat) = some (.int .i64 (rd l0_0 (rd t222 (ji94))))) (ds := []) (px_l 0 12) (by kernel_rfl) rfl rfl ⟨(blk_cell BK201.out 0).trans rfl, (blk_cell BK201.out 1).trans rfl, hx225_0, ((HB.out.cell (World.block_lt_of_cell? w _ hw226_0)).trans hw226_0)⟩ (fun hHeld => ?_); refine with_tabW impl_DictOk.tab31 impl_DictOk.bits31 (fun HT_ HW_ => ?_)
                        generalize w104.drew = w105 at HO224 BK201 BK221 HB hx225_0 hx226_0 hHeld ⊢
                        refine pure_ (i := 0) (N := some 141) (v := ?_) (a' := ?_) (px_l 1 11) rfl rfl (any_of HT_.out (by kernel_rfl)) (fun _ _ _ h => h) (Or.inl ⟨by rfl, ?_⟩) ?_ ?_
                        rotate_left
                        ·intro w'
                         go_simp
                         with_reducible rfl
                        rotate_left
                        ·simp only [px_q]
                         rfl
                        refine pure_ (i := 2) (N := some 143) (v := ?_) (a' := ?_) #[true, false, true, false, false, false, false, false, false, false, false, false] rfl rfl (any_of HT_.out (by kernel_rfl)) (fun _ _ _ h => h) (Or.inl ⟨by rfl, ?_⟩) ?_ ?_
                        rotate_left
                        ·intro w'
                         go_simp
                         with_reducible rfl
                        rotate_left
                        ·simp only [px_q]
                         rfl
                        refine pure_ (i := 3) (N := some 144) (v := ?_) (a' := ?_) #[true, false, true, true, false, false, false, false, false, false, false, false] rfl rfl (any_of HT_.out (by kernel_rfl)) (fun _ _ _ h => h) (Or.inl ⟨by rfl, ?_⟩) ?_ ?_
                        rotate_left
                        ·intro w'
                         go_simp
                         with_reducible rfl
                        rotate_left
                        ·simp only [px_q]
                         rfl
                        refine pure_ (i := 4) (N := some 145) (v := ?_) (a' := ?_) #[true, false, true, true, true, false, false, false, false, false, false, false] rfl rfl (any_of HT_.out (by kernel_rfl)) (fun _ _ _ h => h) (Or.inl ⟨by rfl, ?_⟩) ?_ ?_
                        rotate_left
                        ·intro w'
                         go_simp
                         with_reducible rfl
                        rotate_left
                        ·simp only [px_q]
                         rfl
                        refine pure_ (i := 5) (N := some 146) (v := ?_) (a' := ?_) #[true, false, true, true, true, true, false, false, false, false, false, false] rfl rfl (any_of HT_.out (by kernel_rfl)) (fun _ _ _ h => h) (Or.inl ⟨by rfl, ?_⟩) ?_ ?_
                        rotate_left
                        ·intro w'
                         go_simp
                         with_reducible rfl
                        rotate_left
                        ·simp only [px_q]
                         rfl
                        refine pure_ (i := 6) (N := some 147) (v := ?_) (a' := ?_) #[true, false, true, true, true, true, true, false, false, false, false, false] rfl rfl (any_of HT_.out (by kernel_rfl)) (fun _ _ _ h => h) (Or.inl ⟨by rfl, ?_⟩) ?_ ?_
                        rotate_left
                        ·intro w'
                         go_simp
                         with_reducible rfl
                        rotate_left
                        ·simp only [px_q]
                         rfl
                        refine pure_ (i := 10) (N := some 151) (v := ?_) (a' := ?_) #[true, false, true, true, true, true, true, false, false, false, true, false] rfl rfl (any_of HT_.out (by kernel_rfl)) (fun _ _ _ h => h) (Or.inl ⟨by rfl, ?_⟩) ?_ ?_
                        rotate_left
                        ·intro w'
                         go_simp
                         with_reducible rfl
                        rotate_left
                        ·simp only [px_q]
                         rfl
                        refine take_ (i := 1) (N := some 142) (v := ?_) (a' := ?_) #[true, true, true, true, true, true, true, false, false, false, true, false] rfl rfl (take_ofW HT_.out HW_.out (by kernel_rfl)) (fun _ _ _ h => h) (Or.inl ⟨by rfl, ?_⟩) hHeld ?_ ?_
                        rotate_left
                        ·rintro w' ⟨s0, s1, s2, s3⟩
                         go_simp
                         with_reducible rfl
                        rotate_left
                        ·simp only [px_q]
                         rfl
                        refine take_ (i := 7) (N := some 148) (v := ?_) (a' := ?_) #[true, true, true, true, true, true, true, true, false, false, true, false] rfl rfl (take_ofW HT_.out HW_.out (by kernel_rfl)) (fun _ _ _ h => h) (Or.inl ⟨by rfl, ?_⟩) hHeld ?_ ?_
                        rotate_left
                        ·rintro w' ⟨s0, s1, s2, s3⟩
                         go_simp
                         with_reducible rfl
                        rotate_left
                        ·simp only [px_q]
                         rfl
                        refine pure_ (i := 8) (N := some 149) (v := ?_) (a' := ?_) #[true, true, true, true, true, true, true, true, true, false, true, false] rfl rfl (any_of HT_.out (by kernel_rfl)) (fun _ _ _ h => h) (Or.inl ⟨by rfl, ?_⟩) ?_ ?_
                        rotate_left
                        ·intro w'
                         go_simp
                         with_reducible rfl
                        rotate_left
                        ·simp only [px_q]
                         rfl
                        refine take_ (i := 9) (N := some 150) (v := ?_) (a' := ?_) (px_l 11 1) rfl rfl (take_ofW HT_.out HW_.out (by kernel_rfl)) (fun _ _ _ h => h) (Or.inl ⟨by rfl, ?_⟩) hHeld ?_ ?_
                        rotate_left
                        ·rintro w' ⟨s0, s1, s2, s3⟩
                         go_simp
                         with_reducible rfl
                        rotate_left
                        ·simp only [px_q]
                         rfl
                        refine pure_ (i := 11) (N := some 152) (v := ?_) (a' := ?_) (px_l 12 0) rfl rfl (any_of HT_.out (by kernel_rfl)) (fun _ _ _ h => h) (Or.inl ⟨by rfl, ?_⟩) ?_ ?_
                        rotate_left
                        ·intro w'
                         go_simp
                         with_reducible rfl
                        rotate_left
                        ·simp only [px_q]
                         rfl
                        refine done_ (done_of HT_.out (by kernel_rfl)) ?_
                        try go_wp2
                        go_roundg k4
                        case measure => have := HJ1.out; have := HK2.out; have := HK3.out; have := HK4.out; omega
                        case rel => exact ⟨(wrap64 (x130_4 + 1)), px_rf, H', ⟨by have := HJ1.out; have := HK2.out; have := HK3.out; have := HK4.out; omega⟩, ⟨by first | exact px_bV BK201.out | (rw [← Nbq55.out]; exact px_bV BK201.out) | (rw [← Nbq91.out]; exact px_bV BK201.out)⟩, ⟨px_h2 HB.out GE201.out GE221.out⟩⟩
                       ·rw [if_neg c99] at H
                        have c99b0 : ((rd l0_0 (rd t222 (ji94))) == x130_4) = false := beq_eq_false_iff_ne.mpr c99
                        have c99b1 : ((rd l0_0 (rd t222 (ji94))) != x130_4) = true := bne_iff_ne.mpr c99
                        obtain rfl := Option.some.inj H
                        have p220 : 0 ≤ (x130_4 : Int) := px_od
                        have q220 : x130_4 < (l0_1.length : Int) := px_od
                        obtain ⟨ad220, e220, hx220_0, hx220_1, hx220_2, hx220_3⟩ := at_T38 HR0_1.out x130_4 p220 q220
                        (try rw [← Nbq91.out] at hx220_3)
                        (try rw [← Nbq91.out] at hw220_3)
                        cases e220
                        replace hx220_0 := px_hx HB.out hx220_0
                        replace hx220_1 := px_hx HB.out hx220_1
                        replace hx220_2 := px_hx HB.out hx220_2
                        replace hx220_3 := px_hx HB.out hx220_3
                        replace p220 := eq_true p220
                        replace q220 := eq_true q220
                        try go_wp2_with (first | ((with_reducible refine gate_dst (N := 10) rfl ?_); (try (refine gate_guard (by rfl) ?_; dsimp only)); refine box_event ?hg (N := 10) ?hd (cs := #[.string (⟨#[]⟩ : ByteArray), .int .i64 0, .int .i64 0, .bool false]) (t := 38) ?hr ?_; (case hd => rfl); (case hg => rfl); (case hr => first | (go_simp; done) | (go_simp; rfl)); intro gb221 hg w107 hbox hb; have n0_ := aM (blk_below (g := gb201) (o := .cells #[.slice A0_0 l0_0.length c0_0, .slice (some ad220) l0_1.length c0_1] 30 (0, 0)) (px_bV BK201.out) hb); have n1_ := aM (below_step (px_h1 HB.out GE201.out) hb); have n2_ := aM (hbox); have n3_ := aM ((by rw [hg]; exact (below_size (px_h1 HB.out GE201.out)) : w.heap.size ≤ gb221)); have n4_ := aM ((by rw [hg]; exact (below_size (px_h1 HB.out GE201.out)) : w.heap.size ≤ gb221)); have n5_ := aM ((by rw [hg]; exact Nat.ne_of_lt (blk_lt (g := gb201) (o := .cells #[.slice A0_0 l0_0.length c0_0, .slice (some ad220) l0_1.length c0_1] 30 (0, 0)) (px_bV BK201.out)) : gb201 ≠ gb221)); have n6_ := aM ((by rw [hg]; exact Nat.ne_of_gt (blk_lt (g := gb201) (o := .cells #[.slice A0_0 l0_0.length c0_0, .slice (some ad220) l0_1.length c0_1] 30 (0, 0)) (px_bV BK201.out)) : gb221 ≠ gb201)); clear BK201; clear HB; have BK201 := n0_; have HB := n1_; have BK221 := n2_; have GW221 := n3_; have GE221 := n4_; have NB201_221 := n5_; have NB221_201 := n6_; clear n0_ n1_ n2_ n3_ n4_ n5_ n6_; clear hb hbox hg; have hnb108 := NB221_201.out; have hnc108 := NB201_221.out; have hcz109_0 : w107.cell? ⟨gb221, 0, none⟩ = some (.string (⟨#[]⟩ : ByteArray)) := (blk_cell BK221.out 0).trans rfl; have hcz109_1 : w107.cell? ⟨gb221, 1, none⟩ = some (.int .i64 0) := (blk_cell BK221.out 1).trans rfl; have hcz109_2 : w107.cell? ⟨gb221, 2, none⟩ = some (.int .i64 0) := (blk_cell BK221.out 2).trans rfl; have hcz109_3 : w107.cell? ⟨gb221, 3, none⟩ = some (.bool false) := (blk_cell BK221.out 3).trans rfl; have hfz109_0 := blk_frozen BK221.out 0; have hfz109_1 := blk_frozen BK221.out 1; have hfz109_2 := blk_frozen BK221.out 2; have hfz109_3 := blk_frozen BK221.out 3; have hcz110_0 : w107.cell? ⟨gb201, 0, none⟩ = some (.slice A0_0 l0_0.length c0_0) := (blk_cell BK201.out 0).trans rfl; have hcz110_1 : w107.cell? ⟨gb201, 1, none⟩ = some (.slice (some ad220) l0_1.length c0_1) := (blk_cell BK201.out 1).trans rfl; have hfz110_0 := blk_frozen BK201.out 0; have hfz110_1 := blk_frozen BK201.out 1) | ((with_reducible refine gate_callee (f := 31) rfl ?_); refine goesL_ (some 140) rfl rfl Try.func31 (by kernel_rfl) rfl #[.agg #[.slice A0_0 l0_0.length c0_0, .slice (some ad220) l0_1.length c0_1], .string ((rd_T38 l0_1 x130_4).f0)] rfl px_dn ?_; (with_reducible refine (impl_Dict_probe.calls k4 _ _ l0_0 _ _ l0_1 ((rd_T38 l0_1 x130_4).f0) t222 _ ?side1 ?side2 ?side3 ?side4 A93.out).mono ?_); (case side1 => exact Kd.C_below HR0_0.out (px_h2 HB.out GE201.out GE221.out)); (case side2 => exact HC0_0.out); (case side3 => exact Kd.C_below HR0_1.out (px_h2 HB.out GE201.out GE221.out)); (case side4 => exact HC0_1.out); rintro e w111 ⟨v223, rfl, ho0, hb⟩; refine ⟨_, rfl, ?_⟩; have n0_ := aM (Kd.R_lower ho0 (below_size (px_h2 HB.out GE201.out GE221.out))); have n1_ := aM (blk_below (g := gb201) (o := .cells #[.slice A0_0 l0_0.length c0_0, .slice (some ad220) l0_1.length c0_1] 30 (0, 0)) (by (with_reducible repeat (first | refine blk_drewN ?_ _ | refine blk_drew ?_ | refine blk_alloc ?_ _)); refine blk_far ?_ NB201_221.out _; (with_reducible repeat (first | refine blk_drewN ?_ _ | refine blk_drew ?_ | refine blk_alloc ?_ _)); refine blk_far ?_ NB201_221.out _; (with_reducible repeat (first | refine blk_drewN ?_ _ | refine blk_drew ?_ | refine blk_alloc ?_ _)); refine blk_far ?_ NB201_221.out _; (with_reducible repeat (first | refine blk_drewN ?_ _ | refine blk_drew ?_ | refine blk_alloc ?_ _)); refine blk_far ?_ NB201_221.out _; (with_reducible repeat (first | refine blk_drewN ?_ _ | refine blk_drew ?_ | refine blk_alloc ?_ _)); exact BK201.out) hb); have n2_ := aM (blk_below (g := gb221) (o := .cells #[.string ((rd_T38 l0_1 x130_4).f0), .int .i64 ((rd_T38 l0_1 x130_4).f1), .int .i64 ((rd_T38 l0_1 x130_4).f2), .bool true] 38 (0, 0)) (by (with_reducible repeat (first | refine blk_drewN ?_ _ | refine blk_drew ?_ | refine blk_alloc ?_ _)); refine blk_put (cs := #[.string ((rd_T38 l0_1 x130_4).f0), .int .i64 ((rd_T38 l0_1 x130_4).f1), .int .i64 ((rd_T38 l0_1 x130_4).f2), .bool false]) ?_ 3 _ rfl; (with_reducible repeat (first | refine blk_drewN ?_ _ | refine blk_drew ?_ | refine blk_alloc ?_ _)); refine blk_put (cs := #[.string ((rd_T38 l0_1 x130_4).f0), .int .i64 ((rd_T38 l0_1 x130_4).f1), .int .i64 0, .bool false]) ?_ 2 _ rfl; (with_reducible repeat (first | refine blk_drewN ?_ _ | refine blk_drew ?_ | refine blk_alloc ?_ _)); refine blk_put (cs := #[.string ((rd_T38 l0_1 x130_4).f0), .int .i64 0, .int .i64 0, .bool false]) ?_ 1 _ rfl; (with_reducible repeat (first | refine blk_drewN ?_ _ | refine blk_drew ?_ | refine blk_alloc ?_ _)); refine blk_put (cs := #[.string (⟨#[]⟩ : ByteArray), .int .i64 0, .int .i64 0, .bool false]) ?_ 0 _ rfl; (with_reducible repeat (first | refine blk_drewN ?_ _ | refine blk_drew ?_ | refine blk_alloc ?_ _)); exact BK221.out) hb); have n3_ := aM (below_step (px_h2 HB.out GE201.out GE221.out) hb); clear BK201; clear BK221; clear HB; have HO224 := n0_; have BK201 := n1_; have BK221 := n2_; have HB := n3_; clear n0_ n1_ n2_ n3_; (try clear hb); (try clear hb2); (try clear hk); (try clear hi); (try clear ho0)))
                        have n0_ := aM (Kd.R_drew HO224.out)
                        have n1_ := aM (blk_drew BK201.out)
                        have n2_ := aM (blk_drew BK221.out)
                        have n3_ := aM (below_drew1 HB.out)
                        clear HO224
                        clear BK201
                        clear BK221
                        clear HB
                        have HO224 := n0_
                        have BK201 := n1_
                        have BK221 := n2_
                        have HB := n3_
                        clear n0_ n1_ n2_ n3_
                        obtain ⟨Ao113, co113, eo113⟩ := Kd.R_slice HO224.out
                        (first | subst eo113 | (injection eo113 with f1_ f2_ f3_; have f4_ := f1_.symm; have f5_ := f3_.symm; clear f1_ f2_ f3_; subst f4_; subst f5_))
                        have p225 : 0 ≤ ((ji94) : Int) := px_od
                        have q225 : (ji94) < (t222.length : Int) := px_od
                        obtain ⟨ad225, e225, hx225_0⟩ := Kd.at_int (Kd.R_reads' HO224.out).2.2 (ji94) p225 q225
                        cases e225
                        replace p225 := eq_true p225
                        replace q225 := eq_true q225
                        have p226 : 0 ≤ ((rd t222 (ji94)) : Int) := px_od
                        have q226 : (rd t222 (ji94)) < (l0_0.length : Int) := px_od
                        obtain ⟨ad226, e226, hx226_0⟩ := Kd.at_int HR0_0.out (rd t222 (ji94)) p226 q226
                        have hw226_0 := hx226_0
                        cases e226
                        replace hx226_0 := px_hx HB.out hx226_0
                        replace p226 := eq_true p226
                        replace q226 := eq_true q226
                        refine start_ (n := 12) (S := fun w' => w'.cell? ⟨gb201, 0, none⟩ = some (.slice (some ad226) l0_0.length c0_0) ∧ w'.cell? ⟨gb201, 1, none⟩ = some (.slice (some ad220) l0_1.length c0_1) ∧ w'.cell? (ad225.add ((ji94)).toNat) = some (.int .i64 (rd t222 (ji94))) ∧ w'.cell? (ad226.add ((rd t222 (ji94))).toNat) = some (.int .i64 (rd l0_0 (rd t222 (ji94))))) (ds := []) (px_l 0 12) (by kernel_rfl) rfl rfl ⟨(blk_cell BK201.out 0).trans rfl, (blk_cell BK201.out 1).trans rfl, hx225_0, ((HB.out.cell (World.block_lt_of_cell? w _ hw226_0)).trans hw226_0)⟩ (fun hHeld => ?_); refine with_tabW impl_DictOk.tab31 impl_DictOk.bits31 (fun HT_ HW_ => ?_)
                        generalize w111.drew = w112 at HO224 BK201 BK221 HB hx225_0 hx226_0 hHeld ⊢
                        refine pure_ (i := 0) (N := some 141) (v := ?_) (a' := ?_) (px_l 1 11) rfl rfl (any_of HT_.out (by kernel_rfl)) (fun _ _ _ h => h) (Or.inl ⟨by rfl, ?_⟩) ?_ ?_
                        rotate_left
                        ·intro w'
                         go_simp
                         with_reducible rfl
                        rotate_left
                        ·simp only [px_q]
                         rfl
                        refine pure_ (i := 2) (N := some 143) (v := ?_) (a' := ?_) #[true, false, true, false, false, false, false, false, false, false, false, false] rfl rfl (any_of HT_.out (by kernel_rfl)) (fun _ _ _ h => h) (Or.inl ⟨by rfl, ?_⟩) ?_ ?_
                        rotate_left
                        ·intro w'
                         go_simp
                         with_reducible rfl
                        rotate_left
                        ·simp only [px_q]
                         rfl
                        refine pure_ (i := 3) (N := some 144) (v := ?_) (a' := ?_) #[true, false, true, true, false, false, false, false, false, false, false, false] rfl rfl (any_of HT_.out (by kernel_rfl)) (fun _ _ _ h => h) (Or.inl ⟨by rfl, ?_⟩) ?_ ?_
                        rotate_left
                        ·intro w'
                         go_simp
                         with_reducible rfl
                        rotate_left
                        ·simp only [px_q]
                         rfl
                        refine pure_ (i := 4) (N := some 145) (v := ?_) (a' := ?_) #[true, false, true, true, true, false, false, false, false, false, false, false] rfl rfl (any_of HT_.out (by kernel_rfl)) (fun _ _ _ h => h) (Or.inl ⟨by rfl, ?_⟩) ?_ ?_
                        rotate_left
                        ·intro w'
                         go_simp
                         with_reducible rfl
                        rotate_left
                        ·simp only [px_q]
                         rfl
                        refine pure_ (i := 5) (N := some 146) (v := ?_) (a' := ?_) #[true, false, true, true, true, true, false, false, false, false, false, false] rfl rfl (any_of HT_.out (by kernel_rfl)) (fun _ _ _ h => h) (Or.inl ⟨by rfl, ?_⟩) ?_ ?_
                        rotate_left
                        ·intro w'
                         go_simp
                         with_reducible rfl
                        rotate_left
                        ·simp only [px_q]
                         rfl
                        refine pure_ (i := 6) (N := some 147) (v := ?_) (a' := ?_) #[true, false, true, true, true, true, true, false, false, false, false, false] rfl rfl (any_of HT_.out (by kernel_rfl)) (fun _ _ _ h => h) (Or.inl ⟨by rfl, ?_⟩) ?_ ?_
                        rotate_left
                        ·intro w'
                         go_simp
                         with_reducible rfl
                        rotate_left
                        ·simp only [px_q]
                         rfl
                        refine pure_ (i := 10) (N := some 151) (v := ?_) (a' := ?_) #[true, false, true, true, true, true, true, false, false, false, true, false] rfl rfl (any_of HT_.out (by kernel_rfl)) (fun _ _ _ h => h) (Or.inl ⟨by rfl, ?_⟩) ?_ ?_
                        rotate_left
                        ·intro w'
                         go_simp
                         with_reducible rfl
                        rotate_left
                        ·simp only [px_q]
                         rfl
                        refine take_ (i := 1) (N := some 142) (v := ?_) (a' := ?_) #[true, true, true, true, true, true, true, false, false, false, true, false] rfl rfl (take_ofW HT_.out HW_.out (by kernel_rfl)) (fun _ _ _ h => h) (Or.inl ⟨by rfl, ?_⟩) hHeld ?_ ?_
                        rotate_left
                        ·rintro w' ⟨s0, s1, s2, s3⟩
                         go_simp
                         with_reducible rfl
                        rotate_left
                        ·simp only [px_q]
                         rfl
                        refine take_ (i := 7) (N := some 148) (v := ?_) (a' := ?_) #[true, true, true, true, true, true, true, true, false, false, true, false] rfl rfl (take_ofW HT_.out HW_.out (by kernel_rfl)) (fun _ _ _ h => h) (Or.inl ⟨by rfl, ?_⟩) hHeld ?_ ?_
                        rotate_left
                        ·rintro w' ⟨s0, s1, s2, s3⟩
                         go_simp
                         with_reducible rfl
                        rotate_left
                        ·simp only [px_q]
                         rfl
                        refine pure_ (i := 8) (N := some 149) (v := ?_) (a' := ?_) #[true, true, true, true, true, true, true, true, true, false, true, false] rfl rfl (any_of HT_.out (by kernel_rfl)) (fun _ _ _ h => h) (Or.inl ⟨by rfl, ?_⟩) ?_ ?_
                        rotate_left
                        ·intro w'
                         go_simp
                         with_reducible rfl
                        rotate_left
                        ·simp only [px_q]
                         rfl
                        refine take_ (i := 9) (N := some 150) (v := ?_) (a' := ?_) (px_l 11 1) rfl rfl (take_ofW HT_.out HW_.out (by kernel_rfl)) (fun _ _ _ h => h) (Or.inl ⟨by rfl, ?_⟩) hHeld ?_ ?_
                        rotate_left
                        ·rintro w' ⟨s0, s1, s2, s3⟩
                         go_simp
                         with_reducible rfl
                        rotate_left
                        ·simp only [px_q]
                         rfl
                        refine pure_ (i := 11) (N := some 152) (v := ?_) (a' := ?_) (px_l 12 0) rfl rfl (any_of HT_.out (by kernel_rfl)) (fun _ _ _ h => h) (Or.inl ⟨by rfl, ?_⟩) ?_ ?_
                        rotate_left
                        ·intro w'
                         go_simp
                         with_reducible rfl
                        rotate_left
                        ·simp only [px_q]
                         rfl
                        refine done_ (done_of HT_.out (by kernel_rfl)) ?_
                        try go_wp2
                        go_ret
                        exact ⟨by first | rfl | (simp [errW_none, errW_some] <;> rfl) | (simp only [← hji94]; first | rfl | (simp [errW_none, errW_some] <;> rfl)) | (simp [*, errW_none, errW_some] <;> rfl), px_h2 HB.out GE201.out GE221.out⟩
                      ·rw [if_neg c98] at H
                       exact absurd H (by simp)
                     ·rw [if_neg c97] at H
                      exact absurd H (by simp)
                    ·rw [if_neg c96] at H
                     exact absurd H (by simp)
                   ·rw [if_neg c95] at H
                    exact absurd H (by simp)
                  ·replace c92 := Bool.eq_false_iff.mpr c92
                   subst c92
                   have H1 : (impl_DictOk.l2 k4 l0_1 (l0_1.length : Int) (wrap64 (x130_4 + 1)) l0_0 l0_1) = some r := by rw [if_neg (show ¬ (false = true) by decide)] at H; exact H
                   clear H
                   have H := H1
                   clear H1
                   have H' := aM H
                   clear H
                   have p220 : 0 ≤ (x130_4 : Int) := px_od
                   have q220 : x130_4 < (l0_1.length : Int) := px_od
                   obtain ⟨ad220, e220, hx220_0, hx220_1, hx220_2, hx220_3⟩ := at_T38 HR0_1.out x130_4 p220 q220
                   (try rw [← Nbq91.out] at hx220_3)
                   (try rw [← Nbq91.out] at hw220_3)
                   cases e220
                   replace hx220_0 := px_hx HB.out hx220_0
                   replace hx220_1 := px_hx HB.out hx220_1
                   replace hx220_2 := px_hx HB.out hx220_2
                   replace hx220_3 := px_hx HB.out hx220_3
                   replace p220 := eq_true p220
                   replace q220 := eq_true q220
                   go_wp2_with (first | ((with_reducible refine gate_dst (N := 10) rfl ?_); (try (refine gate_guard (by rfl) ?_; dsimp only)); refine box_event ?hg (N := 10) ?hd (cs := #[.string (⟨#[]⟩ : ByteArray), .int .i64 0, .int .i64 0, .bool false]) (t := 38) ?hr ?_; (case hd => rfl); (case hg => rfl); (case hr => first | (go_simp; done) | (go_simp; rfl)); intro gb221 hg w114 hbox hb; have n0_ := aM (blk_below (g := gb201) (o := .cells #[.slice A0_0 l0_0.length c0_0, .slice (some ad220) l0_1.length c0_1] 30 (0, 0)) (px_bV BK201.out) hb); have n1_ := aM (below_step (px_h1 HB.out GE201.out) hb); have n2_ := aM (hbox); have n3_ := aM ((by rw [hg]; exact (below_size (px_h1 HB.out GE201.out)) : w.heap.size ≤ gb221)); have n4_ := aM ((by rw [hg]; exact (below_size (px_h1 HB.out GE201.out)) : w.heap.size ≤ gb221)); have n5_ := aM ((by rw [hg]; exact Nat.ne_of_lt (blk_lt (g := gb201) (o := .cells #[.slice A0_0 l0_0.length c0_0, .slice (some ad220) l0_1.length c0_1] 30 (0, 0)) (px_bV BK201.out)) : gb201 ≠ gb221)); have n6_ := aM ((by rw [hg]; exact Nat.ne_of_gt (blk_lt (g := gb201) (o := .cells #[.slice A0_0 l0_0.length c0_0, .slice (some ad220) l0_1.length c0_1] 30 (0, 0)) (px_bV BK201.out)) : gb221 ≠ gb201)); clear BK201; clear HB; have BK201 := n0_; have HB := n1_; have BK221 := n2_; have GW221 := n3_; have GE221 := n4_; have NB201_221 := n5_; have NB221_201 := n6_; clear n0_ n1_ n2_ n3_ n4_ n5_ n6_; clear hb hbox hg; have hnb115 := NB221_201.out; have hnc115 := NB201_221.out; have hcz116_0 : w114.cell? ⟨gb221, 0, none⟩ = some (.string (⟨#[]⟩ : ByteArray)) := (blk_cell BK221.out 0).trans rfl; have hcz116_1 : w114.cell? ⟨gb221, 1, none⟩ = some (.int .i64 0) := (blk_cell BK221.out 1).trans rfl; have hcz116_2 : w114.cell? ⟨gb221, 2, none⟩ = some (.int .i64 0) := (blk_cell BK221.out 2).trans rfl; have hcz116_3 : w114.cell? ⟨gb221, 3, none⟩ = some (.bool false) := (blk_cell BK221.out 3).trans rfl; have hfz116_0 := blk_frozen BK221.out 0; have hfz116_1 := blk_frozen BK221.out 1; have hfz116_2 := blk_frozen BK221.out 2; have hfz116_3 := blk_frozen BK221.out 3))
                   go_roundg k4
                   case measure => have := HJ1.out; have := HK2.out; have := HK3.out; have := HK4.out; omega
                   case rel => exact ⟨(wrap64 (x130_4 + 1)), px_rf, H', ⟨by have := HJ1.out; have := HK2.out; have := HK3.out; have := HK4.out; omega⟩, ⟨by (with_reducible repeat (first | refine blk_drewN ?_ _ | refine blk_drew ?_ | refine blk_alloc ?_ _)); refine blk_far ?_ NB201_221.out _; (with_reducible repeat (first | refine blk_drewN ?_ _ | refine blk_drew ?_ | refine blk_alloc ?_ _)); refine blk_far ?_ NB201_221.out _; (with_reducible repeat (first | refine blk_drewN ?_ _ | refine blk_drew ?_ | refine blk_alloc ?_ _)); refine blk_far ?_ NB201_221.out _; (with_reducible repeat (first | refine blk_drewN ?_ _ | refine blk_drew ?_ | refine blk_alloc ?_ _)); refine blk_far ?_ NB201_221.out _; (with_reducible repeat (first | refine blk_drewN ?_ _ | refine blk_drew ?_ | refine blk_alloc ?_ _)); first | exact BK201.out | (rw [← Nbq55.out]; exact BK201.out) | (rw [← Nbq91.out]; exact BK201.out)⟩, ⟨px_h2 HB.out GE201.out GE221.out⟩⟩
                 ·rw [if_neg c90] at H
                  exact absurd H (by simp)
                ·rw [if_neg c89] at H
                 exact absurd H (by simp)
               ·rw [if_neg c88] at H
                have c88b0 : decide (x130_4 < (l0_1.length : Int)) = false := decide_eq_false c88
                clear c88
                obtain rfl := Option.some.inj H
                go_wp2
                go_ret
                exact ⟨by first | rfl | (simp [errW_none, errW_some] <;> rfl) | (simp [*, errW_none, errW_some] <;> rfl), px_h1 HB.out GE201.out⟩
         ·rw [if_neg c48] at H
          have c48b0 : (x4_2 == (wrap64 ((l0_1.length : Int) - t214))) = false := beq_eq_false_iff_ne.mpr c48
          have c48b1 : (x4_2 != (wrap64 ((l0_1.length : Int) - t214))) = true := bne_iff_ne.mpr c48
          obtain rfl := Option.some.inj H
          try go_wp2
          have n0_ := aM (Kd.R_drew HO_3.out)
          have n1_ := aM (blk_drew BK201.out)
          have n2_ := aM (below_drew1 HB.out)
          clear HO_3
          clear BK201
          clear HB
          have HO_3 := n0_
          have BK201 := n1_
          have HB := n2_
          clear n0_ n1_ n2_
          refine start_ (n := 8) (S := fun w' => w'.cell? ⟨gb201, 0, none⟩ = some (.slice A0_0 l0_0.length c0_0) ∧ w'.cell? ⟨gb201, 1, none⟩ = some (.slice A0_1 l0_1.length c0_1)) (ds := []) (px_l 0 8) (by kernel_rfl) rfl rfl ⟨(blk_cell BK201.out 0).trans rfl, (blk_cell BK201.out 1).trans rfl⟩ (fun hHeld => ?_); refine with_tabW impl_DictOk.tab15 impl_DictOk.bits15 (fun HT_ HW_ => ?_)
          generalize wr.drew = w117 at HO_3 BK201 HB hHeld ⊢
          refine pure_ (i := 0) (N := some 79) (v := ?_) (a' := ?_) (px_l 1 7) rfl rfl (any_of HT_.out (by kernel_rfl)) (fun _ _ _ h => h) (Or.inl ⟨by rfl, ?_⟩) ?_ ?_
          rotate_left
          ·intro w'
           go_simp
           with_reducible rfl
          rotate_left
          ·simp only [px_q]
           rfl
          refine pure_ (i := 1) (N := some 80) (v := ?_) (a' := ?_) (px_l 2 6) rfl rfl (any_of HT_.out (by kernel_rfl)) (fun _ _ _ h => h) (Or.inl ⟨by rfl, ?_⟩) ?_ ?_
          rotate_left
          ·intro w'
           go_simp
           with_reducible rfl
          rotate_left
          ·simp only [px_q]
           rfl
          refine take_ (i := 2) (N := some 81) (v := ?_) (a' := ?_) (px_l 3 5) rfl rfl (take_ofW HT_.out HW_.out (by kernel_rfl)) (fun _ _ _ h => h) (Or.inl ⟨by rfl, ?_⟩) hHeld ?_ ?_
          rotate_left
          ·rintro w' ⟨s0, s1⟩
           go_simp
           with_reducible rfl
          rotate_left
          ·simp only [px_q]
           rfl
          refine pure_ (i := 3) (N := some 82) (v := ?_) (a' := ?_) (px_l 4 4) rfl rfl (any_of HT_.out (by kernel_rfl)) (fun _ _ _ h => h) (Or.inl ⟨by rfl, ?_⟩) ?_ ?_
          rotate_left
          ·intro w'
           go_simp
           with_reducible rfl
          rotate_left
          ·simp only [px_q]
           rfl
          refine take_ (i := 4) (N := some 83) (v := ?_) (a' := ?_) (px_l 5 3) rfl rfl (take_ofW HT_.out HW_.out (by kernel_rfl)) (fun _ _ _ h => h) (Or.inl ⟨by rfl, ?_⟩) hHeld ?_ ?_
          rotate_left
          ·rintro w' ⟨s0, s1⟩
           go_simp
           with_reducible rfl
          rotate_left
          ·simp only [px_q]
           rfl
          refine one_ (i := 5) (N := some 84) (px_l 6 2) rfl rfl (one_of HT_.out (by kernel_rfl)) (by decide) (fun K hK => ?_)
          refine goes_ Try.func17 (by kernel_rfl) rfl #[.agg #[.slice A0_0 l0_0.length c0_0, .slice A0_1 l0_1.length c0_1]] (by rfl) rfl rfl px_dn ?_
          with_reducible refine (impl_Dict_live.calls k2 _ _ l0_0 _ _ l0_1 t214 _ ?side1 ?side2 ?side3 ?side4 A47.out).mono ?_
          (case side1 => exact px_cV ((Kd.C_below HR0_0.out HB.out)))
          (case side2 => exact HC0_0.out)
          (case side3 => exact px_cV ((Kd.C_below HR0_1.out HB.out)))
          (case side4 => exact HC0_1.out)
          rintro e w118 ⟨rfl, hb⟩
          refine ⟨_, rfl, ?_⟩
          have n0_ := aM (Kd.R_below (px_rV HO_3.out) hb)
          have n1_ := aM (blk_below (g := gb201) (o := .cells #[.slice A0_0 l0_0.length c0_0, .slice A0_1 l0_1.length c0_1] 30 (0, 0)) (px_bV BK201.out) hb)
          have n2_ := aM (below_step (px_h1 HB.out GE201.out) hb)
          clear HO_3
          clear BK201
          clear HB
          have HO_3 := n0_
          have BK201 := n1_
          have HB := n2_
          clear n0_ n1_ n2_
          (try clear hb)
          (try clear hb2)
          (try clear hk)
          (try clear hi)
          refine hK.out _ _ ⟨(blk_cell BK201.out 0).trans rfl, (blk_cell BK201.out 1).trans rfl⟩ (fun hHeld => ?_)
          clear hK K
          refine norm_ (a' := ?_) ?_ ?_
          rotate_left
          ·show Act.put _ (some 84) _ = _
           simp only [px_q]
           rfl
          refine pure_ (i := 6) (N := some 85) (v := ?_) (a' := ?_) (px_l 7 1) rfl rfl (any_of HT_.out (by kernel_rfl)) (fun _ _ _ h => h) (Or.inl ⟨by rfl, ?_⟩) ?_ ?_
          rotate_left
          ·intro w'
           go_simp
           with_reducible rfl
          rotate_left
          ·simp only [px_q]
           rfl
          refine pure_ (i := 7) (N := some 86) (v := ?_) (a' := ?_) (px_l 8 0) rfl rfl (any_of HT_.out (by kernel_rfl)) (fun _ _ _ h => h) (Or.inl ⟨by rfl, ?_⟩) ?_ ?_
          rotate_left
          ·intro w'
           go_simp
           with_reducible rfl
          rotate_left
          ·simp only [px_q]
           rfl
          refine done_ (done_of HT_.out (by kernel_rfl)) ?_
          try go_wp2
          go_ret
          exact ⟨by first | rfl | (simp [errW_none, errW_some] <;> rfl) | (simp [*, errW_none, errW_some] <;> rfl), px_h1 HB.out GE201.out⟩
     ·rw [if_neg c23] at H
      exact absurd H (by simp)
    ·rw [if_neg c22] at H
     exact absurd H (by simp)

end Go.Proofs.Ythocdlaajncmpaa.Q
