-- Printed by a program of this project's own, for this seat.
import Derived.Test.YthocdlaajncmpaaQ0
import Derived.Test.YthocdlaajncmpaaQ1
import Derived.Test.YthocdlaajncmpaaQ2
import Derived.Test.YthocdlaajncmpaaQ3
namespace Go.Proofs.Ythocdlaajncmpaa.Q
open Go.RowKit Go.Proofs.YthocdlaajncmpaaW.PrintWords Go.Proofs.YthocdlaajncmpaaW.PrintLast Go.Proofs.YthocdlaajncmpaaW.PrintMore
attribute [local go_sem] max2_int min2_int max_two min_two max_three min_three max_four min_four   -- for this text's walks alone
set_option linter.unusedVariables false
set_option linter.unusedSimpArgs false

attribute [local go_sem high] eqA38
/-! ### spec_validDict: function 11 -/
mutual
def spec_validDict.j0 : Nat → Int → Bool → List Int → List (S38) → Option (Bool)
 | 0, _, _, _, _ => none
 | k + 1, x3, x27, x136000, x136001 => if x27 = true then (some false) else (if (x136001.length : Int) > (wrap64 (Int.tdiv (wrap64 (x3 * 2)) 3)) then (spec_validDict.j1 k true x136000 x136001) else ((spec_liveEntries.f k x136000 x136001).bind fun t136 => (spec_validDict.j1 k (decide (t136 > 40)) x136000 x136001)))
def spec_validDict.j1 : Nat → Bool → List Int → List (S38) → Option (Bool)
 | 0, _, _, _ => none
 | k + 1, x39, x136000, x136001 => if x39 = true then (some false) else (spec_validDict.l0 k 0 x136000 x136001)
def spec_validDict.l0 : Nat → Int → List Int → List (S38) → Option (Bool)
 | 0, _, _, _ => none
 | k + 1, x4, x136000, x136001 => if x4 < (x136001.length : Int) then (if 0 ≤ x4 then (if ((rd_T38 x136001 x4).f3 = true) then ((spec_validKey.f ((rd_T38 x136001 x4).f0)).bind fun t139 => (if t139 = true then (if (rd_T38 x136001 x4).f3 = true then ((spec_hashOf.f k ((rd_T38 x136001 x4).f0)).bind fun t140 => (if ((rd_T38 x136001 x4).f1) = t140 then ((spec_inRange.f ((rd_T38 x136001 x4).f2) (-1000000) 1000000).bind fun t141 => (spec_validDict.j3 k x4 (!t141) x136000 x136001)) else (spec_validDict.j3 k x4 true x136000 x136001))) else ((spec_inRange.f ((rd_T38 x136001 x4).f2) (-1000000) 1000000).bind fun t142 => (spec_validDict.j3 k x4 (!t142) x136000 x136001))) else (spec_validDict.j3 k x4 true x136000 x136001))) else (if (!((((rd_T38 x136001 x4).f0).toList) == ([] : List UInt8)) || (!(((rd_T38 x136001 x4).f1) == 0) || (!(((rd_T38 x136001 x4).f2) == 0) || (((rd_T38 x136001 x4).f3))))) = true then (spec_validDict.j3 k x4 true x136000 x136001) else ((spec_validKey.f ((rd_T38 x136001 x4).f0)).bind fun t143 => (if t143 = true then (if (rd_T38 x136001 x4).f3 = true then ((spec_hashOf.f k ((rd_T38 x136001 x4).f0)).bind fun t144 => (if ((rd_T38 x136001 x4).f1) = t144 then ((spec_inRange.f ((rd_T38 x136001 x4).f2) (-1000000) 1000000).bind fun t145 => (spec_validDict.j3 k x4 (!t145) x136000 x136001)) else (spec_validDict.j3 k x4 true x136000 x136001))) else ((spec_inRange.f ((rd_T38 x136001 x4).f2) (-1000000) 1000000).bind fun t146 => (spec_validDict.j3 k x4 (!t146) x136000 x136001))) else (spec_validDict.j3 k x4 true x136000 x136001))))) else (none)) else ((spec_validSlots.f k x136000 x136001).bind fun t147 => (if t147 = true then (spec_validDict.l1 k 0 x136000 x136001) else (some false)))
def spec_validDict.j3 : Nat → Int → Bool → List Int → List (S38) → Option (Bool)
 | 0, _, _, _, _ => none
 | k + 1, x4, x83, x136000, x136001 => if x83 = true then (some false) else (spec_validDict.l0 k (wrap64 (x4 + 1)) x136000 x136001)
def spec_validDict.l1 : Nat → Int → List Int → List (S38) → Option (Bool)
 | 0, _, _, _ => none
 | k + 1, x6, x136000, x136001 => if x6 < (x136001.length : Int) then (if 0 ≤ x6 then (if (rd_T38 x136001 x6).f3 = true then ((spec_slotOf.f k x136000 x136001 ((rd_T38 x136001 x6).f0)).bind fun t150 => (if 0 ≤ t150 then (if t150 < (x136000.length : Int) then (if (rd x136000 t150) = x6 then (spec_validDict.l1 k (wrap64 (x6 + 1)) x136000 x136001) else (some false)) else (none)) else (none))) else (spec_validDict.l1 k (wrap64 (x6 + 1)) x136000 x136001)) else (none)) else (some true)
end
def spec_validDict.f (k : Nat) (l0_0 : List Int) (l0_1 : List (S38)) : Option (Bool) := if (l0_0.length : Int) = 8 then (spec_validDict.j0 k (l0_0.length : Int) false l0_0 l0_1) else (if (l0_0.length : Int) = 16 then (spec_validDict.j0 k (l0_0.length : Int) false l0_0 l0_1) else (if (l0_0.length : Int) = 32 then (spec_validDict.j0 k (l0_0.length : Int) false l0_0 l0_1) else (if (l0_0.length : Int) = 64 then (spec_validDict.j0 k (l0_0.length : Int) false l0_0 l0_1) else (spec_validDict.j0 k (l0_0.length : Int) ((l0_0.length : Int) != 128) l0_0 l0_1))))
theorem spec_validDict.mono_l : ∀ k, (∀ y0 y1 y2 y3, LeO (spec_validDict.j0 k y0 y1 y2 y3) (spec_validDict.j0 (k + 1) y0 y1 y2 y3)) ∧ (∀ y0 y1 y2, LeO (spec_validDict.j1 k y0 y1 y2) (spec_validDict.j1 (k + 1) y0 y1 y2)) ∧ (∀ y0 y1 y2, LeO (spec_validDict.l0 k y0 y1 y2) (spec_validDict.l0 (k + 1) y0 y1 y2)) ∧ (∀ y0 y1 y2 y3, LeO (spec_validDict.j3 k y0 y1 y2 y3) (spec_validDict.j3 (k + 1) y0 y1 y2 y3)) ∧ (∀ y0 y1 y2, LeO (spec_validDict.l1 k y0 y1 y2) (spec_validDict.l1 (k + 1) y0 y1 y2))
 | 0 => ⟨fun _ _ _ _ r h => by simp [spec_validDict.j0] at h, fun _ _ _ r h => by simp [spec_validDict.j1] at h, fun _ _ _ r h => by simp [spec_validDict.l0] at h, fun _ _ _ _ r h => by simp [spec_validDict.j3] at h, fun _ _ _ r h => by simp [spec_validDict.l1] at h⟩
 | k + 1 => by
  obtain ⟨ih0, ih1, ih2, ih3, ih4⟩ := spec_validDict.mono_l k
  refine ⟨?_, ?_, ?_, ?_, ?_⟩
  ·intro y0 y1 y2 y3
   unfold spec_validDict.j0
   repeat' first
   | (with_reducible exact ih0 _ _ _ _)
   | (with_reducible exact ih1 _ _ _)
   | (with_reducible exact ih2 _ _ _)
   | (with_reducible exact ih3 _ _ _ _)
   | (with_reducible exact ih4 _ _ _)
   | (with_reducible exact spec_hashOf.mono _ _)
   | (with_reducible exact spec_liveEntries.mono _ _ _)
   | (with_reducible exact spec_slotOf.mono _ _ _ _)
   | (with_reducible exact spec_validSlots.mono _ _ _)
   | (with_reducible exact LeO.refl _)
   | (with_reducible exact LeO.none _)
   | (with_reducible refine LeO.ite ?_ ?_)
   | (with_reducible refine LeO.bind ?_ (fun _ => ?_))
   | exact ih0 _ _ _ _
   | exact ih1 _ _ _
   | exact ih2 _ _ _
   | exact ih3 _ _ _ _
   | exact ih4 _ _ _
   | exact spec_hashOf.mono _ _
   | exact spec_liveEntries.mono _ _ _
   | exact spec_slotOf.mono _ _ _ _
   | exact spec_validSlots.mono _ _ _
   | exact LeO.none _
   | refine LeO.ite ?_ ?_
   | refine LeO.bind ?_ (fun _ => ?_)
  ·intro y0 y1 y2
   unfold spec_validDict.j1
   repeat' first
   | (with_reducible exact ih0 _ _ _ _)
   | (with_reducible exact ih1 _ _ _)
   | (with_reducible exact ih2 _ _ _)
   | (with_reducible exact ih3 _ _ _ _)
   | (with_reducible exact ih4 _ _ _)
   | (with_reducible exact spec_hashOf.mono _ _)
   | (with_reducible exact spec_liveEntries.mono _ _ _)
   | (with_reducible exact spec_slotOf.mono _ _ _ _)
   | (with_reducible exact spec_validSlots.mono _ _ _)
   | (with_reducible exact LeO.refl _)
   | (with_reducible exact LeO.none _)
   | (with_reducible refine LeO.ite ?_ ?_)
   | (with_reducible refine LeO.bind ?_ (fun _ => ?_))
   | exact ih0 _ _ _ _
   | exact ih1 _ _ _
   | exact ih2 _ _ _
   | exact ih3 _ _ _ _
   | exact ih4 _ _ _
   | exact spec_hashOf.mono _ _
   | exact spec_liveEntries.mono _ _ _
   | exact spec_slotOf.mono _ _ _ _
   | exact spec_validSlots.mono _ _ _
   | exact LeO.none _
   | refine LeO.ite ?_ ?_
   | refine LeO.bind ?_ (fun _ => ?_)
  ·intro y0 y1 y2
   unfold spec_validDict.l0
   repeat' first
   | (with_reducible exact ih0 _ _ _ _)
   | (with_reducible exact ih1 _ _ _)
   | (with_reducible exact ih2 _ _ _)
   | (with_reducible exact ih3 _ _ _ _)
   | (with_reducible exact ih4 _ _ _)
   | (with_reducible exact spec_hashOf.mono _ _)
   | (with_reducible exact spec_liveEntries.mono _ _ _)
   | (with_reducible exact spec_slotOf.mono _ _ _ _)
   | (with_reducible exact spec_validSlots.mono _ _ _)
   | (with_reducible exact LeO.refl _)
   | (with_reducible exact LeO.none _)
   | (with_reducible refine LeO.ite ?_ ?_)
   | (with_reducible refine LeO.bind ?_ (fun _ => ?_))
   | exact ih0 _ _ _ _
   | exact ih1 _ _ _
   | exact ih2 _ _ _
   | exact ih3 _ _ _ _
   | exact ih4 _ _ _
   | exact spec_hashOf.mono _ _
   | exact spec_liveEntries.mono _ _ _
   | exact spec_slotOf.mono _ _ _ _
   | exact spec_validSlots.mono _ _ _
   | exact LeO.none _
   | refine LeO.ite ?_ ?_
   | refine LeO.bind ?_ (fun _ => ?_)
  ·intro y0 y1 y2 y3
   unfold spec_validDict.j3
   repeat' first
   | (with_reducible exact ih0 _ _ _ _)
   | (with_reducible exact ih1 _ _ _)
   | (with_reducible exact ih2 _ _ _)
   | (with_reducible exact ih3 _ _ _ _)
   | (with_reducible exact ih4 _ _ _)
   | (with_reducible exact spec_hashOf.mono _ _)
   | (with_reducible exact spec_liveEntries.mono _ _ _)
   | (with_reducible exact spec_slotOf.mono _ _ _ _)
   | (with_reducible exact spec_validSlots.mono _ _ _)
   | (with_reducible exact LeO.refl _)
   | (with_reducible exact LeO.none _)
   | (with_reducible refine LeO.ite ?_ ?_)
   | (with_reducible refine LeO.bind ?_ (fun _ => ?_))
   | exact ih0 _ _ _ _
   | exact ih1 _ _ _
   | exact ih2 _ _ _
   | exact ih3 _ _ _ _
   | exact ih4 _ _ _
   | exact spec_hashOf.mono _ _
   | exact spec_liveEntries.mono _ _ _
   | exact spec_slotOf.mono _ _ _ _
   | exact spec_validSlots.mono _ _ _
   | exact LeO.none _
   | refine LeO.ite ?_ ?_
   | refine LeO.bind ?_ (fun _ => ?_)
  ·intro y0 y1 y2
   unfold spec_validDict.l1
   repeat' first
   | (with_reducible exact ih0 _ _ _ _)
   | (with_reducible exact ih1 _ _ _)
   | (with_reducible exact ih2 _ _ _)
   | (with_reducible exact ih3 _ _ _ _)
   | (with_reducible exact ih4 _ _ _)
   | (with_reducible exact spec_hashOf.mono _ _)
   | (with_reducible exact spec_liveEntries.mono _ _ _)
   | (with_reducible exact spec_slotOf.mono _ _ _ _)
   | (with_reducible exact spec_validSlots.mono _ _ _)
   | (with_reducible exact LeO.refl _)
   | (with_reducible exact LeO.none _)
   | (with_reducible refine LeO.ite ?_ ?_)
   | (with_reducible refine LeO.bind ?_ (fun _ => ?_))
   | exact ih0 _ _ _ _
   | exact ih1 _ _ _
   | exact ih2 _ _ _
   | exact ih3 _ _ _ _
   | exact ih4 _ _ _
   | exact spec_hashOf.mono _ _
   | exact spec_liveEntries.mono _ _ _
   | exact spec_slotOf.mono _ _ _ _
   | exact spec_validSlots.mono _ _ _
   | exact LeO.none _
   | refine LeO.ite ?_ ?_
   | refine LeO.bind ?_ (fun _ => ?_)
theorem spec_validDict.mono : ∀ a0 a1 k, LeO (spec_validDict.f k a0 a1) (spec_validDict.f (k + 1) a0 a1) := by
 intro a0 a1 k
 obtain ⟨ih0, ih1, ih2, ih3, ih4⟩ := spec_validDict.mono_l k
 unfold spec_validDict.f
 repeat' first
   | (with_reducible exact ih0 _ _ _ _)
   | (with_reducible exact ih1 _ _ _)
   | (with_reducible exact ih2 _ _ _)
   | (with_reducible exact ih3 _ _ _ _)
   | (with_reducible exact ih4 _ _ _)
   | (with_reducible exact spec_hashOf.mono _ _)
   | (with_reducible exact spec_liveEntries.mono _ _ _)
   | (with_reducible exact spec_slotOf.mono _ _ _ _)
   | (with_reducible exact spec_validSlots.mono _ _ _)
   | (with_reducible exact LeO.refl _)
   | (with_reducible exact LeO.none _)
   | (with_reducible refine LeO.ite ?_ ?_)
   | (with_reducible refine LeO.bind ?_ (fun _ => ?_))
   | exact ih0 _ _ _ _
   | exact ih1 _ _ _
   | exact ih2 _ _ _
   | exact ih3 _ _ _ _
   | exact ih4 _ _ _
   | exact spec_hashOf.mono _ _
   | exact spec_liveEntries.mono _ _ _
   | exact spec_slotOf.mono _ _ _ _
   | exact spec_validSlots.mono _ _ _
   | exact LeO.none _
   | refine LeO.ite ?_ ?_
   | refine LeO.bind ?_ (fun _ => ?_)
def spec_validDict.T10 : Bool × List (List Nat × List Nat) := (true, [([], []), ([0], [0]), ([1], [1]), ([2], [2]), ([3], [3]), ([3], [3]), ([4, 5, 3], [3, 4, 5]), ([3, 6], [3, 6]), ([7, 3], [7]), ([8], [8]), ([9, 8], [8, 9]), ([10, 8, 8], [8, 10]), ([11, 8], [8, 11]), ([8, 12], [8, 12]), ([13, 11], [13]), ([14], [14]), ([15, 14], [14, 15]), ([16, 14, 14], [14, 16]), ([17], [17]), ([18, 17], [17, 18]), ([17], [17]), ([20, 17], [17, 20]), ([21, 17, 17], [17, 21]), ([19, 22, 17], [17, 19, 22]), ([17, 23, 14], [14, 17, 23]), ([14, 24], [14, 24]), ([25, 22], [25]), ([26], [26]), ([27, 26], [26, 27]), ([28, 26, 26], [26, 28]), ([29, 26], [26, 29]), ([26, 30], [26, 30])])
def spec_validDict.B10 : List Nat := [0, 1, 3, 7, 15, 15, 63, 127, 255, 511, 1023, 2047, 4095, 8191, 16383, 32767, 65535, 131071, 262143, 524287, 262143, 1310719, 3407871, 8388607, 16777215, 33554431, 67108863, 134217727, 268435455, 536870911, 1073741823, 2147483647]
theorem spec_validDict.tab10 : rtab .any (opsOf Try.f11 10) = spec_validDict.T10 := by kernel_rfl
theorem spec_validDict.bits10 : waitsOk spec_validDict.T10.2 spec_validDict.B10 = true := by kernel_rfl
def spec_validDict.T17 : Bool × List (List Nat × List Nat) := (true, [([], []), ([0], [0]), ([], []), ([1, 2], [1, 2]), ([3], [3]), ([4], [4]), ([5], [5]), ([6], [6]), ([7, 6], [6, 7]), ([6], [6]), ([6], [6]), ([10, 6], [6, 10]), ([6], [6]), ([11, 12, 6], [6, 11, 12]), ([13, 6], [6, 13]), ([14, 6], [6, 14]), ([9, 15, 6, 6], [6, 9, 15]), ([8, 16, 6], [6, 8, 16]), ([17, 6], [6, 17]), ([6], [6]), ([18, 19, 6], [6, 18, 19]), ([6, 20], [6, 20])])
def spec_validDict.B17 : List Nat := [0, 1, 0, 7, 15, 31, 63, 127, 255, 127, 127, 1151, 127, 7295, 15487, 31871, 65151, 131071, 262143, 127, 1048575, 2097151]
theorem spec_validDict.tab17 : rtab .any (opsOf Try.f11 17) = spec_validDict.T17 := by kernel_rfl
theorem spec_validDict.bits17 : waitsOk spec_validDict.T17.2 spec_validDict.B17 = true := by kernel_rfl
set_option maxHeartbeats 8000000 in
set_option maxRecDepth 100000 in
theorem spec_validDict.calls (k : Nat) (A0_0 : Option Addr) (c0_0 : Nat) (l0_0 : List Int) (A0_1 : Option Addr) (c0_1 : Nat) (l0_1 : List (S38)) (r : Bool) (w : World) (hr0_0 : Kd.C (Kd.int .i64) w A0_0 l0_0.length l0_0) (hc0_0 : l0_0.length ≤ c0_0) (hr0_1 : Kd.C k38 w A0_1 l0_1.length l0_1) (hc0_1 : l0_1.length ≤ c0_1) (h : spec_validDict.f k l0_0 l0_1 = some r) :
  Calls Try.prog 11 #[.agg #[.slice A0_0 l0_0.length c0_0, .slice A0_1 l0_1.length c0_1]] w fun e w' => e = .returned (.bool r) ∧ Below w.heap.size w w' := by
 have hu30 := Try.underlying30
 have hu38 := Try.underlying38
 have HR0_0 := aM hr0_0
 have HC0_0 := aM hc0_0
 clear hr0_0 hc0_0
 have HR0_1 := aM hr0_1
 have HC0_1 := aM hc0_1
 clear hr0_1 hc0_1
 have HB := aM (Below.refl w.heap.size w)
 have H : (if (l0_0.length : Int) = 8 then (spec_validDict.j0 k (l0_0.length : Int) false l0_0 l0_1) else (if (l0_0.length : Int) = 16 then (spec_validDict.j0 k (l0_0.length : Int) false l0_0 l0_1) else (if (l0_0.length : Int) = 32 then (spec_validDict.j0 k (l0_0.length : Int) false l0_0 l0_1) else (if (l0_0.length : Int) = 64 then (spec_validDict.j0 k (l0_0.length : Int) false l0_0 l0_1) else (spec_validDict.j0 k (l0_0.length : Int) ((l0_0.length : Int) != 128) l0_0 l0_1))))) = some r := h
 clear h
 have HC2 := aM H
 clear H
 go_enter Try.func11, Try.ntmps11
 go_upto_region 2 with (first | ((with_reducible refine gate_dst (N := 1) rfl ?_); refine box_event ?hg (N := 1) ?hd (cs := #[.slice A0_0 l0_0.length c0_0, .slice A0_1 l0_1.length c0_1]) (t := 30) ?hr ?_; (case hd => rfl); (case hg => rfl); (case hr => first | (go_simp; done) | (go_simp; rfl)); intro gb135 hg w3 hbox hb; have n0_ := aM (below_step (px_h0 HB.out) hb); have n1_ := aM (hbox); have n2_ := aM ((by rw [hg]; exact (below_size (px_h0 HB.out)) : w.heap.size ≤ gb135)); have n3_ := aM ((by rw [hg]; exact (below_size (px_h0 HB.out)) : w.heap.size ≤ gb135)); clear HB; have HB := n0_; have BK135 := n1_; have GW135 := n2_; have GE135 := n3_; clear n0_ n1_ n2_ n3_; clear hb hbox hg; have hcz4_0 : w3.cell? ⟨gb135, 0, none⟩ = some (.slice A0_0 l0_0.length c0_0) := (blk_cell BK135.out 0).trans rfl; have hcz4_1 : w3.cell? ⟨gb135, 1, none⟩ = some (.slice A0_1 l0_1.length c0_1) := (blk_cell BK135.out 1).trans rfl; have hfz4_0 := blk_frozen BK135.out 0; have hfz4_1 := blk_frozen BK135.out 1))
 (try simp only [Act.put, List.setIfInBounds_toArray, List.set_cons_zero, List.set_cons_succ])
 go_cut [27] (fun v27 wc => ∃ (kq : Nat) (x27_1 : Bool), v27 = .bool x27_1 ∧ Aside0 (spec_validDict.j0 kq (l0_0.length : Int) x27_1 l0_0 l0_1 = some r) ∧ Aside0 (kq ≤ k) ∧ Aside0 (wc.heap[gb135]? = some (.cells #[(.slice A0_0 l0_0.length c0_0), (.slice A0_1 l0_1.length c0_1)] 30 (0, 0))) ∧ Aside0 (Below w.heap.size w wc))
 case first =>
  have H := HC2.out
  clear HC2
  by_cases c5 : (l0_0.length : Int) = 8
  ·rw [if_pos c5] at H
   have c5b0 : ((l0_0.length : Int) == 8) = true := beq_iff_eq.mpr c5
   have c5b1 : ((l0_0.length : Int) != 8) = false := bne_eq_false_iff_eq.mpr c5
   clear c5
   (first | rw [c5b0] | (simp only [i64_w, i32_w]; rw [c5b0]) | skip)
   have H' := aM H
   clear H
   go_wp2
   go_meet
   case rel => exact ⟨_, (false), px_rf, H', ⟨by first | omega | exact Nat.le_refl _⟩, ⟨px_bV BK135.out⟩, ⟨px_h1 HB.out GE135.out⟩⟩
  ·rw [if_neg c5] at H
   have c5b0 : ((l0_0.length : Int) == 8) = false := beq_eq_false_iff_ne.mpr c5
   have c5b1 : ((l0_0.length : Int) != 8) = true := bne_iff_ne.mpr c5
   (first | rw [c5b0] | (simp only [i64_w, i32_w]; rw [c5b0]) | skip)
   by_cases c6 : (l0_0.length : Int) = 16
   ·rw [if_pos c6] at H
    have c6b0 : ((l0_0.length : Int) == 16) = true := beq_iff_eq.mpr c6
    have c6b1 : ((l0_0.length : Int) != 16) = false := bne_eq_false_iff_eq.mpr c6
    clear c6
    have H' := aM H
    clear H
    go_wp2
    go_meet
    case rel => exact ⟨_, (false), px_rf, H', ⟨by first | omega | exact Nat.le_refl _⟩, ⟨px_bV BK135.out⟩, ⟨px_h1 HB.out GE135.out⟩⟩
   ·rw [if_neg c6] at H
    have c6b0 : ((l0_0.length : Int) == 16) = false := beq_eq_false_iff_ne.mpr c6
    have c6b1 : ((l0_0.length : Int) != 16) = true := bne_iff_ne.mpr c6
    by_cases c7 : (l0_0.length : Int) = 32
    ·rw [if_pos c7] at H
     have c7b0 : ((l0_0.length : Int) == 32) = true := beq_iff_eq.mpr c7
     have c7b1 : ((l0_0.length : Int) != 32) = false := bne_eq_false_iff_eq.mpr c7
     clear c7
     have H' := aM H
     clear H
     go_wp2
     go_meet
     case rel => exact ⟨_, (false), px_rf, H', ⟨by first | omega | exact Nat.le_refl _⟩, ⟨px_bV BK135.out⟩, ⟨px_h1 HB.out GE135.out⟩⟩
    ·rw [if_neg c7] at H
     have c7b0 : ((l0_0.length : Int) == 32) = false := beq_eq_false_iff_ne.mpr c7
     have c7b1 : ((l0_0.length : Int) != 32) = true := bne_iff_ne.mpr c7
     by_cases c8 : (l0_0.length : Int) = 64
     ·rw [if_pos c8] at H
      have c8b0 : ((l0_0.length : Int) == 64) = true := beq_iff_eq.mpr c8
      have c8b1 : ((l0_0.length : Int) != 64) = false := bne_eq_false_iff_eq.mpr c8
      clear c8
      have H' := aM H
      clear H
      go_wp2
      go_meet
      case rel => exact ⟨_, (false), px_rf, H', ⟨by first | omega | exact Nat.le_refl _⟩, ⟨px_bV BK135.out⟩, ⟨px_h1 HB.out GE135.out⟩⟩
     ·rw [if_neg c8] at H
      have c8b0 : ((l0_0.length : Int) == 64) = false := beq_eq_false_iff_ne.mpr c8
      have c8b1 : ((l0_0.length : Int) != 64) = true := bne_iff_ne.mpr c8
      have H' := aM H
      clear H
      go_wp2
      go_meet
      case rel => exact ⟨_, (((l0_0.length : Int) != 128)), px_rf, H', ⟨by first | omega | exact Nat.le_refl _⟩, ⟨px_bV BK135.out⟩, ⟨px_h1 HB.out GE135.out⟩⟩
 case rest =>
  clear HC2
  try clear c1
  try clear p2
  try clear c5
  try clear c5b0
  try clear c5b1
  try clear c6
  try clear c6b0
  try clear c6b1
  try clear c7
  try clear c7b0
  try clear c7b1
  try clear c8
  try clear c8b0
  try clear c8b1
  try clear hcz4_0
  try clear hcz4_1
  try clear hfz4_0
  try clear hfz4_1
  obtain ⟨kq, x27_1, rfl, HA, HJ1, BK135, HB⟩ := hcut
  cases kq with
  | zero => exact absurd HA.out (by simp [spec_validDict.j0])
  | succ kj1 =>
   have H := HA.out
   clear HA
   simp only [spec_validDict.j0] at H
   by_cases c9 : x27_1 = true
   ·subst c9
    have H1 : (some false) = some r := by rw [if_pos rfl] at H; exact H
    clear H
    have H := H1
    clear H1
    obtain rfl := Option.some.inj H
    go_wp2
    go_ret
    exact ⟨by first | rfl | (simp [errW_none, errW_some] <;> rfl) | (simp [*, errW_none, errW_some] <;> rfl), px_h1 HB.out GE135.out⟩
   ·replace c9 := Bool.eq_false_iff.mpr c9
    subst c9
    have H1 : (if (l0_1.length : Int) > (wrap64 (Int.tdiv (wrap64 ((l0_0.length : Int) * 2)) 3)) then (spec_validDict.j1 kj1 true l0_0 l0_1) else ((spec_liveEntries.f kj1 l0_0 l0_1).bind fun t136 => (spec_validDict.j1 kj1 (decide (t136 > 40)) l0_0 l0_1))) = some r := by rw [if_neg (show ¬ (false = true) by decide)] at H; exact H
    clear H
    have H := H1
    clear H1
    have HC10 := aM H
    clear H
    go_upto_region 4 with (fail)
    go_cut [39] (fun v39 wc => ∃ (kq : Nat) (x39_9 : Bool), v39 = .bool x39_9 ∧ Aside0 (spec_validDict.j1 kq x39_9 l0_0 l0_1 = some r) ∧ Aside0 (kq ≤ kj1) ∧ Aside0 (wc.heap[gb135]? = some (.cells #[(.slice A0_0 l0_0.length c0_0), (.slice A0_1 l0_1.length c0_1)] 30 (0, 0))) ∧ Aside0 (Below w.heap.size w wc))
    case first =>
     have H := HC10.out
     clear HC10
     by_cases c11 : (l0_1.length : Int) > (wrap64 (Int.tdiv (wrap64 ((l0_0.length : Int) * 2)) 3))
     ·rw [if_pos c11] at H
      have c11b0 : decide ((wrap64 (Int.tdiv (wrap64 ((l0_0.length : Int) * 2)) 3)) < (l0_1.length : Int)) = true := decide_eq_true c11
      clear c11
      (first | rw [c11b0] | (simp only [i64_w, i32_w]; rw [c11b0]) | skip)
      have H' := aM H
      clear H
      have hcz12_0 : wc.cell? ⟨gb135, 0, none⟩ = some (.slice A0_0 l0_0.length c0_0) := (blk_cell BK135.out 0).trans rfl
      have hcz12_1 : wc.cell? ⟨gb135, 1, none⟩ = some (.slice A0_1 l0_1.length c0_1) := (blk_cell BK135.out 1).trans rfl
      have hfz12_0 := blk_frozen BK135.out 0
      have hfz12_1 := blk_frozen BK135.out 1
      go_wp2
      go_meet
      case rel => exact ⟨_, (true), px_rf, H', ⟨by have := HJ1.out; first | omega | exact Nat.le_refl _⟩, ⟨px_bV BK135.out⟩, ⟨px_h1 HB.out GE135.out⟩⟩
     ·rw [if_neg c11] at H
      have c11b0 : decide ((wrap64 (Int.tdiv (wrap64 ((l0_0.length : Int) * 2)) 3)) < (l0_1.length : Int)) = false := decide_eq_false c11
      clear c11
      (first | rw [c11b0] | (simp only [i64_w, i32_w]; rw [c11b0]) | skip)
      replace H := Option.bind_eq_some_iff.mp H
      obtain ⟨t136, A130, H⟩ := H
      replace H : (spec_validDict.j1 kj1 (decide (t136 > 40)) l0_0 l0_1) = some r := H
      have A13 := aM A130
      clear A130
      have H' := aM H
      clear H
      have hcz14_0 : wc.cell? ⟨gb135, 0, none⟩ = some (.slice A0_0 l0_0.length c0_0) := (blk_cell BK135.out 0).trans rfl
      have hcz14_1 : wc.cell? ⟨gb135, 1, none⟩ = some (.slice A0_1 l0_1.length c0_1) := (blk_cell BK135.out 1).trans rfl
      have hfz14_0 := blk_frozen BK135.out 0
      have hfz14_1 := blk_frozen BK135.out 1
      go_wp2_with (first | (go_at_call 12; (with_reducible refine (spec_liveEntries.calls kj1 _ _ l0_0 _ _ l0_1 t136 _ ?side1 ?side2 ?side3 ?side4 A13.out).mono ?_); (case side1 => exact px_cV ((Kd.C_below HR0_0.out HB.out))); (case side2 => exact HC0_0.out); (case side3 => exact px_cV ((Kd.C_below HR0_1.out HB.out))); (case side4 => exact HC0_1.out); rintro e w15 ⟨rfl, hb⟩; have n0_ := aM (blk_below (g := gb135) (o := .cells #[.slice A0_0 l0_0.length c0_0, .slice A0_1 l0_1.length c0_1] 30 (0, 0)) (px_bV BK135.out) hb); have n1_ := aM (below_step (px_h1 HB.out GE135.out) hb); clear BK135; clear HB; have BK135 := n0_; have HB := n1_; clear n0_ n1_; (try clear hb); (try clear hb2); (try clear hk); (try clear hi)))
      go_meet
      case rel => exact ⟨_, (decide (t136 > 40)), px_rf, H', ⟨by have := HJ1.out; first | omega | exact Nat.le_refl _⟩, ⟨px_bV BK135.out⟩, ⟨px_h1 HB.out GE135.out⟩⟩
    case rest =>
     clear HC10
     try clear c1
     try clear p2
     try clear c5
     try clear c5b0
     try clear c5b1
     try clear c6
     try clear c6b0
     try clear c6b1
     try clear p6
     try clear c7
     try clear c7b0
     try clear c7b1
     try clear c8
     try clear c8b0
     try clear c8b1
     try clear c9
     try clear c11
     try clear c11b0
     try clear hcz12_0
     try clear hcz12_1
     try clear hcz14_0
     try clear hcz14_1
     try clear hcz4_0
     try clear hcz4_1
     try clear hfz12_0
     try clear hfz12_1
     try clear hfz14_0
     try clear hfz14_1
     try clear hfz4_0
     try clear hfz4_1
     try clear p2
     obtain ⟨kq, x39_9, rfl, HA, HJ9, BK135, HB⟩ := hcut
     cases kq with
     | zero => exact absurd HA.out (by simp [spec_validDict.j1])
     | succ kj9 =>
      have H := HA.out
      clear HA
      simp only [spec_validDict.j1] at H
      by_cases c16 : x39_9 = true
      ·subst c16
       have H1 : (some false) = some r := by rw [if_pos rfl] at H; exact H
       clear H
       have H := H1
       clear H1
       obtain rfl := Option.some.inj H
       go_wp2
       go_ret
       exact ⟨by first | rfl | (simp [errW_none, errW_some] <;> rfl) | (simp [*, errW_none, errW_some] <;> rfl), px_h1 HB.out GE135.out⟩
      ·replace c16 := Bool.eq_false_iff.mpr c16
       subst c16
       have H1 : (spec_validDict.l0 kj9 0 l0_0 l0_1) = some r := by rw [if_neg (show ¬ (false = true) by decide)] at H; exact H
       clear H
       have H := H1
       clear H1
       have H' := aM H
       clear H
       go_wp2
       go_loopg [4] kj9 (fun kq v4 w' => ∃ (x4_3 : Int), v4 = .int .i64 x4_3 ∧ Aside0 (spec_validDict.l0 kq x4_3 l0_0 l0_1 = some r) ∧ Aside0 (kq ≤ kj9) ∧ Aside0 (w'.heap[gb135]? = some (.cells #[(.slice A0_0 l0_0.length c0_0), (.slice A0_1 l0_1.length c0_1)] 30 (0, 0))) ∧ Aside0 (Below w.heap.size w w'))
       case atStart => exact ⟨(0), px_rf, H', ⟨Nat.le_refl _⟩, ⟨px_bV BK135.out⟩, ⟨px_h1 HB.out GE135.out⟩⟩
       case round =>
        clear H'
        try clear c1
        try clear p2
        try clear c5
        try clear c5b0
        try clear c5b1
        try clear c6
        try clear c6b0
        try clear c6b1
        try clear p6
        try clear c7
        try clear c7b0
        try clear c7b1
        try clear c8
        try clear c8b0
        try clear c8b1
        try clear c9
        try clear c11
        try clear c11b0
        try clear c16
        try clear hcz12_0
        try clear hcz12_1
        try clear hcz14_0
        try clear hcz14_1
        try clear hcz4_0
        try clear hcz4_1
        try clear hfz12_0
        try clear hfz12_1
        try clear hfz14_0
        try clear hfz14_1
        try clear hfz4_0
        try clear hfz4_1
        try clear p2
        try clear p6
        obtain ⟨x4_3, rfl, HA, HK3, BK135, HB⟩ := hrel
        cases gk with
        | zero => exact absurd HA.out (by simp [spec_validDict.l0])
        | succ k3 =>
         have H := HA.out
         clear HA
         simp only [spec_validDict.l0] at H
         by_cases c17 : x4_3 < (l0_1.length : Int)
         ·rw [if_pos c17] at H
          have c17b0 : decide (x4_3 < (l0_1.length : Int)) = true := decide_eq_true c17
          clear c17
          by_cases c18 : 0 ≤ x4_3
          ·rw [if_pos c18] at H
           have c18b0 : decide (0 ≤ x4_3) = true := decide_eq_true c18
           clear c18
           have HC19 := aM H
           clear H
           have hcz20_0 : wr.cell? ⟨gb135, 0, none⟩ = some (.slice A0_0 l0_0.length c0_0) := (blk_cell BK135.out 0).trans rfl
           have hcz20_1 : wr.cell? ⟨gb135, 1, none⟩ = some (.slice A0_1 l0_1.length c0_1) := (blk_cell BK135.out 1).trans rfl
           have hfz20_0 := blk_frozen BK135.out 0
           have hfz20_1 := blk_frozen BK135.out 1
           have p137 : 0 ≤ (x4_3 : Int) := px_od
           have q137 : x4_3 < (l0_1.length : Int) := px_od
           obtain ⟨ad137, e137, hx137_0, hx137_1, hx137_2, hx137_3⟩ := at_T38 HR0_1.out x4_3 p137 q137
           cases e137
           replace hx137_0 := px_hx HB.out hx137_0
           replace hx137_1 := px_hx HB.out hx137_1
           replace hx137_2 := px_hx HB.out hx137_2
           replace hx137_3 := px_hx HB.out hx137_3
           replace p137 := eq_true p137
           replace q137 := eq_true q137
           go_upto_region 10 with (first | ((with_reducible refine gate_dst (N := 5) rfl ?_); refine box_event ?hg (N := 5) ?hd (cs := #[.string (⟨#[]⟩ : ByteArray), .int .i64 0, .int .i64 0, .bool false]) (t := 38) ?hr ?_; (case hd => rfl); (case hg => rfl); (case hr => first | (go_simp; done) | (go_simp; rfl)); intro gb138 hg w21 hbox hb; have n0_ := aM (blk_below (g := gb135) (o := .cells #[.slice A0_0 l0_0.length c0_0, .slice (some ad137) l0_1.length c0_1] 30 (0, 0)) (px_bV BK135.out) hb); have n1_ := aM (below_step (px_h1 HB.out GE135.out) hb); have n2_ := aM (hbox); have n3_ := aM ((by rw [hg]; exact (below_size (px_h1 HB.out GE135.out)) : w.heap.size ≤ gb138)); have n4_ := aM ((by rw [hg]; exact (below_size (px_h1 HB.out GE135.out)) : w.heap.size ≤ gb138)); have n5_ := aM ((by rw [hg]; exact Nat.ne_of_lt (blk_lt (g := gb135) (o := .cells #[.slice A0_0 l0_0.length c0_0, .slice (some ad137) l0_1.length c0_1] 30 (0, 0)) (px_bV BK135.out)) : gb135 ≠ gb138)); have n6_ := aM ((by rw [hg]; exact Nat.ne_of_gt (blk_lt (g := gb135) (o := .cells #[.slice A0_0 l0_0.length c0_0, .slice (some ad137) l0_1.length c0_1] 30 (0, 0)) (px_bV BK135.out)) : gb138 ≠ gb135)); clear BK135; clear HB; have BK135 := n0_; have HB := n1_; have BK138 := n2_; have GW138 := n3_; have GE138 := n4_; have NB135_138 := n5_; have NB138_135 := n6_; clear n0_ n1_ n2_ n3_ n4_ n5_ n6_; clear hb hbox hg; have hnb22 := NB138_135.out; have hnc22 := NB135_138.out; have hcz23_0 : w21.cell? ⟨gb138, 0, none⟩ = some (.string (⟨#[]⟩ : ByteArray)) := (blk_cell BK138.out 0).trans rfl; have hcz23_1 : w21.cell? ⟨gb138, 1, none⟩ = some (.int .i64 0) := (blk_cell BK138.out 1).trans rfl; have hcz23_2 : w21.cell? ⟨gb138, 2, none⟩ = some (.int .i64 0) := (blk_cell BK138.out 2).trans rfl; have hcz23_3 : w21.cell? ⟨gb138, 3, none⟩ = some (.bool false) := (blk_cell BK138.out 3).trans rfl; have hfz23_0 := blk_frozen BK138.out 0; have hfz23_1 := blk_frozen BK138.out 1; have hfz23_2 := blk_frozen BK138.out 2; have hfz23_3 := blk_frozen BK138.out 3))
           (try simp only [Act.put, List.setIfInBounds_toArray, List.set_cons_zero, List.set_cons_succ])
           go_cut [83] (fun v83 wc => ∃ (kq : Nat) (x83_18 : Bool), v83 = .bool x83_18 ∧ Aside0 (spec_validDict.j3 kq x4_3 x83_18 l0_0 l0_1 = some r) ∧ Aside0 (kq ≤ k3) ∧ Aside0 (wc.heap[gb135]? = some (.cells #[(.slice A0_0 l0_0.length c0_0), (.slice (some ad137) l0_1.length c0_1)] 30 (0, 0))) ∧ Aside0 (wc.heap[gb138]? = some (.cells #[.string ((rd_T38 l0_1 x4_3).f0), .int .i64 ((rd_T38 l0_1 x4_3).f1), .int .i64 ((rd_T38 l0_1 x4_3).f2), .bool ((rd_T38 l0_1 x4_3).f3)] 38 (0, 0))) ∧ Aside0 (Below w.heap.size w wc))
           case first =>
            have H := HC19.out
            clear HC19
            obtain ⟨bq24, hbq24⟩ : ∃ b_ : Bool, b_ = ((rd_T38 l0_1 x4_3).f3) := ⟨_, rfl⟩
            replace H : (if (bq24 = true) then ((spec_validKey.f ((rd_T38 l0_1 x4_3).f0)).bind fun t139 => (if t139 = true then (if bq24 = true then ((spec_hashOf.f k3 ((rd_T38 l0_1 x4_3).f0)).bind fun t140 => (if ((rd_T38 l0_1 x4_3).f1) = t140 then ((spec_inRange.f ((rd_T38 l0_1 x4_3).f2) (-1000000) 1000000).bind fun t141 => (spec_validDict.j3 k3 x4_3 (!t141) l0_0 l0_1)) else (spec_validDict.j3 k3 x4_3 true l0_0 l0_1))) else ((spec_inRange.f ((rd_T38 l0_1 x4_3).f2) (-1000000) 1000000).bind fun t142 => (spec_validDict.j3 k3 x4_3 (!t142) l0_0 l0_1))) else (spec_validDict.j3 k3 x4_3 true l0_0 l0_1))) else (if (!((((rd_T38 l0_1 x4_3).f0).toList) == ([] : List UInt8)) || (!(((rd_T38 l0_1 x4_3).f1) == 0) || (!(((rd_T38 l0_1 x4_3).f2) == 0) || ((bq24))))) = true then (spec_validDict.j3 k3 x4_3 true l0_0 l0_1) else ((spec_validKey.f ((rd_T38 l0_1 x4_3).f0)).bind fun t143 => (if t143 = true then (if bq24 = true then ((spec_hashOf.f k3 ((rd_T38 l0_1 x4_3).f0)).bind fun t144 => (if ((rd_T38 l0_1 x4_3).f1) = t144 then ((spec_inRange.f ((rd_T38 l0_1 x4_3).f2) (-1000000) 1000000).bind fun t145 => (spec_validDict.j3 k3 x4_3 (!t145) l0_0 l0_1)) else (spec_validDict.j3 k3 x4_3 true l0_0 l0_1))) else ((spec_inRange.f ((rd_T38 l0_1 x4_3).f2) (-1000000) 1000000).bind fun t146 => (spec_validDict.j3 k3 x4_3 (!t146) l0_0 l0_1))) else (spec_validDict.j3 k3 x4_3 true l0_0 l0_1))))) = some r := by rw [← hbq24] at H; exact H
            have Nbq24 := aM hbq24
            clear hbq24
            (try rw [← Nbq24.out])
            by_cases c25 : (bq24 = true)
            ·subst c25
             have H1 : ((spec_validKey.f ((rd_T38 l0_1 x4_3).f0)).bind fun t139 => (if t139 = true then (if true = true then ((spec_hashOf.f k3 ((rd_T38 l0_1 x4_3).f0)).bind fun t140 => (if ((rd_T38 l0_1 x4_3).f1) = t140 then ((spec_inRange.f ((rd_T38 l0_1 x4_3).f2) (-1000000) 1000000).bind fun t141 => (spec_validDict.j3 k3 x4_3 (!t141) l0_0 l0_1)) else (spec_validDict.j3 k3 x4_3 true l0_0 l0_1))) else ((spec_inRange.f ((rd_T38 l0_1 x4_3).f2) (-1000000) 1000000).bind fun t142 => (spec_validDict.j3 k3 x4_3 (!t142) l0_0 l0_1))) else (spec_validDict.j3 k3 x4_3 true l0_0 l0_1))) = some r := by rw [if_pos rfl] at H; exact H
             clear H
             have H := H1
             clear H1
             replace H := Option.bind_eq_some_iff.mp H
             obtain ⟨t139, A260, H⟩ := H
             replace H : (if t139 = true then (if true = true then ((spec_hashOf.f k3 ((rd_T38 l0_1 x4_3).f0)).bind fun t140 => (if ((rd_T38 l0_1 x4_3).f1) = t140 then ((spec_inRange.f ((rd_T38 l0_1 x4_3).f2) (-1000000) 1000000).bind fun t141 => (spec_validDict.j3 k3 x4_3 (!t141) l0_0 l0_1)) else (spec_validDict.j3 k3 x4_3 true l0_0 l0_1))) else ((spec_inRange.f ((rd_T38 l0_1 x4_3).f2) (-1000000) 1000000).bind fun t142 => (spec_validDict.j3 k3 x4_3 (!t142) l0_0 l0_1))) else (spec_validDict.j3 k3 x4_3 true l0_0 l0_1)) = some r := H
             have A26 := aM A260
             clear A260
             by_cases c27 : t139 = true
             ·subst c27
              have H1 : (if true = true then ((spec_hashOf.f k3 ((rd_T38 l0_1 x4_3).f0)).bind fun t140 => (if ((rd_T38 l0_1 x4_3).f1) = t140 then ((spec_inRange.f ((rd_T38 l0_1 x4_3).f2) (-1000000) 1000000).bind fun t141 => (spec_validDict.j3 k3 x4_3 (!t141) l0_0 l0_1)) else (spec_validDict.j3 k3 x4_3 true l0_0 l0_1))) else ((spec_inRange.f ((rd_T38 l0_1 x4_3).f2) (-1000000) 1000000).bind fun t142 => (spec_validDict.j3 k3 x4_3 (!t142) l0_0 l0_1))) = some r := by rw [if_pos rfl] at H; exact H
              clear H
              have H := H1
              clear H1
              by_cases c28 : true = true
              ·clear c28
               have H1 : ((spec_hashOf.f k3 ((rd_T38 l0_1 x4_3).f0)).bind fun t140 => (if ((rd_T38 l0_1 x4_3).f1) = t140 then ((spec_inRange.f ((rd_T38 l0_1 x4_3).f2) (-1000000) 1000000).bind fun t141 => (spec_validDict.j3 k3 x4_3 (!t141) l0_0 l0_1)) else (spec_validDict.j3 k3 x4_3 true l0_0 l0_1))) = some r := by rw [if_pos rfl] at H; exact H
               clear H
               have H := H1
               clear H1
               replace H := Option.bind_eq_some_iff.mp H
               obtain ⟨t140, A290, H⟩ := H
               replace H : (if ((rd_T38 l0_1 x4_3).f1) = t140 then ((spec_inRange.f ((rd_T38 l0_1 x4_3).f2) (-1000000) 1000000).bind fun t141 => (spec_validDict.j3 k3 x4_3 (!t141) l0_0 l0_1)) else (spec_validDict.j3 k3 x4_3 true l0_0 l0_1)) = some r := H
               have A29 := aM A290
               clear A290
               by_cases c30 : ((rd_T38 l0_1 x4_3).f1) = t140
               ·rw [if_pos c30] at H
                have c30b0 : (((rd_T38 l0_1 x4_3).f1) == t140) = true := beq_iff_eq.mpr c30
                have c30b1 : (((rd_T38 l0_1 x4_3).f1) != t140) = false := bne_eq_false_iff_eq.mpr c30
                clear c30
                replace H := Option.bind_eq_some_iff.mp H
                obtain ⟨t141, A310, H⟩ := H
                replace H : (spec_validDict.j3 k3 x4_3 (!t141) l0_0 l0_1) = some r := H
                have A31 := aM A310
                clear A310
                have H' := aM H
                clear H
                try go_wp2
                have n0_ : Aside0 (((((w21.setCell ⟨gb138, 0, none⟩ (.string ((rd_T38 l0_1 x4_3).f0))).setCell ⟨gb138, 1, none⟩ (.int .i64 ((rd_T38 l0_1 x4_3).f1))).setCell ⟨gb138, 2, none⟩ (.int .i64 ((rd_T38 l0_1 x4_3).f2))).setCell ⟨gb138, 3, none⟩ (.bool (true))).heap[gb135]? = some (.cells #[.slice A0_0 l0_0.length c0_0, .slice (some ad137) l0_1.length c0_1] 30 (0, 0))) := ⟨by (with_reducible repeat (first | refine blk_drewN ?_ _ | refine blk_drew ?_ | refine blk_alloc ?_ _)); refine blk_far ?_ NB135_138.out _; (with_reducible repeat (first | refine blk_drewN ?_ _ | refine blk_drew ?_ | refine blk_alloc ?_ _)); refine blk_far ?_ NB135_138.out _; (with_reducible repeat (first | refine blk_drewN ?_ _ | refine blk_drew ?_ | refine blk_alloc ?_ _)); refine blk_far ?_ NB135_138.out _; (with_reducible repeat (first | refine blk_drewN ?_ _ | refine blk_drew ?_ | refine blk_alloc ?_ _)); refine blk_far ?_ NB135_138.out _; (with_reducible repeat (first | refine blk_drewN ?_ _ | refine blk_drew ?_ | refine blk_alloc ?_ _)); exact BK135.out⟩
                have n1_ : Aside0 (((((w21.setCell ⟨gb138, 0, none⟩ (.string ((rd_T38 l0_1 x4_3).f0))).setCell ⟨gb138, 1, none⟩ (.int .i64 ((rd_T38 l0_1 x4_3).f1))).setCell ⟨gb138, 2, none⟩ (.int .i64 ((rd_T38 l0_1 x4_3).f2))).setCell ⟨gb138, 3, none⟩ (.bool (true))).heap[gb138]? = some (.cells #[.string ((rd_T38 l0_1 x4_3).f0), .int .i64 ((rd_T38 l0_1 x4_3).f1), .int .i64 ((rd_T38 l0_1 x4_3).f2), .bool true] 38 (0, 0))) := ⟨by (with_reducible repeat (first | refine blk_drewN ?_ _ | refine blk_drew ?_ | refine blk_alloc ?_ _)); refine blk_put (cs := #[.string ((rd_T38 l0_1 x4_3).f0), .int .i64 ((rd_T38 l0_1 x4_3).f1), .int .i64 ((rd_T38 l0_1 x4_3).f2), .bool false]) ?_ 3 _ rfl; (with_reducible repeat (first | refine blk_drewN ?_ _ | refine blk_drew ?_ | refine blk_alloc ?_ _)); refine blk_put (cs := #[.string ((rd_T38 l0_1 x4_3).f0), .int .i64 ((rd_T38 l0_1 x4_3).f1), .int .i64 0, .bool false]) ?_ 2 _ rfl; (with_reducible repeat (first | refine blk_drewN ?_ _ | refine blk_drew ?_ | refine blk_alloc ?_ _)); refine blk_put (cs := #[.string ((rd_T38 l0_1 x4_3).f0), .int .i64 0, .int .i64 0, .bool false]) ?_ 1 _ rfl; (with_reducible repeat (first | refine blk_drewN ?_ _ | refine blk_drew ?_ | refine blk_alloc ?_ _)); refine blk_put (cs := #[.string (⟨#[]⟩ : ByteArray), .int .i64 0, .int .i64 0, .bool false]) ?_ 0 _ rfl; (with_reducible repeat (first | refine blk_drewN ?_ _ | refine blk_drew ?_ | refine blk_alloc ?_ _)); exact BK138.out⟩
                have n2_ : Aside0 (Below w.heap.size w ((((w21.setCell ⟨gb138, 0, none⟩ (.string ((rd_T38 l0_1 x4_3).f0))).setCell ⟨gb138, 1, none⟩ (.int .i64 ((rd_T38 l0_1 x4_3).f1))).setCell ⟨gb138, 2, none⟩ (.int .i64 ((rd_T38 l0_1 x4_3).f2))).setCell ⟨gb138, 3, none⟩ (.bool (true)))) := ⟨px_h2 HB.out GE135.out GE138.out⟩
                (try clear BK135)
                (try clear BK138)
                (try clear HB)
                generalize ((((w21.setCell ⟨gb138, 0, none⟩ (.string ((rd_T38 l0_1 x4_3).f0))).setCell ⟨gb138, 1, none⟩ (.int .i64 ((rd_T38 l0_1 x4_3).f1))).setCell ⟨gb138, 2, none⟩ (.int .i64 ((rd_T38 l0_1 x4_3).f2))).setCell ⟨gb138, 3, none⟩ (.bool (true))) = w32 at n0_ n1_ n2_ ⊢
                have BK135 := n0_
                have BK138 := n1_
                have HB := n2_
                clear n0_ n1_ n2_
                have n0_ := aM (blk_drew BK135.out)
                have n1_ := aM (blk_drew BK138.out)
                have n2_ := aM (below_drew1 HB.out)
                clear BK135
                clear BK138
                clear HB
                have BK135 := n0_
                have BK138 := n1_
                have HB := n2_
                clear n0_ n1_ n2_
                refine start_ (n := 32) (S := fun w' => w'.cell? ⟨gb138, 0, none⟩ = some (.string ((rd_T38 l0_1 x4_3).f0)) ∧ w'.cell? ⟨gb138, 1, none⟩ = some (.int .i64 ((rd_T38 l0_1 x4_3).f1)) ∧ w'.cell? ⟨gb138, 2, none⟩ = some (.int .i64 ((rd_T38 l0_1 x4_3).f2)) ∧ w'.cell? ⟨gb138, 3, none⟩ = some (.bool true)) (ds := []) (px_l 0 32) (by kernel_rfl) rfl rfl ⟨(blk_cell BK138.out 0).trans rfl, (blk_cell BK138.out 1).trans rfl, (blk_cell BK138.out 2).trans rfl, (blk_cell BK138.out 3).trans rfl⟩ (fun hHeld => ?_); refine with_tabW spec_validDict.tab10 spec_validDict.bits10 (fun HT_ HW_ => ?_)
                generalize w32.drew = w33 at BK135 BK138 HB hHeld ⊢
                refine pure_ (i := 0) (N := some 52) (v := ?_) (a' := ?_) (px_l 1 31) rfl rfl (any_of HT_.out (by kernel_rfl)) (fun _ _ _ h => h) (Or.inl ⟨by rfl, ?_⟩) ?_ ?_
                rotate_left
                ·intro w'
                 go_simp
                 with_reducible rfl
                rotate_left
                ·simp only [px_q]
                 rfl
                refine take_ (i := 1) (N := some 53) (v := ?_) (a' := ?_) (px_l 2 30) rfl rfl (take_ofW HT_.out HW_.out (by kernel_rfl)) (fun _ _ _ h => h) (Or.inl ⟨by rfl, ?_⟩) hHeld ?_ ?_
                rotate_left
                ·rintro w' ⟨s0, s1, s2, s3⟩
                 go_simp
                 with_reducible rfl
                rotate_left
                ·simp only [px_q]
                 rfl
                refine pure_ (i := 2) (N := some 54) (v := ?_) (a' := ?_) (px_l 3 29) rfl rfl (any_of HT_.out (by kernel_rfl)) (fun _ _ _ h => h) (Or.inl ⟨by rfl, ?_⟩) ?_ ?_
                rotate_left
                ·intro w'
                 go_simp
                 with_reducible rfl
                rotate_left
                ·simp only [px_q]
                 rfl
                refine pure_ (i := 3) (N := some 55) (v := ?_) (a' := ?_) (px_l 4 28) rfl rfl (any_of HT_.out (by kernel_rfl)) (fun _ _ _ h => h) (Or.inl ⟨by rfl, ?_⟩) ?_ ?_
                rotate_left
                ·intro w'
                 go_simp
                 with_reducible rfl
                rotate_left
                ·simp only [px_q]
                 rfl
                refine pure_ (i := 4) (N := some 56) (v := undef) (a' := ?_) (px_l 5 27) rfl rfl (any_of HT_.out (by kernel_rfl)) (fun _ _ _ h => h) (Or.inr ⟨by rfl, rfl⟩) ?_ ?_
                rotate_left
                ·simp only [px_q]
                 rfl
                refine pure_ (i := 5) (N := some 57) (v := undef) (a' := ?_) (px_l 6 26) rfl rfl (any_of HT_.out (by kernel_rfl)) (fun _ _ _ h => h) (Or.inr ⟨by rfl, rfl⟩) ?_ ?_
                rotate_left
                ·simp only [px_q]
                 rfl
                refine pure_ (i := 6) (N := some 58) (v := undef) (a' := ?_) (px_l 7 25) rfl rfl (any_of HT_.out (by kernel_rfl)) (fun _ _ _ h => h) (Or.inr ⟨by rfl, rfl⟩) ?_ ?_
                rotate_left
                ·simp only [px_q]
                 rfl
                refine pure_ (i := 7) (N := some 59) (v := ?_) (a' := ?_) (px_l 8 24) rfl rfl (any_of HT_.out (by kernel_rfl)) (fun _ _ _ h => h) (Or.inl ⟨by rfl, ?_⟩) ?_ ?_
                rotate_left
                ·intro w'
                 go_simp
                 with_reducible rfl
                rotate_left
                ·simp only [px_q]
                 rfl
                refine pure_ (i := 8) (N := some 60) (v := ?_) (a' := ?_) (px_l 9 23) rfl rfl (any_of HT_.out (by kernel_rfl)) (fun _ _ _ h => h) (Or.inl ⟨by rfl, ?_⟩) ?_ ?_
                rotate_left
                ·intro w'
                 go_simp
                 with_reducible rfl
                rotate_left
                ·simp only [px_q]
                 rfl
                refine pure_ (i := 9) (N := some 61) (v := ?_) (a' := ?_) (px_l 10 22) rfl rfl (any_of HT_.out (by kernel_rfl)) (fun _ _ _ h => h) (Or.inl ⟨by rfl, ?_⟩) ?_ ?_
                rotate_left
                ·intro w'
                 go_simp
                 with_reducible rfl
                rotate_left
                ·simp only [px_q]
                 rfl
                refine take_ (i := 10) (N := some 62) (v := ?_) (a' := ?_) (px_l 11 21) rfl rfl (take_ofW HT_.out HW_.out (by kernel_rfl)) (fun _ _ _ h => h) (Or.inl ⟨by rfl, ?_⟩) hHeld ?_ ?_
                rotate_left
                ·rintro w' ⟨s0, s1, s2, s3⟩
                 go_simp
                 with_reducible rfl
                rotate_left
                ·simp only [px_q]
                 rfl
                refine one_ (i := 11) (N := some 63) (px_l 12 20) rfl rfl (one_of HT_.out (by kernel_rfl)) (by decide) (fun K hK => ?_)
                refine goes_ Try.func22 (by kernel_rfl) rfl #[.string ((rd_T38 l0_1 x4_3).f0)] (by rfl) rfl rfl px_dn ?_
                with_reducible refine (spec_validKey.calls ((rd_T38 l0_1 x4_3).f0) true _ A26.out).mono ?_
                rintro e w' ⟨rfl, ⟨nd, rfl⟩⟩
                refine ⟨_, rfl, ?_⟩
                refine hK.out _ _ ⟨(blk_cell BK138.out 0).trans rfl, (blk_cell BK138.out 1).trans rfl, (blk_cell BK138.out 2).trans rfl, (blk_cell BK138.out 3).trans rfl⟩ (fun hHeld => ?_)
                clear hK K
                refine norm_ (a' := ?_) ?_ ?_
                rotate_left
                ·show Act.put _ (some 63) _ = _
                 simp only [px_q]
                 rfl
                refine pure_ (i := 12) (N := some 64) (v := ?_) (a' := ?_) (px_l 13 19) rfl rfl (any_of HT_.out (by kernel_rfl)) (fun _ _ _ h => h) (Or.inl ⟨by rfl, ?_⟩) ?_ ?_
                rotate_left
                ·intro w'
                 go_simp
                 with_reducible rfl
                rotate_left
                ·simp only [px_q]
                 rfl
                refine pure_ (i := 13) (N := some 65) (v := ?_) (a' := ?_) (px_l 14 18) rfl rfl (any_of HT_.out (by kernel_rfl)) (fun _ _ _ h => h) (Or.inl ⟨by rfl, ?_⟩) ?_ ?_
                rotate_left
                ·intro w'
                 go_simp
                 with_reducible rfl
                rotate_left
                ·simp only [px_q]
                 rfl
                refine pure_ (i := 14) (N := some 66) (v := ?_) (a' := ?_) (px_l 15 17) rfl rfl (any_of HT_.out (by kernel_rfl)) (fun _ _ _ h => h) (Or.inl ⟨by rfl, ?_⟩) ?_ ?_
                rotate_left
                ·intro w'
                 go_simp
                 with_reducible rfl
                rotate_left
                ·simp only [px_q]
                 rfl
                refine pure_ (i := 15) (N := some 67) (v := ?_) (a' := ?_) (px_l 16 16) rfl rfl (any_of HT_.out (by kernel_rfl)) (fun _ _ _ h => h) (Or.inl ⟨by rfl, ?_⟩) ?_ ?_
                rotate_left
                ·intro w'
                 go_simp
                 with_reducible rfl
                rotate_left
                ·simp only [px_q]
                 rfl
                refine take_ (i := 16) (N := some 68) (v := ?_) (a' := ?_) (px_l 17 15) rfl rfl (take_ofW HT_.out HW_.out (by kernel_rfl)) (fun _ _ _ h => h) (Or.inl ⟨by rfl, ?_⟩) hHeld ?_ ?_
                rotate_left
                ·rintro w' ⟨s0, s1, s2, s3⟩
                 go_simp
                 with_reducible rfl
                rotate_left
                ·simp only [px_q]
                 rfl
                refine pure_ (i := 17) (N := some 69) (v := ?_) (a' := ?_) (px_l 18 14) rfl rfl (any_of HT_.out (by kernel_rfl)) (fun _ _ _ h => h) (Or.inl ⟨by rfl, ?_⟩) ?_ ?_
                rotate_left
                ·intro w'
                 go_simp
                 with_reducible rfl
                rotate_left
                ·simp only [px_q]
                 rfl
                refine pure_ (i := 18) (N := some 70) (v := ?_) (a' := ?_) (px_l 19 13) rfl rfl (any_of HT_.out (by kernel_rfl)) (fun _ _ _ h => h) (Or.inl ⟨by rfl, ?_⟩) ?_ ?_
                rotate_left
                ·intro w'
                 go_simp
                 with_reducible rfl
                rotate_left
                ·simp only [px_q]
                 rfl
                refine pure_ (i := 20) (N := some 72) (v := ?_) (a' := ?_) #[true, true, true, true, true, true, true, true, true, true, true, true, true, true, true, true, true, true, true, false, true, false, false, false, false, false, false, false, false, false, false, false] rfl rfl (any_of HT_.out (by kernel_rfl)) (fun _ _ _ h => h) (Or.inl ⟨by rfl, ?_⟩) ?_ ?_
                rotate_left
                ·intro w'
                 go_simp
                 with_reducible rfl
                rotate_left
                ·simp only [px_q]
                 rfl
                refine take_ (i := 19) (N := some 71) (v := ?_) (a' := ?_) (px_l 21 11) rfl rfl (take_ofW HT_.out HW_.out (by kernel_rfl)) (fun _ _ _ h => h) (Or.inl ⟨by rfl, ?_⟩) hHeld ?_ ?_
                rotate_left
                ·rintro w' ⟨s0, s1, s2, s3⟩
                 go_simp
                 with_reducible rfl
                rotate_left
                ·simp only [px_q]
                 rfl
                refine take_ (i := 21) (N := some 73) (v := ?_) (a' := ?_) (px_l 22 10) rfl rfl (take_ofW HT_.out HW_.out (by kernel_rfl)) (fun _ _ _ h => h) (Or.inl ⟨by rfl, ?_⟩) hHeld ?_ ?_
                rotate_left
                ·rintro w' ⟨s0, s1, s2, s3⟩
                 go_simp
                 with_reducible rfl
                rotate_left
                ·simp only [px_q]
                 rfl
                refine one_ (i := 22) (N := some 74) (px_l 23 9) rfl rfl (one_of HT_.out (by kernel_rfl)) (by decide) (fun K hK => ?_)
                refine goes_ Try.func23 (by kernel_rfl) rfl #[.string ((rd_T38 l0_1 x4_3).f0)] (by rfl) rfl rfl px_dn ?_
                with_reducible refine (spec_hashOf.calls k3 ((rd_T38 l0_1 x4_3).f0) t140 _ A29.out).mono ?_
                rintro e w' ⟨rfl, ⟨nd, rfl⟩⟩
                refine ⟨_, rfl, ?_⟩
                refine hK.out _ _ ⟨(blk_cell BK138.out 0).trans rfl, (blk_cell BK138.out 1).trans rfl, (blk_cell BK138.out 2).trans rfl, (blk_cell BK138.out 3).trans rfl⟩ (fun hHeld => ?_)
                clear hK K
                refine norm_ (a' := ?_) ?_ ?_
                rotate_left
                ·show Act.put _ (some 74) _ = _
                 simp only [px_q]
                 rfl
                refine pure_ (i := 23) (N := some 75) (v := ?_) (a' := ?_) (px_l 24 8) rfl rfl (any_of HT_.out (by kernel_rfl)) (fun _ _ _ h => h) (Or.inl ⟨by rfl, ?_⟩) ?_ ?_
                rotate_left
                ·intro w'
                 go_simp
                 with_reducible rfl
                rotate_left
                ·simp only [px_q]
                 rfl
                refine pure_ (i := 24) (N := some 76) (v := ?_) (a' := ?_) (px_l 25 7) rfl rfl (any_of HT_.out (by kernel_rfl)) (fun _ _ _ h => h) (Or.inl ⟨by rfl, ?_⟩) ?_ ?_
                rotate_left
                ·intro w'
                 go_simp
                 with_reducible rfl
                rotate_left
                ·simp only [px_q]
                 rfl
                refine pure_ (i := 25) (N := some 77) (v := ?_) (a' := ?_) (px_l 26 6) rfl rfl (any_of HT_.out (by kernel_rfl)) (fun _ _ _ h => h) (Or.inl ⟨by rfl, ?_⟩) ?_ ?_
                rotate_left
                ·intro w'
                 go_simp
                 with_reducible rfl
                rotate_left
                ·simp only [px_q]
                 rfl
                refine pure_ (i := 26) (N := some 78) (v := ?_) (a' := ?_) (px_l 27 5) rfl rfl (any_of HT_.out (by kernel_rfl)) (fun _ _ _ h => h) (Or.inl ⟨by rfl, ?_⟩) ?_ ?_
                rotate_left
                ·intro w'
                 go_simp
                 with_reducible rfl
                rotate_left
                ·simp only [px_q]
                 rfl
                refine pure_ (i := 27) (N := some 79) (v := ?_) (a' := ?_) (px_l 28 4) rfl rfl (any_of HT_.out (by kernel_rfl)) (fun _ _ _ h => h) (Or.inl ⟨by rfl, ?_⟩) ?_ ?_
                rotate_left
                ·intro w'
                 go_simp
                 with_reducible rfl
                rotate_left
                ·simp only [px_q]
                 rfl
                refine take_ (i := 28) (N := some 80) (v := ?_) (a' := ?_) (px_l 29 3) rfl rfl (take_ofW HT_.out HW_.out (by kernel_rfl)) (fun _ _ _ h => h) (Or.inl ⟨by rfl, ?_⟩) hHeld ?_ ?_
                rotate_left
                ·rintro w' ⟨s0, s1, s2, s3⟩
                 go_simp
                 with_reducible rfl
                rotate_left
                ·simp only [px_q]
                 rfl
                refine one_ (i := 29) (N := some 81) (px_l 30 2) rfl rfl (one_of HT_.out (by kernel_rfl)) (by decide) (fun K hK => ?_)
                refine goes_ Try.func24 (by kernel_rfl) rfl #[.int .i64 ((rd_T38 l0_1 x4_3).f2), .int .i64 (-1000000), .int .i64 1000000] (by rfl) rfl rfl px_dn ?_
                with_reducible refine (spec_inRange.calls ((rd_T38 l0_1 x4_3).f2) (-1000000) 1000000 t141 _ A31.out).mono ?_
                rintro e w' ⟨rfl, ⟨nd, rfl⟩⟩
                refine ⟨_, rfl, ?_⟩
                refine hK.out _ _ ⟨(blk_cell BK138.out 0).trans rfl, (blk_cell BK138.out 1).trans rfl, (blk_cell BK138.out 2).trans rfl, (blk_cell BK138.out 3).trans rfl⟩ (fun hHeld => ?_)
                clear hK K
                refine norm_ (a' := ?_) ?_ ?_
                rotate_left
                ·show Act.put _ (some 81) _ = _
                 simp only [px_q]
                 rfl
                refine pure_ (i := 30) (N := some 82) (v := ?_) (a' := ?_) (px_l 31 1) rfl rfl (any_of HT_.out (by kernel_rfl)) (fun _ _ _ h => h) (Or.inl ⟨by rfl, ?_⟩) ?_ ?_
                rotate_left
                ·intro w'
                 go_simp
                 with_reducible rfl
                rotate_left
                ·simp only [px_q]
                 rfl
                refine pure_ (i := 31) (N := some 83) (v := ?_) (a' := ?_) (px_l 32 0) rfl rfl (any_of HT_.out (by kernel_rfl)) (fun _ _ _ h => h) (Or.inl ⟨by rfl, ?_⟩) ?_ ?_
                rotate_left
                ·intro w'
                 go_simp
                 with_reducible rfl
                rotate_left
                ·simp only [px_q]
                 rfl
                refine done_ (done_of HT_.out (by kernel_rfl)) ?_
                try go_wp2
                go_meet
                case rel => exact ⟨_, (!t141), px_rf, H', ⟨by have := HJ1.out; have := HJ9.out; have := HK3.out; first | omega | exact Nat.le_refl _⟩, ⟨by first | exact px_bV BK135.out | (rw [← Nbq24.out]; exact px_bV BK135.out)⟩, ⟨by first | exact px_bV BK138.out | (rw [← Nbq24.out]; exact px_bV BK138.out)⟩, ⟨px_h2 HB.out GE135.out GE138.out⟩⟩
               ·rw [if_neg c30] at H
                have c30b0 : (((rd_T38 l0_1 x4_3).f1) == t140) = false := beq_eq_false_iff_ne.mpr c30
                have c30b1 : (((rd_T38 l0_1 x4_3).f1) != t140) = true := bne_iff_ne.mpr c30
                have H' := aM H
                clear H
                try go_wp2
                have n0_ : Aside0 (((((w21.setCell ⟨gb138, 0, none⟩ (.string ((rd_T38 l0_1 x4_3).f0))).setCell ⟨gb138, 1, none⟩ (.int .i64 ((rd_T38 l0_1 x4_3).f1))).setCell ⟨gb138, 2, none⟩ (.int .i64 ((rd_T38 l0_1 x4_3).f2))).setCell ⟨gb138, 3, none⟩ (.bool (true))).heap[gb135]? = some (.cells #[.slice A0_0 l0_0.length c0_0, .slice (some ad137) l0_1.length c0_1] 30 (0, 0))) := ⟨by (with_reducible repeat (first | refine blk_drewN ?_ _ | refine blk_drew ?_ | refine blk_alloc ?_ _)); refine blk_far ?_ NB135_138.out _; (with_reducible repeat (first | refine blk_drewN ?_ _ | refine blk_drew ?_ | refine blk_alloc ?_ _)); refine blk_far ?_ NB135_138.out _; (with_reducible repeat (first | refine blk_drewN ?_ _ | refine blk_drew ?_ | refine blk_alloc ?_ _)); refine blk_far ?_ NB135_138.out _; (with_reducible repeat (first | refine blk_drewN ?_ _ | refine blk_drew ?_ | refine blk_alloc ?_ _)); refine blk_far ?_ NB135_138.out _; (with_reducible repeat (first | refine blk_drewN ?_ _ | refine blk_drew ?_ | refine blk_alloc ?_ _)); exact BK135.out⟩
                have n1_ : Aside0 (((((w21.setCell ⟨gb138, 0, none⟩ (.string ((rd_T38 l0_1 x4_3).f0))).setCell ⟨gb138, 1, none⟩ (.int .i64 ((rd_T38 l0_1 x4_3).f1))).setCell ⟨gb138, 2, none⟩ (.int .i64 ((rd_T38 l0_1 x4_3).f2))).setCell ⟨gb138, 3, none⟩ (.bool (true))).heap[gb138]? = some (.cells #[.string ((rd_T38 l0_1 x4_3).f0), .int .i64 ((rd_T38 l0_1 x4_3).f1), .int .i64 ((rd_T38 l0_1 x4_3).f2), .bool true] 38 (0, 0))) := ⟨by (with_reducible repeat (first | refine blk_drewN ?_ _ | refine blk_drew ?_ | refine blk_alloc ?_ _)); refine blk_put (cs := #[.string ((rd_T38 l0_1 x4_3).f0), .int .i64 ((rd_T38 l0_1 x4_3).f1), .int .i64 ((rd_T38 l0_1 x4_3).f2), .bool false]) ?_ 3 _ rfl; (with_reducible repeat (first | refine blk_drewN ?_ _ | refine blk_drew ?_ | refine blk_alloc ?_ _)); refine blk_put (cs := #[.string ((rd_T38 l0_1 x4_3).f0), .int .i64 ((rd_T38 l0_1 x4_3).f1), .int .i64 0, .bool false]) ?_ 2 _ rfl; (with_reducible repeat (first | refine blk_drewN ?_ _ | refine blk_drew ?_ | refine blk_alloc ?_ _)); refine blk_put (cs := #[.string ((rd_T38 l0_1 x4_3).f0), .int .i64 0, .int .i64 0, .bool false]) ?_ 1 _ rfl; (with_reducible repeat (first | refine blk_drewN ?_ _ | refine blk_drew ?_ | refine blk_alloc ?_ _)); refine blk_put (cs := #[.string (⟨#[]⟩ : ByteArray), .int .i64 0, .int .i64 0, .bool false]) ?_ 0 _ rfl; (with_reducible repeat (first | refine blk_drewN ?_ _ | refine blk_drew ?_ | refine blk_alloc ?_ _)); exact BK138.out⟩
                have n2_ : Aside0 (Below w.heap.size w ((((w21.setCell ⟨gb138, 0, none⟩ (.string ((rd_T38 l0_1 x4_3).f0))).setCell ⟨gb138, 1, none⟩ (.int .i64 ((rd_T38 l0_1 x4_3).f1))).setCell ⟨gb138, 2, none⟩ (.int .i64 ((rd_T38 l0_1 x4_3).f2))).setCell ⟨gb138, 3, none⟩ (.bool (true)))) := ⟨px_h2 HB.out GE135.out GE138.out⟩
                (try clear BK135)
                (try clear BK138)
                (try clear HB)
                generalize ((((w21.setCell ⟨gb138, 0, none⟩ (.string ((rd_T38 l0_1 x4_3).f0))).setCell ⟨gb138, 1, none⟩ (.int .i64 ((rd_T38 l0_1 x4_3).f1))).setCell ⟨gb138, 2, none⟩ (.int .i64 ((rd_T38 l0_1 x4_3).f2))).setCell ⟨gb138, 3, none⟩ (.bool (true))) = w34 at n0_ n1_ n2_ ⊢
                have BK135 := n0_
                have BK138 := n1_
                have HB := n2_
                clear n0_ n1_ n2_
                have n0_ := aM (blk_drew BK135.out)
                have n1_ := aM (blk_drew BK138.out)
                have n2_ := aM (below_drew1 HB.out)
                clear BK135
                clear BK138
                clear HB
                have BK135 := n0_
                have BK138 := n1_
                have HB := n2_
                clear n0_ n1_ n2_
                refine start_ (n := 32) (S := fun w' => w'.cell? ⟨gb138, 0, none⟩ = some (.string ((rd_T38 l0_1 x4_3).f0)) ∧ w'.cell? ⟨gb138, 1, none⟩ = some (.int .i64 ((rd_T38 l0_1 x4_3).f1)) ∧ w'.cell? ⟨gb138, 2, none⟩ = some (.int .i64 ((rd_T38 l0_1 x4_3).f2)) ∧ w'.cell? ⟨gb138, 3, none⟩ = some (.bool true)) (ds := []) (px_l 0 32) (by kernel_rfl) rfl rfl ⟨(blk_cell BK138.out 0).trans rfl, (blk_cell BK138.out 1).trans rfl, (blk_cell BK138.out 2).trans rfl, (blk_cell BK138.out 3).trans rfl⟩ (fun hHeld => ?_); refine with_tabW spec_validDict.tab10 spec_validDict.bits10 (fun HT_ HW_ => ?_)
                generalize w34.drew = w35 at BK135 BK138 HB hHeld ⊢
                refine pure_ (i := 0) (N := some 52) (v := ?_) (a' := ?_) (px_l 1 31) rfl rfl (any_of HT_.out (by kernel_rfl)) (fun _ _ _ h => h) (Or.inl ⟨by rfl, ?_⟩) ?_ ?_
                rotate_left
                ·intro w'
                 go_simp
                 with_reducible rfl
                rotate_left
                ·simp only [px_q]
                 rfl
                refine take_ (i := 1) (N := some 53) (v := ?_) (a' := ?_) (px_l 2 30) rfl rfl (take_ofW HT_.out HW_.out (by kernel_rfl)) (fun _ _ _ h => h) (Or.inl ⟨by rfl, ?_⟩) hHeld ?_ ?_
                rotate_left
                ·rintro w' ⟨s0, s1, s2, s3⟩
                 go_simp
                 with_reducible rfl
                rotate_left
                ·simp only [px_q]
                 rfl
                refine pure_ (i := 2) (N := some 54) (v := ?_) (a' := ?_) (px_l 3 29) rfl rfl (any_of HT_.out (by kernel_rfl)) (fun _ _ _ h => h) (Or.inl ⟨by rfl, ?_⟩) ?_ ?_
                rotate_left
                ·intro w'
                 go_simp
                 with_reducible rfl
                rotate_left
                ·simp only [px_q]
                 rfl
                refine pure_ (i := 3) (N := some 55) (v := ?_) (a' := ?_) (px_l 4 28) rfl rfl (any_of HT_.out (by kernel_rfl)) (fun _ _ _ h => h) (Or.inl ⟨by rfl, ?_⟩) ?_ ?_
                rotate_left
                ·intro w'
                 go_simp
                 with_reducible rfl
                rotate_left
                ·simp only [px_q]
                 rfl
                refine pure_ (i := 4) (N := some 56) (v := undef) (a' := ?_) (px_l 5 27) rfl rfl (any_of HT_.out (by kernel_rfl)) (fun _ _ _ h => h) (Or.inr ⟨by rfl, rfl⟩) ?_ ?_
                rotate_left
                ·simp only [px_q]
                 rfl
                refine pure_ (i := 5) (N := some 57) (v := undef) (a' := ?_) (px_l 6 26) rfl rfl (any_of HT_.out (by kernel_rfl)) (fun _ _ _ h => h) (Or.inr ⟨by rfl, rfl⟩) ?_ ?_
                rotate_left
                ·simp only [px_q]
                 rfl
                refine pure_ (i := 6) (N := some 58) (v := undef) (a' := ?_) (px_l 7 25) rfl rfl (any_of HT_.out (by kernel_rfl)) (fun _ _ _ h => h) (Or.inr ⟨by rfl, rfl⟩) ?_ ?_
                rotate_left
                ·simp only [px_q]
                 rfl
                refine pure_ (i := 7) (N := some 59) (v := ?_) (a' := ?_) (px_l 8 24) rfl rfl (any_of HT_.out (by kernel_rfl)) (fun _ _ _ h => h) (Or.inl ⟨by rfl, ?_⟩) ?_ ?_
                rotate_left
                ·intro w'
                 go_simp
                 with_reducible rfl
                rotate_left
                ·simp only [px_q]
                 rfl
                refine pure_ (i := 8) (N := some 60) (v := ?_) (a' := ?_) (px_l 9 23) rfl rfl (any_of HT_.out (by kernel_rfl)) (fun _ _ _ h => h) (Or.inl ⟨by rfl, ?_⟩) ?_ ?_
                rotate_left
                ·intro w'
                 go_simp
                 with_reducible rfl
                rotate_left
                ·simp only [px_q]
                 rfl
                refine pure_ (i := 9) (N := some 61) (v := ?_) (a' := ?_) (px_l 10 22) rfl rfl (any_of HT_.out (by kernel_rfl)) (fun _ _ _ h => h) (Or.inl ⟨by rfl, ?_⟩) ?_ ?_
                rotate_left
                ·intro w'
                 go_simp
                 with_reducible rfl
                rotate_left
                ·simp only [px_q]
                 rfl
                refine take_ (i := 10) (N := some 62) (v := ?_) (a' := ?_) (px_l 11 21) rfl rfl (take_ofW HT_.out HW_.out (by kernel_rfl)) (fun _ _ _ h => h) (Or.inl ⟨by rfl, ?_⟩) hHeld ?_ ?_
                rotate_left
                ·rintro w' ⟨s0, s1, s2, s3⟩
                 go_simp
                 with_reducible rfl
                rotate_left
                ·simp only [px_q]
                 rfl
                refine one_ (i := 11) (N := some 63) (px_l 12 20) rfl rfl (one_of HT_.out (by kernel_rfl)) (by decide) (fun K hK => ?_)
                refine goes_ Try.func22 (by kernel_rfl) rfl #[.string ((rd_T38 l0_1 x4_3).f0)] (by rfl) rfl rfl px_dn ?_
                with_reducible refine (spec_validKey.calls ((rd_T38 l0_1 x4_3).f0) true _ A26.out).mono ?_
                rintro e w' ⟨rfl, ⟨nd, rfl⟩⟩
                refine ⟨_, rfl, ?_⟩
                refine hK.out _ _ ⟨(blk_cell BK138.out 0).trans rfl, (blk_cell BK138.out 1).trans rfl, (blk_cell BK138.out 2).trans rfl, (blk_cell BK138.out 3).trans rfl⟩ (fun hHeld => ?_)
                clear hK K
                refine norm_ (a' := ?_) ?_ ?_
                rotate_left
                ·show Act.put _ (some 63) _ = _
                 simp only [px_q]
                 rfl
                refine pure_ (i := 12) (N := some 64) (v := ?_) (a' := ?_) (px_l 13 19) rfl rfl (any_of HT_.out (by kernel_rfl)) (fun _ _ _ h => h) (Or.inl ⟨by rfl, ?_⟩) ?_ ?_
                rotate_left
                ·intro w'
                 go_simp
                 with_reducible rfl
                rotate_left
                ·simp only [px_q]
                 rfl
                refine pure_ (i := 13) (N := some 65) (v := ?_) (a' := ?_) (px_l 14 18) rfl rfl (any_of HT_.out (by kernel_rfl)) (fun _ _ _ h => h) (Or.inl ⟨by rfl, ?_⟩) ?_ ?_
                rotate_left
                ·intro w'
                 go_simp
                 with_reducible rfl
                rotate_left
                ·simp only [px_q]
                 rfl
                refine pure_ (i := 14) (N := some 66) (v := ?_) (a' := ?_) (px_l 15 17) rfl rfl (any_of HT_.out (by kernel_rfl)) (fun _ _ _ h => h) (Or.inl ⟨by rfl, ?_⟩) ?_ ?_
                rotate_left
                ·intro w'
                 go_simp
                 with_reducible rfl
                rotate_left
                ·simp only [px_q]
                 rfl
                refine pure_ (i := 15) (N := some 67) (v := ?_) (a' := ?_) (px_l 16 16) rfl rfl (any_of HT_.out (by kernel_rfl)) (fun _ _ _ h => h) (Or.inl ⟨by rfl, ?_⟩) ?_ ?_
                rotate_left
                ·intro w'
                 go_simp
                 with_reducible rfl
                rotate_left
                ·simp only [px_q]
                 rfl
                refine take_ (i := 16) (N := some 68) (v := ?_) (a' := ?_) (px_l 17 15) rfl rfl (take_ofW HT_.out HW_.out (by kernel_rfl)) (fun _ _ _ h => h) (Or.inl ⟨by rfl, ?_⟩) hHeld ?_ ?_
                rotate_left
                ·rintro w' ⟨s0, s1, s2, s3⟩
                 go_simp
                 with_reducible rfl
                rotate_left
                ·simp only [px_q]
                 rfl
                refine pure_ (i := 17) (N := some 69) (v := ?_) (a' := ?_) (px_l 18 14) rfl rfl (any_of HT_.out (by kernel_rfl)) (fun _ _ _ h => h) (Or.inl ⟨by rfl, ?_⟩) ?_ ?_
                rotate_left
                ·intro w'
                 go_simp
                 with_reducible rfl
                rotate_left
                ·simp only [px_q]
                 rfl
                refine pure_ (i := 18) (N := some 70) (v := ?_) (a' := ?_) (px_l 19 13) rfl rfl (any_of HT_.out (by kernel_rfl)) (fun _ _ _ h => h) (Or.inl ⟨by rfl, ?_⟩) ?_ ?_
                rotate_left
                ·intro w'
                 go_simp
                 with_reducible rfl
                rotate_left
                ·simp only [px_q]
                 rfl
                refine pure_ (i := 20) (N := some 72) (v := ?_) (a' := ?_) #[true, true, true, true, true, true, true, true, true, true, true, true, true, true, true, true, true, true, true, false, true, false, false, false, false, false, false, false, false, false, false, false] rfl rfl (any_of HT_.out (by kernel_rfl)) (fun _ _ _ h => h) (Or.inl ⟨by rfl, ?_⟩) ?_ ?_
                rotate_left
                ·intro w'
                 go_simp
                 with_reducible rfl
                rotate_left
                ·simp only [px_q]
                 rfl
                refine take_ (i := 19) (N := some 71) (v := ?_) (a' := ?_) (px_l 21 11) rfl rfl (take_ofW HT_.out HW_.out (by kernel_rfl)) (fun _ _ _ h => h) (Or.inl ⟨by rfl, ?_⟩) hHeld ?_ ?_
                rotate_left
                ·rintro w' ⟨s0, s1, s2, s3⟩
                 go_simp
                 with_reducible rfl
                rotate_left
                ·simp only [px_q]
                 rfl
                refine take_ (i := 21) (N := some 73) (v := ?_) (a' := ?_) (px_l 22 10) rfl rfl (take_ofW HT_.out HW_.out (by kernel_rfl)) (fun _ _ _ h => h) (Or.inl ⟨by rfl, ?_⟩) hHeld ?_ ?_
                rotate_left
                ·rintro w' ⟨s0, s1, s2, s3⟩
                 go_simp
                 with_reducible rfl
                rotate_left
                ·simp only [px_q]
                 rfl
                refine one_ (i := 22) (N := some 74) (px_l 23 9) rfl rfl (one_of HT_.out (by kernel_rfl)) (by decide) (fun K hK => ?_)
                refine goes_ Try.func23 (by kernel_rfl) rfl #[.string ((rd_T38 l0_1 x4_3).f0)] (by rfl) rfl rfl px_dn ?_
                with_reducible refine (spec_hashOf.calls k3 ((rd_T38 l0_1 x4_3).f0) t140 _ A29.out).mono ?_
                rintro e w' ⟨rfl, ⟨nd, rfl⟩⟩
                refine ⟨_, rfl, ?_⟩
                refine hK.out _ _ ⟨(blk_cell BK138.out 0).trans rfl, (blk_cell BK138.out 1).trans rfl, (blk_cell BK138.out 2).trans rfl, (blk_cell BK138.out 3).trans rfl⟩ (fun hHeld => ?_)
                clear hK K
                refine norm_ (a' := ?_) ?_ ?_
                rotate_left
                ·show Act.put _ (some 74) _ = _
                 simp only [px_q]
                 rfl
                refine pure_ (i := 23) (N := some 75) (v := ?_) (a' := ?_) (px_l 24 8) rfl rfl (any_of HT_.out (by kernel_rfl)) (fun _ _ _ h => h) (Or.inl ⟨by rfl, ?_⟩) ?_ ?_
                rotate_left
                ·intro w'
                 go_simp
                 with_reducible rfl
                rotate_left
                ·simp only [px_q]
                 rfl
                refine pure_ (i := 24) (N := some 76) (v := ?_) (a' := ?_) (px_l 25 7) rfl rfl (any_of HT_.out (by kernel_rfl)) (fun _ _ _ h => h) (Or.inl ⟨by rfl, ?_⟩) ?_ ?_
                rotate_left
                ·intro w'
                 go_simp
                 with_reducible rfl
                rotate_left
                ·simp only [px_q]
                 rfl
                refine pure_ (i := 25) (N := some 77) (v := ?_) (a' := ?_) (px_l 26 6) rfl rfl (any_of HT_.out (by kernel_rfl)) (fun _ _ _ h => h) (Or.inl ⟨by rfl, ?_⟩) ?_ ?_
                rotate_left
                ·intro w'
                 go_simp
                 with_reducible rfl
                rotate_left
                ·simp only [px_q]
                 rfl
                refine pure_ (i := 26) (N := some 78) (v := ?_) (a' := ?_) (px_l 27 5) rfl rfl (any_of HT_.out (by kernel_rfl)) (fun _ _ _ h => h) (Or.inl ⟨by rfl, ?_⟩) ?_ ?_
                rotate_left
                ·intro w'
                 go_simp
                 with_reducible rfl
                rotate_left
                ·simp only [px_q]
                 rfl
                refine pure_ (i := 27) (N := some 79) (v := undef) (a' := ?_) (px_l 28 4) rfl rfl (any_of HT_.out (by kernel_rfl)) (fun _ _ _ h => h) (Or.inr ⟨by rfl, rfl⟩) ?_ ?_
                rotate_left
                ·simp only [px_q]
                 rfl
                refine pure_ (i := 28) (N := some 80) (v := undef) (a' := ?_) (px_l 29 3) rfl rfl (any_of HT_.out (by kernel_rfl)) (fun _ _ _ h => h) (Or.inr ⟨by rfl, rfl⟩) ?_ ?_
                rotate_left
                ·simp only [px_q]
                 rfl
                refine pure_ (i := 29) (N := some 81) (v := undef) (a' := ?_) (px_l 30 2) rfl rfl (any_of HT_.out (by kernel_rfl)) (fun _ _ _ h => h) (Or.inr ⟨by rfl, rfl⟩) ?_ ?_
                rotate_left
                ·simp only [px_q]
                 rfl
                refine pure_ (i := 30) (N := some 82) (v := undef) (a' := ?_) (px_l 31 1) rfl rfl (any_of HT_.out (by kernel_rfl)) (fun _ _ _ h => h) (Or.inr ⟨by rfl, rfl⟩) ?_ ?_
                rotate_left
                ·simp only [px_q]
                 rfl
                refine pure_ (i := 31) (N := some 83) (v := ?_) (a' := ?_) (px_l 32 0) rfl rfl (any_of HT_.out (by kernel_rfl)) (fun _ _ _ h => h) (Or.inl ⟨by rfl, ?_⟩) ?_ ?_
                rotate_left
                ·intro w'
                 go_simp
                 with_reducible rfl
                rotate_left
                ·simp only [px_q]
                 rfl
                refine done_ (done_of HT_.out (by kernel_rfl)) ?_
                try go_wp2
                go_meet
                case rel => exact ⟨_, (true), px_rf, H', ⟨by have := HJ1.out; have := HJ9.out; have := HK3.out; first | omega | exact Nat.le_refl _⟩, ⟨by first | exact px_bV BK135.out | (rw [← Nbq24.out]; exact px_bV BK135.out)⟩, ⟨by first | exact px_bV BK138.out | (rw [← Nbq24.out]; exact px_bV BK138.out)⟩, ⟨px_h2 HB.out GE135.out GE138.out⟩⟩
              ·exact absurd rfl c28
             ·replace c27 := Bool.eq_false_iff.mpr c27
              subst c27
              have H1 : (spec_validDict.j3 k3 x4_3 true l0_0 l0_1) = some r := by rw [if_neg (show ¬ (false = true) by decide)] at H; exact H
              clear H
              have H := H1
              clear H1
              have H' := aM H
              clear H
              try go_wp2
              have n0_ : Aside0 (((((w21.setCell ⟨gb138, 0, none⟩ (.string ((rd_T38 l0_1 x4_3).f0))).setCell ⟨gb138, 1, none⟩ (.int .i64 ((rd_T38 l0_1 x4_3).f1))).setCell ⟨gb138, 2, none⟩ (.int .i64 ((rd_T38 l0_1 x4_3).f2))).setCell ⟨gb138, 3, none⟩ (.bool (true))).heap[gb135]? = some (.cells #[.slice A0_0 l0_0.length c0_0, .slice (some ad137) l0_1.length c0_1] 30 (0, 0))) := ⟨by (with_reducible repeat (first | refine blk_drewN ?_ _ | refine blk_drew ?_ | refine blk_alloc ?_ _)); refine blk_far ?_ NB135_138.out _; (with_reducible repeat (first | refine blk_drewN ?_ _ | refine blk_drew ?_ | refine blk_alloc ?_ _)); refine blk_far ?_ NB135_138.out _; (with_reducible repeat (first | refine blk_drewN ?_ _ | refine blk_drew ?_ | refine blk_alloc ?_ _)); refine blk_far ?_ NB135_138.out _; (with_reducible repeat (first | refine blk_drewN ?_ _ | refine blk_drew ?_ | refine blk_alloc ?_ _)); refine blk_far ?_ NB135_138.out _; (with_reducible repeat (first | refine blk_drewN ?_ _ | refine blk_drew ?_ | refine blk_alloc ?_ _)); exact BK135.out⟩
              have n1_ : Aside0 (((((w21.setCell ⟨gb138, 0, none⟩ (.string ((rd_T38 l0_1 x4_3).f0))).setCell ⟨gb138, 1, none⟩ (.int .i64 ((rd_T38 l0_1 x4_3).f1))).setCell ⟨gb138, 2, none⟩ (.int .i64 ((rd_T38 l0_1 x4_3).f2))).setCell ⟨gb138, 3, none⟩ (.bool (true))).heap[gb138]? = some (.cells #[.string ((rd_T38 l0_1 x4_3).f0), .int .i64 ((rd_T38 l0_1 x4_3).f1), .int .i64 ((rd_T38 l0_1 x4_3).f2), .bool true] 38 (0, 0))) := ⟨by (with_reducible repeat (first | refine blk_drewN ?_ _ | refine blk_drew ?_ | refine blk_alloc ?_ _)); refine blk_put (cs := #[.string ((rd_T38 l0_1 x4_3).f0), .int .i64 ((rd_T38 l0_1 x4_3).f1), .int .i64 ((rd_T38 l0_1 x4_3).f2), .bool false]) ?_ 3 _ rfl; (with_reducible repeat (first | refine blk_drewN ?_ _ | refine blk_drew ?_ | refine blk_alloc ?_ _)); refine blk_put (cs := #[.string ((rd_T38 l0_1 x4_3).f0), .int .i64 ((rd_T38 l0_1 x4_3).f1), .int .i64 0, .bool false]) ?_ 2 _ rfl; (with_reducible repeat (first | refine blk_drewN ?_ _ | refine blk_drew ?_ | refine blk_alloc ?_ _)); refine blk_put (cs := #[.string ((rd_T38 l0_1 x4_3).f0), .int .i64 0, .int .i64 0, .bool false]) ?_ 1 _ rfl; (with_reducible repeat (first | refine blk_drewN ?_ _ | refine blk_drew ?_ | refine blk_alloc ?_ _)); refine blk_put (cs := #[.string (⟨#[]⟩ : ByteArray), .int .i64 0, .int .i64 0, .bool false]) ?_ 0 _ rfl; (with_reducible repeat (first | refine blk_drewN ?_ _ | refine blk_drew ?_ | refine blk_alloc ?_ _)); exact BK138.out⟩
              have n2_ : Aside0 (Below w.heap.size w ((((w21.setCell ⟨gb138, 0, none⟩ (.string ((rd_T38 l0_1 x4_3).f0))).setCell ⟨gb138, 1, none⟩ (.int .i64 ((rd_T38 l0_1 x4_3).f1))).setCell ⟨gb138, 2, none⟩ (.int .i64 ((rd_T38 l0_1 x4_3).f2))).setCell ⟨gb138, 3, none⟩ (.bool (true)))) := ⟨px_h2 HB.out GE135.out GE138.out⟩
              (try clear BK135)
              (try clear BK138)
              (try clear HB)
              generalize ((((w21.setCell ⟨gb138, 0, none⟩ (.string ((rd_T38 l0_1 x4_3).f0))).setCell ⟨gb138, 1, none⟩ (.int .i64 ((rd_T38 l0_1 x4_3).f1))).setCell ⟨gb138, 2, none⟩ (.int .i64 ((rd_T38 l0_1 x4_3).f2))).setCell ⟨gb138, 3, none⟩ (.bool (true))) = w39 at n0_ n1_ n2_ ⊢
              have BK135 := n0_
              have BK138 := n1_
              have HB := n2_
              clear n0_ n1_ n2_
              have n0_ := aM (blk_drew BK135.out)
              have n1_ := aM (blk_drew BK138.out)
              have n2_ := aM (below_drew1 HB.out)
              clear BK135
              clear BK138
              clear HB
              have BK135 := n0_
              have BK138 := n1_
              have HB := n2_
              clear n0_ n1_ n2_
              refine start_ (n := 32) (S := fun w' => w'.cell? ⟨gb138, 0, none⟩ = some (.string ((rd_T38 l0_1 x4_3).f0)) ∧ w'.cell? ⟨gb138, 1, none⟩ = some (.int .i64 ((rd_T38 l0_1 x4_3).f1)) ∧ w'.cell? ⟨gb138, 2, none⟩ = some (.int .i64 ((rd_T38 l0_1 x4_3).f2)) ∧ w'.cell? ⟨gb138, 3, none⟩ = some (.bool true)) (ds := []) (px_l 0 32) (by kernel_rfl) rfl rfl ⟨(blk_cell BK138.out 0).trans rfl, (blk_cell BK138.out 1).trans rfl, (blk_cell BK138.out 2).trans rfl, (blk_cell BK138.out 3).trans rfl⟩ (fun hHeld => ?_); refine with_tabW spec_validDict.tab10 spec_validDict.bits10 (fun HT_ HW_ => ?_)
              generalize w39.drew = w40 at BK135 BK138 HB hHeld ⊢
              refine pure_ (i := 0) (N := some 52) (v := ?_) (a' := ?_) (px_l 1 31) rfl rfl (any_of HT_.out (by kernel_rfl)) (fun _ _ _ h => h) (Or.inl ⟨by rfl, ?_⟩) ?_ ?_
              rotate_left
              ·intro w'
               go_simp
               with_reducible rfl
              rotate_left
              ·simp only [px_q]
               rfl
              refine take_ (i := 1) (N := some 53) (v := ?_) (a' := ?_) (px_l 2 30) rfl rfl (take_ofW HT_.out HW_.out (by kernel_rfl)) (fun _ _ _ h => h) (Or.inl ⟨by rfl, ?_⟩) hHeld ?_ ?_
              rotate_left
              ·rintro w' ⟨s0, s1, s2, s3⟩
               go_simp
               with_reducible rfl
              rotate_left
              ·simp only [px_q]
               rfl
              refine pure_ (i := 2) (N := some 54) (v := ?_) (a' := ?_) (px_l 3 29) rfl rfl (any_of HT_.out (by kernel_rfl)) (fun _ _ _ h => h) (Or.inl ⟨by rfl, ?_⟩) ?_ ?_
              rotate_left
              ·intro w'
               go_simp
               with_reducible rfl
              rotate_left
              ·simp only [px_q]
               rfl
              refine pure_ (i := 3) (N := some 55) (v := ?_) (a' := ?_) (px_l 4 28) rfl rfl (any_of HT_.out (by kernel_rfl)) (fun _ _ _ h => h) (Or.inl ⟨by rfl, ?_⟩) ?_ ?_
              rotate_left
              ·intro w'
               go_simp
               with_reducible rfl
              rotate_left
              ·simp only [px_q]
               rfl
              refine pure_ (i := 4) (N := some 56) (v := undef) (a' := ?_) (px_l 5 27) rfl rfl (any_of HT_.out (by kernel_rfl)) (fun _ _ _ h => h) (Or.inr ⟨by rfl, rfl⟩) ?_ ?_
              rotate_left
              ·simp only [px_q]
               rfl
              refine pure_ (i := 5) (N := some 57) (v := undef) (a' := ?_) (px_l 6 26) rfl rfl (any_of HT_.out (by kernel_rfl)) (fun _ _ _ h => h) (Or.inr ⟨by rfl, rfl⟩) ?_ ?_
              rotate_left
              ·simp only [px_q]
               rfl
              refine pure_ (i := 6) (N := some 58) (v := undef) (a' := ?_) (px_l 7 25) rfl rfl (any_of HT_.out (by kernel_rfl)) (fun _ _ _ h => h) (Or.inr ⟨by rfl, rfl⟩) ?_ ?_
              rotate_left
              ·simp only [px_q]
               rfl
              refine pure_ (i := 7) (N := some 59) (v := ?_) (a' := ?_) (px_l 8 24) rfl rfl (any_of HT_.out (by kernel_rfl)) (fun _ _ _ h => h) (Or.inl ⟨by rfl, ?_⟩) ?_ ?_
              rotate_left
              ·intro w'
               go_simp
               with_reducible rfl
              rotate_left
              ·simp only [px_q]
               rfl
              refine pure_ (i := 8) (N := some 60) (v := ?_) (a' := ?_) (px_l 9 23) rfl rfl (any_of HT_.out (by kernel_rfl)) (fun _ _ _ h => h) (Or.inl ⟨by rfl, ?_⟩) ?_ ?_
              rotate_left
              ·intro w'
               go_simp
               with_reducible rfl
              rotate_left
              ·simp only [px_q]
               rfl
              refine pure_ (i := 9) (N := some 61) (v := ?_) (a' := ?_) (px_l 10 22) rfl rfl (any_of HT_.out (by kernel_rfl)) (fun _ _ _ h => h) (Or.inl ⟨by rfl, ?_⟩) ?_ ?_
              rotate_left
              ·intro w'
               go_simp
               with_reducible rfl
              rotate_left
              ·simp only [px_q]
               rfl
              refine take_ (i := 10) (N := some 62) (v := ?_) (a' := ?_) (px_l 11 21) rfl rfl (take_ofW HT_.out HW_.out (by kernel_rfl)) (fun _ _ _ h => h) (Or.inl ⟨by rfl, ?_⟩) hHeld ?_ ?_
              rotate_left
              ·rintro w' ⟨s0, s1, s2, s3⟩
               go_simp
               with_reducible rfl
              rotate_left
              ·simp only [px_q]
               rfl
              refine one_ (i := 11) (N := some 63) (px_l 12 20) rfl rfl (one_of HT_.out (by kernel_rfl)) (by decide) (fun K hK => ?_)
              refine goes_ Try.func22 (by kernel_rfl) rfl #[.string ((rd_T38 l0_1 x4_3).f0)] (by rfl) rfl rfl px_dn ?_
              with_reducible refine (spec_validKey.calls ((rd_T38 l0_1 x4_3).f0) false _ A26.out).mono ?_
              rintro e w' ⟨rfl, ⟨nd, rfl⟩⟩
              refine ⟨_, rfl, ?_⟩
              refine hK.out _ _ ⟨(blk_cell BK138.out 0).trans rfl, (blk_cell BK138.out 1).trans rfl, (blk_cell BK138.out 2).trans rfl, (blk_cell BK138.out 3).trans rfl⟩ (fun hHeld => ?_)
              clear hK K
              refine norm_ (a' := ?_) ?_ ?_
              rotate_left
              ·show Act.put _ (some 63) _ = _
               simp only [px_q]
               rfl
              refine pure_ (i := 12) (N := some 64) (v := ?_) (a' := ?_) (px_l 13 19) rfl rfl (any_of HT_.out (by kernel_rfl)) (fun _ _ _ h => h) (Or.inl ⟨by rfl, ?_⟩) ?_ ?_
              rotate_left
              ·intro w'
               go_simp
               with_reducible rfl
              rotate_left
              ·simp only [px_q]
               rfl
              refine pure_ (i := 13) (N := some 65) (v := ?_) (a' := ?_) (px_l 14 18) rfl rfl (any_of HT_.out (by kernel_rfl)) (fun _ _ _ h => h) (Or.inl ⟨by rfl, ?_⟩) ?_ ?_
              rotate_left
              ·intro w'
               go_simp
               with_reducible rfl
              rotate_left
              ·simp only [px_q]
               rfl
              refine pure_ (i := 14) (N := some 66) (v := ?_) (a' := ?_) (px_l 15 17) rfl rfl (any_of HT_.out (by kernel_rfl)) (fun _ _ _ h => h) (Or.inl ⟨by rfl, ?_⟩) ?_ ?_
              rotate_left
              ·intro w'
               go_simp
               with_reducible rfl
              rotate_left
              ·simp only [px_q]
               rfl
              refine pure_ (i := 15) (N := some 67) (v := undef) (a' := ?_) (px_l 16 16) rfl rfl (any_of HT_.out (by kernel_rfl)) (fun _ _ _ h => h) (Or.inr ⟨by rfl, rfl⟩) ?_ ?_
              rotate_left
              ·simp only [px_q]
               rfl
              refine pure_ (i := 16) (N := some 68) (v := undef) (a' := ?_) (px_l 17 15) rfl rfl (any_of HT_.out (by kernel_rfl)) (fun _ _ _ h => h) (Or.inr ⟨by rfl, rfl⟩) ?_ ?_
              rotate_left
              ·simp only [px_q]
               rfl
              refine pure_ (i := 17) (N := some 69) (v := undef) (a' := ?_) (px_l 18 14) rfl rfl (any_of HT_.out (by kernel_rfl)) (fun _ _ _ h => h) (Or.inr ⟨by rfl, rfl⟩) ?_ ?_
              rotate_left
              ·simp only [px_q]
               rfl
              refine pure_ (i := 18) (N := some 70) (v := undef) (a' := ?_) (px_l 19 13) rfl rfl (any_of HT_.out (by kernel_rfl)) (fun _ _ _ h => h) (Or.inr ⟨by rfl, rfl⟩) ?_ ?_
              rotate_left
              ·simp only [px_q]
               rfl
              refine pure_ (i := 19) (N := some 71) (v := undef) (a' := ?_) (px_l 20 12) rfl rfl (any_of HT_.out (by kernel_rfl)) (fun _ _ _ h => h) (Or.inr ⟨by rfl, rfl⟩) ?_ ?_
              rotate_left
              ·simp only [px_q]
               rfl
              refine pure_ (i := 20) (N := some 72) (v := undef) (a' := ?_) (px_l 21 11) rfl rfl (any_of HT_.out (by kernel_rfl)) (fun _ _ _ h => h) (Or.inr ⟨by rfl, rfl⟩) ?_ ?_
              rotate_left
              ·simp only [px_q]
               rfl
              refine pure_ (i := 21) (N := some 73) (v := undef) (a' := ?_) (px_l 22 10) rfl rfl (any_of HT_.out (by kernel_rfl)) (fun _ _ _ h => h) (Or.inr ⟨by rfl, rfl⟩) ?_ ?_
              rotate_left
              ·simp only [px_q]
               rfl
              refine pure_ (i := 22) (N := some 74) (v := undef) (a' := ?_) (px_l 23 9) rfl rfl (any_of HT_.out (by kernel_rfl)) (fun _ _ _ h => h) (Or.inr ⟨by rfl, rfl⟩) ?_ ?_
              rotate_left
              ·simp only [px_q]
               rfl
              refine pure_ (i := 23) (N := some 75) (v := undef) (a' := ?_) (px_l 24 8) rfl rfl (any_of HT_.out (by kernel_rfl)) (fun _ _ _ h => h) (Or.inr ⟨by rfl, rfl⟩) ?_ ?_
              rotate_left
              ·simp only [px_q]
               rfl
              refine pure_ (i := 24) (N := some 76) (v := undef) (a' := ?_) (px_l 25 7) rfl rfl (any_of HT_.out (by kernel_rfl)) (fun _ _ _ h => h) (Or.inr ⟨by rfl, rfl⟩) ?_ ?_
              rotate_left
              ·simp only [px_q]
               rfl
              refine pure_ (i := 25) (N := some 77) (v := ?_) (a' := ?_) (px_l 26 6) rfl rfl (any_of HT_.out (by kernel_rfl)) (fun _ _ _ h => h) (Or.inl ⟨by rfl, ?_⟩) ?_ ?_
              rotate_left
              ·intro w'
               go_simp
               with_reducible rfl
              rotate_left
              ·simp only [px_q]
               rfl
              refine pure_ (i := 26) (N := some 78) (v := ?_) (a' := ?_) (px_l 27 5) rfl rfl (any_of HT_.out (by kernel_rfl)) (fun _ _ _ h => h) (Or.inl ⟨by rfl, ?_⟩) ?_ ?_
              rotate_left
              ·intro w'
               go_simp
               with_reducible rfl
              rotate_left
              ·simp only [px_q]
               rfl
              refine pure_ (i := 27) (N := some 79) (v := undef) (a' := ?_) (px_l 28 4) rfl rfl (any_of HT_.out (by kernel_rfl)) (fun _ _ _ h => h) (Or.inr ⟨by rfl, rfl⟩) ?_ ?_
              rotate_left
              ·simp only [px_q]
               rfl
              refine pure_ (i := 28) (N := some 80) (v := undef) (a' := ?_) (px_l 29 3) rfl rfl (any_of HT_.out (by kernel_rfl)) (fun _ _ _ h => h) (Or.inr ⟨by rfl, rfl⟩) ?_ ?_
              rotate_left
              ·simp only [px_q]
               rfl
              refine pure_ (i := 29) (N := some 81) (v := undef) (a' := ?_) (px_l 30 2) rfl rfl (any_of HT_.out (by kernel_rfl)) (fun _ _ _ h => h) (Or.inr ⟨by rfl, rfl⟩) ?_ ?_
              rotate_left
              ·simp only [px_q]
               rfl
              refine pure_ (i := 30) (N := some 82) (v := undef) (a' := ?_) (px_l 31 1) rfl rfl (any_of HT_.out (by kernel_rfl)) (fun _ _ _ h => h) (Or.inr ⟨by rfl, rfl⟩) ?_ ?_
              rotate_left
              ·simp only [px_q]
               rfl
              refine pure_ (i := 31) (N := some 83) (v := ?_) (a' := ?_) (px_l 32 0) rfl rfl (any_of HT_.out (by kernel_rfl)) (fun _ _ _ h => h) (Or.inl ⟨by rfl, ?_⟩) ?_ ?_
              rotate_left
              ·intro w'
               go_simp
               with_reducible rfl
              rotate_left
              ·simp only [px_q]
               rfl
              refine done_ (done_of HT_.out (by kernel_rfl)) ?_
              try go_wp2
              go_meet
              case rel => exact ⟨_, (true), px_rf, H', ⟨by have := HJ1.out; have := HJ9.out; have := HK3.out; first | omega | exact Nat.le_refl _⟩, ⟨by first | exact px_bV BK135.out | (rw [← Nbq24.out]; exact px_bV BK135.out)⟩, ⟨by first | exact px_bV BK138.out | (rw [← Nbq24.out]; exact px_bV BK138.out)⟩, ⟨px_h2 HB.out GE135.out GE138.out⟩⟩
            ·replace c25 := Bool.eq_false_iff.mpr c25
             subst c25
             have H1 : (if (!((((rd_T38 l0_1 x4_3).f0).toList) == ([] : List UInt8)) || (!(((rd_T38 l0_1 x4_3).f1) == 0) || (!(((rd_T38 l0_1 x4_3).f2) == 0) || ((false))))) = true then (spec_validDict.j3 k3 x4_3 true l0_0 l0_1) else ((spec_validKey.f ((rd_T38 l0_1 x4_3).f0)).bind fun t143 => (if t143 = true then (if false = true then ((spec_hashOf.f k3 ((rd_T38 l0_1 x4_3).f0)).bind fun t144 => (if ((rd_T38 l0_1 x4_3).f1) = t144 then ((spec_inRange.f ((rd_T38 l0_1 x4_3).f2) (-1000000) 1000000).bind fun t145 => (spec_validDict.j3 k3 x4_3 (!t145) l0_0 l0_1)) else (spec_validDict.j3 k3 x4_3 true l0_0 l0_1))) else ((spec_inRange.f ((rd_T38 l0_1 x4_3).f2) (-1000000) 1000000).bind fun t146 => (spec_validDict.j3 k3 x4_3 (!t146) l0_0 l0_1))) else (spec_validDict.j3 k3 x4_3 true l0_0 l0_1)))) = some r := by rw [if_neg (show ¬ (false = true) by decide)] at H; exact H
             clear H
             have H := H1
             clear H1
             by_cases c41 : (!((((rd_T38 l0_1 x4_3).f0).toList) == ([] : List UInt8)) || (!(((rd_T38 l0_1 x4_3).f1) == 0) || (!(((rd_T38 l0_1 x4_3).f2) == 0) || ((false))))) = true
             ·rw [if_pos c41] at H
              have c41b0 : (!((((rd_T38 l0_1 x4_3).f0).toList) == ([] : List UInt8)) || (!(((rd_T38 l0_1 x4_3).f1) == 0) || (!(((rd_T38 l0_1 x4_3).f2) == 0) || ((false))))) = true := c41
              (try have c41b1 : (!(((rd_T38 l0_1 x4_3).f0).toList.isEmpty) || (!(((rd_T38 l0_1 x4_3).f1) == 0) || (!(((rd_T38 l0_1 x4_3).f2) == 0)))) = true := by simpa using c41b0)
              clear c41
              have H' := aM H
              clear H
              try go_wp2
              have n0_ : Aside0 (((((w21.setCell ⟨gb138, 0, none⟩ (.string ((rd_T38 l0_1 x4_3).f0))).setCell ⟨gb138, 1, none⟩ (.int .i64 ((rd_T38 l0_1 x4_3).f1))).setCell ⟨gb138, 2, none⟩ (.int .i64 ((rd_T38 l0_1 x4_3).f2))).setCell ⟨gb138, 3, none⟩ (.bool (false))).heap[gb135]? = some (.cells #[.slice A0_0 l0_0.length c0_0, .slice (some ad137) l0_1.length c0_1] 30 (0, 0))) := ⟨by (with_reducible repeat (first | refine blk_drewN ?_ _ | refine blk_drew ?_ | refine blk_alloc ?_ _)); refine blk_far ?_ NB135_138.out _; (with_reducible repeat (first | refine blk_drewN ?_ _ | refine blk_drew ?_ | refine blk_alloc ?_ _)); refine blk_far ?_ NB135_138.out _; (with_reducible repeat (first | refine blk_drewN ?_ _ | refine blk_drew ?_ | refine blk_alloc ?_ _)); refine blk_far ?_ NB135_138.out _; (with_reducible repeat (first | refine blk_drewN ?_ _ | refine blk_drew ?_ | refine blk_alloc ?_ _)); refine blk_far ?_ NB135_138.out _; (with_reducible repeat (first | refine blk_drewN ?_ _ | refine blk_drew ?_ | refine blk_alloc ?_ _)); exact BK135.out⟩
              have n1_ : Aside0 (((((w21.setCell ⟨gb138, 0, none⟩ (.string ((rd_T38 l0_1 x4_3).f0))).setCell ⟨gb138, 1, none⟩ (.int .i64 ((rd_T38 l0_1 x4_3).f1))).setCell ⟨gb138, 2, none⟩ (.int .i64 ((rd_T38 l0_1 x4_3).f2))).setCell ⟨gb138, 3, none⟩ (.bool (false))).heap[gb138]? = some (.cells #[.string ((rd_T38 l0_1 x4_3).f0), .int .i64 ((rd_T38 l0_1 x4_3).f1), .int .i64 ((rd_T38 l0_1 x4_3).f2), .bool false] 38 (0, 0))) := ⟨by (with_reducible repeat (first | refine blk_drewN ?_ _ | refine blk_drew ?_ | refine blk_alloc ?_ _)); refine blk_put (cs := #[.string ((rd_T38 l0_1 x4_3).f0), .int .i64 ((rd_T38 l0_1 x4_3).f1), .int .i64 ((rd_T38 l0_1 x4_3).f2), .bool false]) ?_ 3 _ rfl; (with_reducible repeat (first | refine blk_drewN ?_ _ | refine blk_drew ?_ | refine blk_alloc ?_ _)); refine blk_put (cs := #[.string ((rd_T38 l0_1 x4_3).f0), .int .i64 ((rd_T38 l0_1 x4_3).f1), .int .i64 0, .bool false]) ?_ 2 _ rfl; (with_reducible repeat (first | refine blk_drewN ?_ _ | refine blk_drew ?_ | refine blk_alloc ?_ _)); refine blk_put (cs := #[.string ((rd_T38 l0_1 x4_3).f0), .int .i64 0, .int .i64 0, .bool false]) ?_ 1 _ rfl; (with_reducible repeat (first | refine blk_drewN ?_ _ | refine blk_drew ?_ | refine blk_alloc ?_ _)); refine blk_put (cs := #[.string (⟨#[]⟩ : ByteArray), .int .i64 0, .int .i64 0, .bool false]) ?_ 0 _ rfl; (with_reducible repeat (first | refine blk_drewN ?_ _ | refine blk_drew ?_ | refine blk_alloc ?_ _)); exact BK138.out⟩
              have n2_ : Aside0 (Below w.heap.size w ((((w21.setCell ⟨gb138, 0, none⟩ (.string ((rd_T38 l0_1 x4_3).f0))).setCell ⟨gb138, 1, none⟩ (.int .i64 ((rd_T38 l0_1 x4_3).f1))).setCell ⟨gb138, 2, none⟩ (.int .i64 ((rd_T38 l0_1 x4_3).f2))).setCell ⟨gb138, 3, none⟩ (.bool (false)))) := ⟨px_h2 HB.out GE135.out GE138.out⟩
              (try clear BK135)
              (try clear BK138)
              (try clear HB)
              generalize ((((w21.setCell ⟨gb138, 0, none⟩ (.string ((rd_T38 l0_1 x4_3).f0))).setCell ⟨gb138, 1, none⟩ (.int .i64 ((rd_T38 l0_1 x4_3).f1))).setCell ⟨gb138, 2, none⟩ (.int .i64 ((rd_T38 l0_1 x4_3).f2))).setCell ⟨gb138, 3, none⟩ (.bool (false))) = w42 at n0_ n1_ n2_ ⊢
              have BK135 := n0_
              have BK138 := n1_
              have HB := n2_
              clear n0_ n1_ n2_
              have n0_ := aM (blk_drew BK135.out)
              have n1_ := aM (blk_drew BK138.out)
              have n2_ := aM (below_drew1 HB.out)
              clear BK135
              clear BK138
              clear HB
              have BK135 := n0_
              have BK138 := n1_
              have HB := n2_
              clear n0_ n1_ n2_
              refine start_ (n := 32) (S := fun w' => w'.cell? ⟨gb138, 0, none⟩ = some (.string ((rd_T38 l0_1 x4_3).f0)) ∧ w'.cell? ⟨gb138, 1, none⟩ = some (.int .i64 ((rd_T38 l0_1 x4_3).f1)) ∧ w'.cell? ⟨gb138, 2, none⟩ = some (.int .i64 ((rd_T38 l0_1 x4_3).f2)) ∧ w'.cell? ⟨gb138, 3, none⟩ = some (.bool false)) (ds := []) (px_l 0 32) (by kernel_rfl) rfl rfl ⟨(blk_cell BK138.out 0).trans rfl, (blk_cell BK138.out 1).trans rfl, (blk_cell BK138.out 2).trans rfl, (blk_cell BK138.out 3).trans rfl⟩ (fun hHeld => ?_); refine with_tabW spec_validDict.tab10 spec_validDict.bits10 (fun HT_ HW_ => ?_)
              generalize w42.drew = w43 at BK135 BK138 HB hHeld ⊢
              refine pure_ (i := 0) (N := some 52) (v := ?_) (a' := ?_) (px_l 1 31) rfl rfl (any_of HT_.out (by kernel_rfl)) (fun _ _ _ h => h) (Or.inl ⟨by rfl, ?_⟩) ?_ ?_
              rotate_left
              ·intro w'
               go_simp
               with_reducible rfl
              rotate_left
              ·simp only [px_q]
               rfl
              refine take_ (i := 1) (N := some 53) (v := ?_) (a' := ?_) (px_l 2 30) rfl rfl (take_ofW HT_.out HW_.out (by kernel_rfl)) (fun _ _ _ h => h) (Or.inl ⟨by rfl, ?_⟩) hHeld ?_ ?_
              rotate_left
              ·rintro w' ⟨s0, s1, s2, s3⟩
               go_simp
               with_reducible rfl
              rotate_left
              ·simp only [px_q]
               rfl
              refine pure_ (i := 2) (N := some 54) (v := ?_) (a' := ?_) (px_l 3 29) rfl rfl (any_of HT_.out (by kernel_rfl)) (fun _ _ _ h => h) (Or.inl ⟨by rfl, ?_⟩) ?_ ?_
              rotate_left
              ·intro w'
               go_simp
               with_reducible rfl
              rotate_left
              ·simp only [px_q]
               rfl
              refine pure_ (i := 3) (N := some 55) (v := ?_) (a' := ?_) (px_l 4 28) rfl rfl (any_of HT_.out (by kernel_rfl)) (fun _ _ _ h => h) (Or.inl ⟨by rfl, ?_⟩) ?_ ?_
              rotate_left
              ·intro w'
               go_simp
               with_reducible rfl
              rotate_left
              ·simp only [px_q]
               rfl
              refine pure_ (i := 5) (N := some 57) (v := ?_) (a' := ?_) #[true, true, true, true, false, true, false, false, false, false, false, false, false, false, false, false, false, false, false, false, false, false, false, false, false, false, false, false, false, false, false, false] rfl rfl (any_of HT_.out (by kernel_rfl)) (fun _ _ _ h => h) (Or.inl ⟨by rfl, ?_⟩) ?_ ?_
              rotate_left
              ·intro w'
               go_simp
               with_reducible rfl
              rotate_left
              ·simp only [px_q]
               rfl
              refine take_ (i := 4) (N := some 56) (v := ?_) (a' := ?_) (px_l 6 26) rfl rfl (take_ofW HT_.out HW_.out (by kernel_rfl)) (fun _ _ _ h => h) (Or.inl ⟨by rfl, ?_⟩) hHeld ?_ ?_
              rotate_left
              ·rintro w' ⟨s0, s1, s2, s3⟩
               go_simp
               with_reducible rfl
              rotate_left
              ·simp only [px_q]
               rfl
              refine pure_ (i := 6) (N := some 58) (v := ?_) (a' := ?_) (px_l 7 25) rfl rfl (any_of HT_.out (by kernel_rfl)) (fun _ _ _ h => h) (Or.inl ⟨by rfl, ?_⟩) ?_ ?_
              rotate_left
              ·intro w'
               go_simp
               with_reducible rfl
              rotate_left
              ·simp only [px_q]
               rfl
              refine pure_ (i := 7) (N := some 59) (v := ?_) (a' := ?_) (px_l 8 24) rfl rfl (any_of HT_.out (by kernel_rfl)) (fun _ _ _ h => h) (Or.inl ⟨by rfl, ?_⟩) ?_ ?_
              rotate_left
              ·intro w'
               go_simp
               with_reducible rfl
              rotate_left
              ·simp only [px_q]
               rfl
              refine pure_ (i := 8) (N := some 60) (v := ?_) (a' := ?_) (px_l 9 23) rfl rfl (any_of HT_.out (by kernel_rfl)) (fun _ _ _ h => h) (Or.inl ⟨by rfl, ?_⟩) ?_ ?_
              rotate_left
              ·intro w'
               go_simp
               with_reducible rfl
              rotate_left
              ·simp only [px_q]
               rfl
              refine pure_ (i := 9) (N := some 61) (v := undef) (a' := ?_) (px_l 10 22) rfl rfl (any_of HT_.out (by kernel_rfl)) (fun _ _ _ h => h) (Or.inr ⟨by rfl, rfl⟩) ?_ ?_
              rotate_left
              ·simp only [px_q]
               rfl
              refine pure_ (i := 10) (N := some 62) (v := undef) (a' := ?_) (px_l 11 21) rfl rfl (any_of HT_.out (by kernel_rfl)) (fun _ _ _ h => h) (Or.inr ⟨by rfl, rfl⟩) ?_ ?_
              rotate_left
              ·simp only [px_q]
               rfl
              refine pure_ (i := 11) (N := some 63) (v := undef) (a' := ?_) (px_l 12 20) rfl rfl (any_of HT_.out (by kernel_rfl)) (fun _ _ _ h => h) (Or.inr ⟨by rfl, rfl⟩) ?_ ?_
              rotate_left
              ·simp only [px_q]
               rfl
              refine pure_ (i := 12) (N := some 64) (v := undef) (a' := ?_) (px_l 13 19) rfl rfl (any_of HT_.out (by kernel_rfl)) (fun _ _ _ h => h) (Or.inr ⟨by rfl, rfl⟩) ?_ ?_
              rotate_left
              ·simp only [px_q]
               rfl
              refine pure_ (i := 13) (N := some 65) (v := ?_) (a' := ?_) (px_l 14 18) rfl rfl (any_of HT_.out (by kernel_rfl)) (fun _ _ _ h => h) (Or.inl ⟨by rfl, ?_⟩) ?_ ?_
              rotate_left
              ·intro w'
               go_simp
               with_reducible rfl
              rotate_left
              ·simp only [px_q]
               rfl
              refine pure_ (i := 14) (N := some 66) (v := ?_) (a' := ?_) (px_l 15 17) rfl rfl (any_of HT_.out (by kernel_rfl)) (fun _ _ _ h => h) (Or.inl ⟨by rfl, ?_⟩) ?_ ?_
              rotate_left
              ·intro w'
               go_simp
               with_reducible rfl
              rotate_left
              ·simp only [px_q]
               rfl
              refine pure_ (i := 15) (N := some 67) (v := undef) (a' := ?_) (px_l 16 16) rfl rfl (any_of HT_.out (by kernel_rfl)) (fun _ _ _ h => h) (Or.inr ⟨by rfl, rfl⟩) ?_ ?_
              rotate_left
              ·simp only [px_q]
               rfl
              refine pure_ (i := 16) (N := some 68) (v := undef) (a' := ?_) (px_l 17 15) rfl rfl (any_of HT_.out (by kernel_rfl)) (fun _ _ _ h => h) (Or.inr ⟨by rfl, rfl⟩) ?_ ?_
              rotate_left
              ·simp only [px_q]
               rfl
              refine pure_ (i := 17) (N := some 69) (v := undef) (a' := ?_) (px_l 18 14) rfl rfl (any_of HT_.out (by kernel_rfl)) (fun _ _ _ h => h) (Or.inr ⟨by rfl, rfl⟩) ?_ ?_
              rotate_left
              ·simp only [px_q]
               rfl
              refine pure_ (i := 18) (N := some 70) (v := undef) (a' := ?_) (px_l 19 13) rfl rfl (any_of HT_.out (by kernel_rfl)) (fun _ _ _ h => h) (Or.inr ⟨by rfl, rfl⟩) ?_ ?_
              rotate_left
              ·simp only [px_q]
               rfl
              refine pure_ (i := 19) (N := some 71) (v := undef) (a' := ?_) (px_l 20 12) rfl rfl (any_of HT_.out (by kernel_rfl)) (fun _ _ _ h => h) (Or.inr ⟨by rfl, rfl⟩) ?_ ?_
              rotate_left
              ·simp only [px_q]
               rfl
              refine pure_ (i := 20) (N := some 72) (v := undef) (a' := ?_) (px_l 21 11) rfl rfl (any_of HT_.out (by kernel_rfl)) (fun _ _ _ h => h) (Or.inr ⟨by rfl, rfl⟩) ?_ ?_
              rotate_left
              ·simp only [px_q]
               rfl
              refine pure_ (i := 21) (N := some 73) (v := undef) (a' := ?_) (px_l 22 10) rfl rfl (any_of HT_.out (by kernel_rfl)) (fun _ _ _ h => h) (Or.inr ⟨by rfl, rfl⟩) ?_ ?_
              rotate_left
              ·simp only [px_q]
               rfl
              refine pure_ (i := 22) (N := some 74) (v := undef) (a' := ?_) (px_l 23 9) rfl rfl (any_of HT_.out (by kernel_rfl)) (fun _ _ _ h => h) (Or.inr ⟨by rfl, rfl⟩) ?_ ?_
              rotate_left
              ·simp only [px_q]
               rfl
              refine pure_ (i := 23) (N := some 75) (v := undef) (a' := ?_) (px_l 24 8) rfl rfl (any_of HT_.out (by kernel_rfl)) (fun _ _ _ h => h) (Or.inr ⟨by rfl, rfl⟩) ?_ ?_
              rotate_left
              ·simp only [px_q]
               rfl
              refine pure_ (i := 24) (N := some 76) (v := undef) (a' := ?_) (px_l 25 7) rfl rfl (any_of HT_.out (by kernel_rfl)) (fun _ _ _ h => h) (Or.inr ⟨by rfl, rfl⟩) ?_ ?_
              rotate_left
              ·simp only [px_q]
               rfl
              refine pure_ (i := 25) (N := some 77) (v := ?_) (a' := ?_) (px_l 26 6) rfl rfl (any_of HT_.out (by kernel_rfl)) (fun _ _ _ h => h) (Or.inl ⟨by rfl, ?_⟩) ?_ ?_
              rotate_left
              ·intro w'
               go_simp
               with_reducible rfl
              rotate_left
              ·simp only [px_q]
               rfl
              refine pure_ (i := 26) (N := some 78) (v := ?_) (a' := ?_) (px_l 27 5) rfl rfl (any_of HT_.out (by kernel_rfl)) (fun _ _ _ h => h) (Or.inl ⟨by rfl, ?_⟩) ?_ ?_
              rotate_left
              ·intro w'
               go_simp
               with_reducible rfl
              rotate_left
              ·simp only [px_q]
               rfl
              refine pure_ (i := 27) (N := some 79) (v := undef) (a' := ?_) (px_l 28 4) rfl rfl (any_of HT_.out (by kernel_rfl)) (fun _ _ _ h => h) (Or.inr ⟨by rfl, rfl⟩) ?_ ?_
              rotate_left
              ·simp only [px_q]
               rfl
              refine pure_ (i := 28) (N := some 80) (v := undef) (a' := ?_) (px_l 29 3) rfl rfl (any_of HT_.out (by kernel_rfl)) (fun _ _ _ h => h) (Or.inr ⟨by rfl, rfl⟩) ?_ ?_
              rotate_left
              ·simp only [px_q]
               rfl
              refine pure_ (i := 29) (N := some 81) (v := undef) (a' := ?_) (px_l 30 2) rfl rfl (any_of HT_.out (by kernel_rfl)) (fun _ _ _ h => h) (Or.inr ⟨by rfl, rfl⟩) ?_ ?_
              rotate_left
              ·simp only [px_q]
               rfl
              refine pure_ (i := 30) (N := some 82) (v := undef) (a' := ?_) (px_l 31 1) rfl rfl (any_of HT_.out (by kernel_rfl)) (fun _ _ _ h => h) (Or.inr ⟨by rfl, rfl⟩) ?_ ?_
              rotate_left
              ·simp only [px_q]
               rfl
              refine pure_ (i := 31) (N := some 83) (v := ?_) (a' := ?_) (px_l 32 0) rfl rfl (any_of HT_.out (by kernel_rfl)) (fun _ _ _ h => h) (Or.inl ⟨by rfl, ?_⟩) ?_ ?_
              rotate_left
              ·intro w'
               go_simp
               with_reducible rfl
              rotate_left
              ·simp only [px_q]
               rfl
              refine done_ (done_of HT_.out (by kernel_rfl)) ?_
              try go_wp2
              go_meet
              case rel => exact ⟨_, (true), px_rf, H', ⟨by have := HJ1.out; have := HJ9.out; have := HK3.out; first | omega | exact Nat.le_refl _⟩, ⟨by first | exact px_bV BK135.out | (rw [← Nbq24.out]; exact px_bV BK135.out)⟩, ⟨by first | exact px_bV BK138.out | (rw [← Nbq24.out]; exact px_bV BK138.out)⟩, ⟨px_h2 HB.out GE135.out GE138.out⟩⟩
             ·rw [if_neg c41] at H
              have c41b0 : (!((((rd_T38 l0_1 x4_3).f0).toList) == ([] : List UInt8)) || (!(((rd_T38 l0_1 x4_3).f1) == 0) || (!(((rd_T38 l0_1 x4_3).f2) == 0) || ((false))))) = false := by simpa using c41
              (try have c41b1 : (!(((rd_T38 l0_1 x4_3).f0).toList.isEmpty) || (!(((rd_T38 l0_1 x4_3).f1) == 0) || (!(((rd_T38 l0_1 x4_3).f2) == 0)))) = false := by simpa using c41b0)
              clear c41
              replace H := Option.bind_eq_some_iff.mp H
              obtain ⟨t143, A440, H⟩ := H
              replace H : (if t143 = true then (if false = true then ((spec_hashOf.f k3 ((rd_T38 l0_1 x4_3).f0)).bind fun t144 => (if ((rd_T38 l0_1 x4_3).f1) = t144 then ((spec_inRange.f ((rd_T38 l0_1 x4_3).f2) (-1000000) 1000000).bind fun t145 => (spec_validDict.j3 k3 x4_3 (!t145) l0_0 l0_1)) else (spec_validDict.j3 k3 x4_3 true l0_0 l0_1))) else ((spec_inRange.f ((rd_T38 l0_1 x4_3).f2) (-1000000) 1000000).bind fun t146 => (spec_validDict.j3 k3 x4_3 (!t146) l0_0 l0_1))) else (spec_validDict.j3 k3 x4_3 true l0_0 l0_1)) = some r := H
              have A44 := aM A440
              clear A440
              by_cases c45 : t143 = true
              ·subst c45
               have H1 : (if false = true then ((spec_hashOf.f k3 ((rd_T38 l0_1 x4_3).f0)).bind fun t144 => (if ((rd_T38 l0_1 x4_3).f1) = t144 then ((spec_inRange.f ((rd_T38 l0_1 x4_3).f2) (-1000000) 1000000).bind fun t145 => (spec_validDict.j3 k3 x4_3 (!t145) l0_0 l0_1)) else (spec_validDict.j3 k3 x4_3 true l0_0 l0_1))) else ((spec_inRange.f ((rd_T38 l0_1 x4_3).f2) (-1000000) 1000000).bind fun t146 => (spec_validDict.j3 k3 x4_3 (!t146) l0_0 l0_1))) = some r := by rw [if_pos rfl] at H; exact H
               clear H
               have H := H1
               clear H1
               by_cases c46 : false = true
               ·exact absurd c46 (by decide)
               ·replace c46 := Bool.eq_false_iff.mpr c46
                have H1 : ((spec_inRange.f ((rd_T38 l0_1 x4_3).f2) (-1000000) 1000000).bind fun t146 => (spec_validDict.j3 k3 x4_3 (!t146) l0_0 l0_1)) = some r := by rw [if_neg (show ¬ (false = true) by decide)] at H; exact H
                clear H
                have H := H1
                clear H1
                replace H := Option.bind_eq_some_iff.mp H
                obtain ⟨t146, A540, H⟩ := H
                replace H : (spec_validDict.j3 k3 x4_3 (!t146) l0_0 l0_1) = some r := H
                have A54 := aM A540
                clear A540
                have H' := aM H
                clear H
                try go_wp2
                have n0_ : Aside0 (((((w21.setCell ⟨gb138, 0, none⟩ (.string ((rd_T38 l0_1 x4_3).f0))).setCell ⟨gb138, 1, none⟩ (.int .i64 ((rd_T38 l0_1 x4_3).f1))).setCell ⟨gb138, 2, none⟩ (.int .i64 ((rd_T38 l0_1 x4_3).f2))).setCell ⟨gb138, 3, none⟩ (.bool (false))).heap[gb135]? = some (.cells #[.slice A0_0 l0_0.length c0_0, .slice (some ad137) l0_1.length c0_1] 30 (0, 0))) := ⟨by (with_reducible repeat (first | refine blk_drewN ?_ _ | refine blk_drew ?_ | refine blk_alloc ?_ _)); refine blk_far ?_ NB135_138.out _; (with_reducible repeat (first | refine blk_drewN ?_ _ | refine blk_drew ?_ | refine blk_alloc ?_ _)); refine blk_far ?_ NB135_138.out _; (with_reducible repeat (first | refine blk_drewN ?_ _ | refine blk_drew ?_ | refine blk_alloc ?_ _)); refine blk_far ?_ NB135_138.out _; (with_reducible repeat (first | refine blk_drewN ?_ _ | refine blk_drew ?_ | refine blk_alloc ?_ _)); refine blk_far ?_ NB135_138.out _; (with_reducible repeat (first | refine blk_drewN ?_ _ | refine blk_drew ?_ | refine blk_alloc ?_ _)); exact BK135.out⟩
                have n1_ : Aside0 (((((w21.setCell ⟨gb138, 0, none⟩ (.string ((rd_T38 l0_1 x4_3).f0))).setCell ⟨gb138, 1, none⟩ (.int .i64 ((rd_T38 l0_1 x4_3).f1))).setCell ⟨gb138, 2, none⟩ (.int .i64 ((rd_T38 l0_1 x4_3).f2))).setCell ⟨gb138, 3, none⟩ (.bool (false))).heap[gb138]? = some (.cells #[.string ((rd_T38 l0_1 x4_3).f0), .int .i64 ((rd_T38 l0_1 x4_3).f1), .int .i64 ((rd_T38 l0_1 x4_3).f2), .bool false] 38 (0, 0))) := ⟨by (with_reducible repeat (first | refine blk_drewN ?_ _ | refine blk_drew ?_ | refine blk_alloc ?_ _)); refine blk_put (cs := #[.string ((rd_T38 l0_1 x4_3).f0), .int .i64 ((rd_T38 l0_1 x4_3).f1), .int .i64 ((rd_T38 l0_1 x4_3).f2), .bool false]) ?_ 3 _ rfl; (with_reducible repeat (first | refine blk_drewN ?_ _ | refine blk_drew ?_ | refine blk_alloc ?_ _)); refine blk_put (cs := #[.string ((rd_T38 l0_1 x4_3).f0), .int .i64 ((rd_T38 l0_1 x4_3).f1), .int .i64 0, .bool false]) ?_ 2 _ rfl; (with_reducible repeat (first | refine blk_drewN ?_ _ | refine blk_drew ?_ | refine blk_alloc ?_ _)); refine blk_put (cs := #[.string ((rd_T38 l0_1 x4_3).f0), .int .i64 0, .int .i64 0, .bool false]) ?_ 1 _ rfl; (with_reducible repeat (first | refine blk_drewN ?_ _ | refine blk_drew ?_ | refine blk_alloc ?_ _)); refine blk_put (cs := #[.string (⟨#[]⟩ : ByteArray), .int .i64 0, .int .i64 0, .bool false]) ?_ 0 _ rfl; (with_reducible repeat (first | refine blk_drewN ?_ _ | refine blk_drew ?_ | refine blk_alloc ?_ _)); exact BK138.out⟩
                have n2_ : Aside0 (Below w.heap.size w ((((w21.setCell ⟨gb138, 0, none⟩ (.string ((rd_T38 l0_1 x4_3).f0))).setCell ⟨gb138, 1, none⟩ (.int .i64 ((rd_T38 l0_1 x4_3).f1))).setCell ⟨gb138, 2, none⟩ (.int .i64 ((rd_T38 l0_1 x4_3).f2))).setCell ⟨gb138, 3, none⟩ (.bool (false)))) := ⟨px_h2 HB.out GE135.out GE138.out⟩
                (try clear BK135)
                (try clear BK138)
                (try clear HB)
                generalize ((((w21.setCell ⟨gb138, 0, none⟩ (.string ((rd_T38 l0_1 x4_3).f0))).setCell ⟨gb138, 1, none⟩ (.int .i64 ((rd_T38 l0_1 x4_3).f1))).setCell ⟨gb138, 2, none⟩ (.int .i64 ((rd_T38 l0_1 x4_3).f2))).setCell ⟨gb138, 3, none⟩ (.bool (false))) = w55 at n0_ n1_ n2_ ⊢
                have BK135 := n0_
                have BK138 := n1_
                have HB := n2_
                clear n0_ n1_ n2_
                have n0_ := aM (blk_drew BK135.out)
                have n1_ := aM (blk_drew BK138.out)
                have n2_ := aM (below_drew1 HB.out)
                clear BK135
                clear BK138
                clear HB
                have BK135 := n0_
                have BK138 := n1_
                have HB := n2_
                clear n0_ n1_ n2_
                refine start_ (n := 32) (S := fun w' => w'.cell? ⟨gb138, 0, none⟩ = some (.string ((rd_T38 l0_1 x4_3).f0)) ∧ w'.cell? ⟨gb138, 1, none⟩ = some (.int .i64 ((rd_T38 l0_1 x4_3).f1)) ∧ w'.cell? ⟨gb138, 2, none⟩ = some (.int .i64 ((rd_T38 l0_1 x4_3).f2)) ∧ w'.cell? ⟨gb138, 3, none⟩ = some (.bool false)) (ds := []) (px_l 0 32) (by kernel_rfl) rfl rfl ⟨(blk_cell BK138.out 0).trans rfl, (blk_cell BK138.out 1).trans rfl, (blk_cell BK138.out 2).trans rfl, (blk_cell BK138.out 3).trans rfl⟩ (fun hHeld => ?_); refine with_tabW spec_validDict.tab10 spec_validDict.bits10 (fun HT_ HW_ => ?_)
                generalize w55.drew = w56 at BK135 BK138 HB hHeld ⊢
                refine pure_ (i := 0) (N := some 52) (v := ?_) (a' := ?_) (px_l 1 31) rfl rfl (any_of HT_.out (by kernel_rfl)) (fun _ _ _ h => h) (Or.inl ⟨by rfl, ?_⟩) ?_ ?_
                rotate_left
                ·intro w'
                 go_simp
                 with_reducible rfl
                rotate_left
                ·simp only [px_q]
                 rfl
                refine take_ (i := 1) (N := some 53) (v := ?_) (a' := ?_) (px_l 2 30) rfl rfl (take_ofW HT_.out HW_.out (by kernel_rfl)) (fun _ _ _ h => h) (Or.inl ⟨by rfl, ?_⟩) hHeld ?_ ?_
                rotate_left
                ·rintro w' ⟨s0, s1, s2, s3⟩
                 go_simp
                 with_reducible rfl
                rotate_left
                ·simp only [px_q]
                 rfl
                refine pure_ (i := 2) (N := some 54) (v := ?_) (a' := ?_) (px_l 3 29) rfl rfl (any_of HT_.out (by kernel_rfl)) (fun _ _ _ h => h) (Or.inl ⟨by rfl, ?_⟩) ?_ ?_
                rotate_left
                ·intro w'
                 go_simp
                 with_reducible rfl
                rotate_left
                ·simp only [px_q]
                 rfl
                refine pure_ (i := 3) (N := some 55) (v := ?_) (a' := ?_) (px_l 4 28) rfl rfl (any_of HT_.out (by kernel_rfl)) (fun _ _ _ h => h) (Or.inl ⟨by rfl, ?_⟩) ?_ ?_
                rotate_left
                ·intro w'
                 go_simp
                 with_reducible rfl
                rotate_left
                ·simp only [px_q]
                 rfl
                refine pure_ (i := 5) (N := some 57) (v := ?_) (a' := ?_) #[true, true, true, true, false, true, false, false, false, false, false, false, false, false, false, false, false, false, false, false, false, false, false, false, false, false, false, false, false, false, false, false] rfl rfl (any_of HT_.out (by kernel_rfl)) (fun _ _ _ h => h) (Or.inl ⟨by rfl, ?_⟩) ?_ ?_
                rotate_left
                ·intro w'
                 go_simp
                 with_reducible rfl
                rotate_left
                ·simp only [px_q]
                 rfl
                refine take_ (i := 4) (N := some 56) (v := ?_) (a' := ?_) (px_l 6 26) rfl rfl (take_ofW HT_.out HW_.out (by kernel_rfl)) (fun _ _ _ h => h) (Or.inl ⟨by rfl, ?_⟩) hHeld ?_ ?_
                rotate_left
                ·rintro w' ⟨s0, s1, s2, s3⟩
                 go_simp
                 with_reducible rfl
                rotate_left
                ·simp only [px_q]
                 rfl
                refine pure_ (i := 6) (N := some 58) (v := ?_) (a' := ?_) (px_l 7 25) rfl rfl (any_of HT_.out (by kernel_rfl)) (fun _ _ _ h => h) (Or.inl ⟨by rfl, ?_⟩) ?_ ?_
                rotate_left
                ·intro w'
                 go_simp
                 with_reducible rfl
                rotate_left
                ·simp only [px_q]
                 rfl
                refine pure_ (i := 7) (N := some 59) (v := ?_) (a' := ?_) (px_l 8 24) rfl rfl (any_of HT_.out (by kernel_rfl)) (fun _ _ _ h => h) (Or.inl ⟨by rfl, ?_⟩) ?_ ?_
                rotate_left
                ·intro w'
                 go_simp
                 with_reducible rfl
                rotate_left
                ·simp only [px_q]
                 rfl
                refine pure_ (i := 8) (N := some 60) (v := ?_) (a' := ?_) (px_l 9 23) rfl rfl (any_of HT_.out (by kernel_rfl)) (fun _ _ _ h => h) (Or.inl ⟨by rfl, ?_⟩) ?_ ?_
                rotate_left
                ·intro w'
                 go_simp
                 with_reducible rfl
                rotate_left
                ·simp only [px_q]
                 rfl
                refine pure_ (i := 9) (N := some 61) (v := ?_) (a' := ?_) (px_l 10 22) rfl rfl (any_of HT_.out (by kernel_rfl)) (fun _ _ _ h => h) (Or.inl ⟨by rfl, ?_⟩) ?_ ?_
                rotate_left
                ·intro w'
                 go_simp
                 with_reducible rfl
                rotate_left
                ·simp only [px_q]
                 rfl
                refine take_ (i := 10) (N := some 62) (v := ?_) (a' := ?_) (px_l 11 21) rfl rfl (take_ofW HT_.out HW_.out (by kernel_rfl)) (fun _ _ _ h => h) (Or.inl ⟨by rfl, ?_⟩) hHeld ?_ ?_
                rotate_left
                ·rintro w' ⟨s0, s1, s2, s3⟩
                 go_simp
                 with_reducible rfl
                rotate_left
                ·simp only [px_q]
                 rfl
                refine one_ (i := 11) (N := some 63) (px_l 12 20) rfl rfl (one_of HT_.out (by kernel_rfl)) (by decide) (fun K hK => ?_)
                refine goes_ Try.func22 (by kernel_rfl) rfl #[.string ((rd_T38 l0_1 x4_3).f0)] (by rfl) rfl rfl px_dn ?_
                with_reducible refine (spec_validKey.calls ((rd_T38 l0_1 x4_3).f0) true _ A44.out).mono ?_
                rintro e w' ⟨rfl, ⟨nd, rfl⟩⟩
                refine ⟨_, rfl, ?_⟩
                refine hK.out _ _ ⟨(blk_cell BK138.out 0).trans rfl, (blk_cell BK138.out 1).trans rfl, (blk_cell BK138.out 2).trans rfl, (blk_cell BK138.out 3).trans rfl⟩ (fun hHeld => ?_)
                clear hK K
                refine norm_ (a' := ?_) ?_ ?_
                rotate_left
                ·show Act.put _ (some 63) _ = _
                 simp only [px_q]
                 rfl
                refine pure_ (i := 12) (N := some 64) (v := ?_) (a' := ?_) (px_l 13 19) rfl rfl (any_of HT_.out (by kernel_rfl)) (fun _ _ _ h => h) (Or.inl ⟨by rfl, ?_⟩) ?_ ?_
                rotate_left
                ·intro w'
                 go_simp
                 with_reducible rfl
                rotate_left
                ·simp only [px_q]
                 rfl
                refine pure_ (i := 13) (N := some 65) (v := ?_) (a' := ?_) (px_l 14 18) rfl rfl (any_of HT_.out (by kernel_rfl)) (fun _ _ _ h => h) (Or.inl ⟨by rfl, ?_⟩) ?_ ?_
                rotate_left
                ·intro w'
                 go_simp
                 with_reducible rfl
                rotate_left
                ·simp only [px_q]
                 rfl
                refine pure_ (i := 14) (N := some 66) (v := ?_) (a' := ?_) (px_l 15 17) rfl rfl (any_of HT_.out (by kernel_rfl)) (fun _ _ _ h => h) (Or.inl ⟨by rfl, ?_⟩) ?_ ?_
                rotate_left
                ·intro w'
                 go_simp
                 with_reducible rfl
                rotate_left
                ·simp only [px_q]
                 rfl
                refine pure_ (i := 15) (N := some 67) (v := ?_) (a' := ?_) (px_l 16 16) rfl rfl (any_of HT_.out (by kernel_rfl)) (fun _ _ _ h => h) (Or.inl ⟨by rfl, ?_⟩) ?_ ?_
                rotate_left
                ·intro w'
                 go_simp
                 with_reducible rfl
                rotate_left
                ·simp only [px_q]
                 rfl
                refine take_ (i := 16) (N := some 68) (v := ?_) (a' := ?_) (px_l 17 15) rfl rfl (take_ofW HT_.out HW_.out (by kernel_rfl)) (fun _ _ _ h => h) (Or.inl ⟨by rfl, ?_⟩) hHeld ?_ ?_
                rotate_left
                ·rintro w' ⟨s0, s1, s2, s3⟩
                 go_simp
                 with_reducible rfl
                rotate_left
                ·simp only [px_q]
                 rfl
                refine pure_ (i := 17) (N := some 69) (v := ?_) (a' := ?_) (px_l 18 14) rfl rfl (any_of HT_.out (by kernel_rfl)) (fun _ _ _ h => h) (Or.inl ⟨by rfl, ?_⟩) ?_ ?_
                rotate_left
                ·intro w'
                 go_simp
                 with_reducible rfl
                rotate_left
                ·simp only [px_q]
                 rfl
                refine pure_ (i := 18) (N := some 70) (v := undef) (a' := ?_) (px_l 19 13) rfl rfl (any_of HT_.out (by kernel_rfl)) (fun _ _ _ h => h) (Or.inr ⟨by rfl, rfl⟩) ?_ ?_
                rotate_left
                ·simp only [px_q]
                 rfl
                refine pure_ (i := 19) (N := some 71) (v := undef) (a' := ?_) (px_l 20 12) rfl rfl (any_of HT_.out (by kernel_rfl)) (fun _ _ _ h => h) (Or.inr ⟨by rfl, rfl⟩) ?_ ?_
                rotate_left
                ·simp only [px_q]
                 rfl
                refine pure_ (i := 20) (N := some 72) (v := undef) (a' := ?_) (px_l 21 11) rfl rfl (any_of HT_.out (by kernel_rfl)) (fun _ _ _ h => h) (Or.inr ⟨by rfl, rfl⟩) ?_ ?_
                rotate_left
                ·simp only [px_q]
                 rfl
                refine pure_ (i := 21) (N := some 73) (v := undef) (a' := ?_) (px_l 22 10) rfl rfl (any_of HT_.out (by kernel_rfl)) (fun _ _ _ h => h) (Or.inr ⟨by rfl, rfl⟩) ?_ ?_
                rotate_left
                ·simp only [px_q]
                 rfl
                refine pure_ (i := 22) (N := some 74) (v := undef) (a' := ?_) (px_l 23 9) rfl rfl (any_of HT_.out (by kernel_rfl)) (fun _ _ _ h => h) (Or.inr ⟨by rfl, rfl⟩) ?_ ?_
                rotate_left
                ·simp only [px_q]
                 rfl
                refine pure_ (i := 23) (N := some 75) (v := undef) (a' := ?_) (px_l 24 8) rfl rfl (any_of HT_.out (by kernel_rfl)) (fun _ _ _ h => h) (Or.inr ⟨by rfl, rfl⟩) ?_ ?_
                rotate_left
                ·simp only [px_q]
                 rfl
                refine pure_ (i := 24) (N := some 76) (v := ?_) (a' := ?_) (px_l 25 7) rfl rfl (any_of HT_.out (by kernel_rfl)) (fun _ _ _ h => h) (Or.inl ⟨by rfl, ?_⟩) ?_ ?_
                rotate_left
                ·intro w'
                 go_simp
                 with_reducible rfl
                rotate_left
                ·simp only [px_q]
                 rfl
                refine pure_ (i := 25) (N := some 77) (v := ?_) (a' := ?_) (px_l 26 6) rfl rfl (any_of HT_.out (by kernel_rfl)) (fun _ _ _ h => h) (Or.inl ⟨by rfl, ?_⟩) ?_ ?_
                rotate_left
                ·intro w'
                 go_simp
                 with_reducible rfl
                rotate_left
                ·simp only [px_q]
                 rfl
                refine pure_ (i := 26) (N := some 78) (v := ?_) (a' := ?_) (px_l 27 5) rfl rfl (any_of HT_.out (by kernel_rfl)) (fun _ _ _ h => h) (Or.inl ⟨by rfl, ?_⟩) ?_ ?_
                rotate_left
                ·intro w'
                 go_simp
                 with_reducible rfl
                rotate_left
                ·simp only [px_q]
                 rfl
                refine pure_ (i := 27) (N := some 79) (v := ?_) (a' := ?_) (px_l 28 4) rfl rfl (any_of HT_.out (by kernel_rfl)) (fun _ _ _ h => h) (Or.inl ⟨by rfl, ?_⟩) ?_ ?_
                rotate_left
                ·intro w'
                 go_simp
                 with_reducible rfl
                rotate_left
                ·simp only [px_q]
                 rfl
                refine take_ (i := 28) (N := some 80) (v := ?_) (a' := ?_) (px_l 29 3) rfl rfl (take_ofW HT_.out HW_.out (by kernel_rfl)) (fun _ _ _ h => h) (Or.inl ⟨by rfl, ?_⟩) hHeld ?_ ?_
                rotate_left
                ·rintro w' ⟨s0, s1, s2, s3⟩
                 go_simp
                 with_reducible rfl
                rotate_left
                ·simp only [px_q]
                 rfl
                refine one_ (i := 29) (N := some 81) (px_l 30 2) rfl rfl (one_of HT_.out (by kernel_rfl)) (by decide) (fun K hK => ?_)
                refine goes_ Try.func24 (by kernel_rfl) rfl #[.int .i64 ((rd_T38 l0_1 x4_3).f2), .int .i64 (-1000000), .int .i64 1000000] (by rfl) rfl rfl px_dn ?_
                with_reducible refine (spec_inRange.calls ((rd_T38 l0_1 x4_3).f2) (-1000000) 1000000 t146 _ A54.out).mono ?_
                rintro e w' ⟨rfl, ⟨nd, rfl⟩⟩
                refine ⟨_, rfl, ?_⟩
                refine hK.out _ _ ⟨(blk_cell BK138.out 0).trans rfl, (blk_cell BK138.out 1).trans rfl, (blk_cell BK138.out 2).trans rfl, (blk_cell BK138.out 3).trans rfl⟩ (fun hHeld => ?_)
                clear hK K
                refine norm_ (a' := ?_) ?_ ?_
                rotate_left
                ·show Act.put _ (some 81) _ = _
                 simp only [px_q]
                 rfl
                refine pure_ (i := 30) (N := some 82) (v := ?_) (a' := ?_) (px_l 31 1) rfl rfl (any_of HT_.out (by kernel_rfl)) (fun _ _ _ h => h) (Or.inl ⟨by rfl, ?_⟩) ?_ ?_
                rotate_left
                ·intro w'
                 go_simp
                 with_reducible rfl
                rotate_left
                ·simp only [px_q]
                 rfl
                refine pure_ (i := 31) (N := some 83) (v := ?_) (a' := ?_) (px_l 32 0) rfl rfl (any_of HT_.out (by kernel_rfl)) (fun _ _ _ h => h) (Or.inl ⟨by rfl, ?_⟩) ?_ ?_
                rotate_left
                ·intro w'
                 go_simp
                 with_reducible rfl
                rotate_left
                ·simp only [px_q]
                 rfl
                refine done_ (done_of HT_.out (by kernel_rfl)) ?_
                try go_wp2
                go_meet
                case rel => exact ⟨_, (!t146), px_rf, H', ⟨by have := HJ1.out; have := HJ9.out; have := HK3.out; first | omega | exact Nat.le_refl _⟩, ⟨by first | exact px_bV BK135.out | (rw [← Nbq24.out]; exact px_bV BK135.out)⟩, ⟨by first | exact px_bV BK138.out | (rw [← Nbq24.out]; exact px_bV BK138.out)⟩, ⟨px_h2 HB.out GE135.out GE138.out⟩⟩
              ·replace c45 := Bool.eq_false_iff.mpr c45
               subst c45
               have H1 : (spec_validDict.j3 k3 x4_3 true l0_0 l0_1) = some r := by rw [if_neg (show ¬ (false = true) by decide)] at H; exact H
               clear H
               have H := H1
               clear H1
               have H' := aM H
               clear H
               try go_wp2
               have n0_ : Aside0 (((((w21.setCell ⟨gb138, 0, none⟩ (.string ((rd_T38 l0_1 x4_3).f0))).setCell ⟨gb138, 1, none⟩ (.int .i64 ((rd_T38 l0_1 x4_3).f1))).setCell ⟨gb138, 2, none⟩ (.int .i64 ((rd_T38 l0_1 x4_3).f2))).setCell ⟨gb138, 3, none⟩ (.bool (false))).heap[gb135]? = some (.cells #[.slice A0_0 l0_0.length c0_0, .slice (some ad137) l0_1.length c0_1] 30 (0, 0))) := ⟨by (with_reducible repeat (first | refine blk_drewN ?_ _ | refine blk_drew ?_ | refine blk_alloc ?_ _)); refine blk_far ?_ NB135_138.out _; (with_reducible repeat (first | refine blk_drewN ?_ _ | refine blk_drew ?_ | refine blk_alloc ?_ _)); refine blk_far ?_ NB135_138.out _; (with_reducible repeat (first | refine blk_drewN ?_ _ | refine blk_drew ?_ | refine blk_alloc ?_ _)); refine blk_far ?_ NB135_138.out _; (with_reducible repeat (first | refine blk_drewN ?_ _ | refine blk_drew ?_ | refine blk_alloc ?_ _)); refine blk_far ?_ NB135_138.out _; (with_reducible repeat (first | refine blk_drewN ?_ _ | refine blk_drew ?_ | refine blk_alloc ?_ _)); exact BK135.out⟩
               have n1_ : Aside0 (((((w21.setCell ⟨gb138, 0, none⟩ (.string ((rd_T38 l0_1 x4_3).f0))).setCell ⟨gb138, 1, none⟩ (.int .i64 ((rd_T38 l0_1 x4_3).f1))).setCell ⟨gb138, 2, none⟩ (.int .i64 ((rd_T38 l0_1 x4_3).f2))).setCell ⟨gb138, 3, none⟩ (.bool (false))).heap[gb138]? = some (.cells #[.string ((rd_T38 l0_1 x4_3).f0), .int .i64 ((rd_T38 l0_1 x4_3).f1), .int .i64 ((rd_T38 l0_1 x4_3).f2), .bool false] 38 (0, 0))) := ⟨by (with_reducible repeat (first | refine blk_drewN ?_ _ | refine blk_drew ?_ | refine blk_alloc ?_ _)); refine blk_put (cs := #[.string ((rd_T38 l0_1 x4_3).f0), .int .i64 ((rd_T38 l0_1 x4_3).f1), .int .i64 ((rd_T38 l0_1 x4_3).f2), .bool false]) ?_ 3 _ rfl; (with_reducible repeat (first | refine blk_drewN ?_ _ | refine blk_drew ?_ | refine blk_alloc ?_ _)); refine blk_put (cs := #[.string ((rd_T38 l0_1 x4_3).f0), .int .i64 ((rd_T38 l0_1 x4_3).f1), .int .i64 0, .bool false]) ?_ 2 _ rfl; (with_reducible repeat (first | refine blk_drewN ?_ _ | refine blk_drew ?_ | refine blk_alloc ?_ _)); refine blk_put (cs := #[.string ((rd_T38 l0_1 x4_3).f0), .int .i64 0, .int .i64 0, .bool false]) ?_ 1 _ rfl; (with_reducible repeat (first | refine blk_drewN ?_ _ | refine blk_drew ?_ | refine blk_alloc ?_ _)); refine blk_put (cs := #[.string (⟨#[]⟩ : ByteArray), .int .i64 0, .int .i64 0, .bool false]) ?_ 0 _ rfl; (with_reducible repeat (first | refine blk_drewN ?_ _ | refine blk_drew ?_ | refine blk_alloc ?_ _)); exact BK138.out⟩
               have n2_ : Aside0 (Below w.heap.size w ((((w21.setCell ⟨gb138, 0, none⟩ (.string ((rd_T38 l0_1 x4_3).f0))).setCell ⟨gb138, 1, none⟩ (.int .i64 ((rd_T38 l0_1 x4_3).f1))).setCell ⟨gb138, 2, none⟩ (.int .i64 ((rd_T38 l0_1 x4_3).f2))).setCell ⟨gb138, 3, none⟩ (.bool (false)))) := ⟨px_h2 HB.out GE135.out GE138.out⟩
               (try clear BK135)
               (try clear BK138)
               (try clear HB)
               generalize ((((w21.setCell ⟨gb138, 0, none⟩ (.string ((rd_T38 l0_1 x4_3).f0))).setCell ⟨gb138, 1, none⟩ (.int .i64 ((rd_T38 l0_1 x4_3).f1))).setCell ⟨gb138, 2, none⟩ (.int .i64 ((rd_T38 l0_1 x4_3).f2))).setCell ⟨gb138, 3, none⟩ (.bool (false))) = w57 at n0_ n1_ n2_ ⊢
               have BK135 := n0_
               have BK138 := n1_
               have HB := n2_
               clear n0_ n1_ n2_
               have n0_ := aM (blk_drew BK135.out)
               have n1_ := aM (blk_drew BK138.out)
               have n2_ := aM (below_drew1 HB.out)
               clear BK135
               clear BK138
               clear HB
               have BK135 := n0_
               have BK138 := n1_
               have HB := n2_
               clear n0_ n1_ n2_
               refine start_ (n := 32) (S := fun w' => w'.cell? ⟨gb138, 0, none⟩ = some (.string ((rd_T38 l0_1 x4_3).f0)) ∧ w'.cell? ⟨gb138, 1, none⟩ = some (.int .i64 ((rd_T38 l0_1 x4_3).f1)) ∧ w'.cell? ⟨gb138, 2, none⟩ = some (.int .i64 ((rd_T38 l0_1 x4_3).f2)) ∧ w'.cell? ⟨gb138, 3, none⟩ = some (.bool false)) (ds := []) (px_l 0 32) (by kernel_rfl) rfl rfl ⟨(blk_cell BK138.out 0).trans rfl, (blk_cell BK138.out 1).trans rfl, (blk_cell BK138.out 2).trans rfl, (blk_cell BK138.out 3).trans rfl⟩ (fun hHeld => ?_); refine with_tabW spec_validDict.tab10 spec_validDict.bits10 (fun HT_ HW_ => ?_)
               generalize w57.drew = w58 at BK135 BK138 HB hHeld ⊢
               refine pure_ (i := 0) (N := some 52) (v := ?_) (a' := ?_) (px_l 1 31) rfl rfl (any_of HT_.out (by kernel_rfl)) (fun _ _ _ h => h) (Or.inl ⟨by rfl, ?_⟩) ?_ ?_
               rotate_left
               ·intro w'
                go_simp
                with_reducible rfl
               rotate_left
               ·simp only [px_q]
                rfl
               refine take_ (i := 1) (N := some 53) (v := ?_) (a' := ?_) (px_l 2 30) rfl rfl (take_ofW HT_.out HW_.out (by kernel_rfl)) (fun _ _ _ h => h) (Or.inl ⟨by rfl, ?_⟩) hHeld ?_ ?_
               rotate_left
               ·rintro w' ⟨s0, s1, s2, s3⟩
                go_simp
                with_reducible rfl
               rotate_left
               ·simp only [px_q]
                rfl
               refine pure_ (i := 2) (N := some 54) (v := ?_) (a' := ?_) (px_l 3 29) rfl rfl (any_of HT_.out (by kernel_rfl)) (fun _ _ _ h => h) (Or.inl ⟨by rfl, ?_⟩) ?_ ?_
               rotate_left
               ·intro w'
                go_simp
                with_reducible rfl
               rotate_left
               ·simp only [px_q]
                rfl
               refine pure_ (i := 3) (N := some 55) (v := ?_) (a' := ?_) (px_l 4 28) rfl rfl (any_of HT_.out (by kernel_rfl)) (fun _ _ _ h => h) (Or.inl ⟨by rfl, ?_⟩) ?_ ?_
               rotate_left
               ·intro w'
                go_simp
                with_reducible rfl
               rotate_left
               ·simp only [px_q]
                rfl
               refine pure_ (i := 5) (N := some 57) (v := ?_) (a' := ?_) #[true, true, true, true, false, true, false, false, false, false, false, false, false, false, false, false, false, false, false, false, false, false, false, false, false, false, false, false, false, false, false, false] rfl rfl (any_of HT_.out (by kernel_rfl)) (fun _ _ _ h => h) (Or.inl ⟨by rfl, ?_⟩) ?_ ?_
               rotate_left
               ·intro w'
                go_simp
                with_reducible rfl
               rotate_left
               ·simp only [px_q]
                rfl
               refine take_ (i := 4) (N := some 56) (v := ?_) (a' := ?_) (px_l 6 26) rfl rfl (take_ofW HT_.out HW_.out (by kernel_rfl)) (fun _ _ _ h => h) (Or.inl ⟨by rfl, ?_⟩) hHeld ?_ ?_
               rotate_left
               ·rintro w' ⟨s0, s1, s2, s3⟩
                go_simp
                with_reducible rfl
               rotate_left
               ·simp only [px_q]
                rfl
               refine pure_ (i := 6) (N := some 58) (v := ?_) (a' := ?_) (px_l 7 25) rfl rfl (any_of HT_.out (by kernel_rfl)) (fun _ _ _ h => h) (Or.inl ⟨by rfl, ?_⟩) ?_ ?_
               rotate_left
               ·intro w'
                go_simp
                with_reducible rfl
               rotate_left
               ·simp only [px_q]
                rfl
               refine pure_ (i := 7) (N := some 59) (v := ?_) (a' := ?_) (px_l 8 24) rfl rfl (any_of HT_.out (by kernel_rfl)) (fun _ _ _ h => h) (Or.inl ⟨by rfl, ?_⟩) ?_ ?_
               rotate_left
               ·intro w'
                go_simp
                with_reducible rfl
               rotate_left
               ·simp only [px_q]
                rfl
               refine pure_ (i := 8) (N := some 60) (v := ?_) (a' := ?_) (px_l 9 23) rfl rfl (any_of HT_.out (by kernel_rfl)) (fun _ _ _ h => h) (Or.inl ⟨by rfl, ?_⟩) ?_ ?_
               rotate_left
               ·intro w'
                go_simp
                with_reducible rfl
               rotate_left
               ·simp only [px_q]
                rfl
               refine pure_ (i := 9) (N := some 61) (v := ?_) (a' := ?_) (px_l 10 22) rfl rfl (any_of HT_.out (by kernel_rfl)) (fun _ _ _ h => h) (Or.inl ⟨by rfl, ?_⟩) ?_ ?_
               rotate_left
               ·intro w'
                go_simp
                with_reducible rfl
               rotate_left
               ·simp only [px_q]
                rfl
               refine take_ (i := 10) (N := some 62) (v := ?_) (a' := ?_) (px_l 11 21) rfl rfl (take_ofW HT_.out HW_.out (by kernel_rfl)) (fun _ _ _ h => h) (Or.inl ⟨by rfl, ?_⟩) hHeld ?_ ?_
               rotate_left
               ·rintro w' ⟨s0, s1, s2, s3⟩
                go_simp
                with_reducible rfl
               rotate_left
               ·simp only [px_q]
                rfl
               refine one_ (i := 11) (N := some 63) (px_l 12 20) rfl rfl (one_of HT_.out (by kernel_rfl)) (by decide) (fun K hK => ?_)
               refine goes_ Try.func22 (by kernel_rfl) rfl #[.string ((rd_T38 l0_1 x4_3).f0)] (by rfl) rfl rfl px_dn ?_
               with_reducible refine (spec_validKey.calls ((rd_T38 l0_1 x4_3).f0) false _ A44.out).mono ?_
               rintro e w' ⟨rfl, ⟨nd, rfl⟩⟩
               refine ⟨_, rfl, ?_⟩
               refine hK.out _ _ ⟨(blk_cell BK138.out 0).trans rfl, (blk_cell BK138.out 1).trans rfl, (blk_cell BK138.out 2).trans rfl, (blk_cell BK138.out 3).trans rfl⟩ (fun hHeld => ?_)
               clear hK K
               refine norm_ (a' := ?_) ?_ ?_
               rotate_left
               ·show Act.put _ (some 63) _ = _
                simp only [px_q]
                rfl
               refine pure_ (i := 12) (N := some 64) (v := ?_) (a' := ?_) (px_l 13 19) rfl rfl (any_of HT_.out (by kernel_rfl)) (fun _ _ _ h => h) (Or.inl ⟨by rfl, ?_⟩) ?_ ?_
               rotate_left
               ·intro w'
                go_simp
                with_reducible rfl
               rotate_left
               ·simp only [px_q]
                rfl
               refine pure_ (i := 13) (N := some 65) (v := ?_) (a' := ?_) (px_l 14 18) rfl rfl (any_of HT_.out (by kernel_rfl)) (fun _ _ _ h => h) (Or.inl ⟨by rfl, ?_⟩) ?_ ?_
               rotate_left
               ·intro w'
                go_simp
                with_reducible rfl
               rotate_left
               ·simp only [px_q]
                rfl
               refine pure_ (i := 14) (N := some 66) (v := ?_) (a' := ?_) (px_l 15 17) rfl rfl (any_of HT_.out (by kernel_rfl)) (fun _ _ _ h => h) (Or.inl ⟨by rfl, ?_⟩) ?_ ?_
               rotate_left
               ·intro w'
                go_simp
                with_reducible rfl
               rotate_left
               ·simp only [px_q]
                rfl
               refine pure_ (i := 15) (N := some 67) (v := undef) (a' := ?_) (px_l 16 16) rfl rfl (any_of HT_.out (by kernel_rfl)) (fun _ _ _ h => h) (Or.inr ⟨by rfl, rfl⟩) ?_ ?_
               rotate_left
               ·simp only [px_q]
                rfl
               refine pure_ (i := 16) (N := some 68) (v := undef) (a' := ?_) (px_l 17 15) rfl rfl (any_of HT_.out (by kernel_rfl)) (fun _ _ _ h => h) (Or.inr ⟨by rfl, rfl⟩) ?_ ?_
               rotate_left
               ·simp only [px_q]
                rfl
               refine pure_ (i := 17) (N := some 69) (v := undef) (a' := ?_) (px_l 18 14) rfl rfl (any_of HT_.out (by kernel_rfl)) (fun _ _ _ h => h) (Or.inr ⟨by rfl, rfl⟩) ?_ ?_
               rotate_left
               ·simp only [px_q]
                rfl
               refine pure_ (i := 18) (N := some 70) (v := undef) (a' := ?_) (px_l 19 13) rfl rfl (any_of HT_.out (by kernel_rfl)) (fun _ _ _ h => h) (Or.inr ⟨by rfl, rfl⟩) ?_ ?_
               rotate_left
               ·simp only [px_q]
                rfl
               refine pure_ (i := 19) (N := some 71) (v := undef) (a' := ?_) (px_l 20 12) rfl rfl (any_of HT_.out (by kernel_rfl)) (fun _ _ _ h => h) (Or.inr ⟨by rfl, rfl⟩) ?_ ?_
               rotate_left
               ·simp only [px_q]
                rfl
               refine pure_ (i := 20) (N := some 72) (v := undef) (a' := ?_) (px_l 21 11) rfl rfl (any_of HT_.out (by kernel_rfl)) (fun _ _ _ h => h) (Or.inr ⟨by rfl, rfl⟩) ?_ ?_
               rotate_left
               ·simp only [px_q]
                rfl
               refine pure_ (i := 21) (N := some 73) (v := undef) (a' := ?_) (px_l 22 10) rfl rfl (any_of HT_.out (by kernel_rfl)) (fun _ _ _ h => h) (Or.inr ⟨by rfl, rfl⟩) ?_ ?_
               rotate_left
               ·simp only [px_q]
                rfl
               refine pure_ (i := 22) (N := some 74) (v := undef) (a' := ?_) (px_l 23 9) rfl rfl (any_of HT_.out (by kernel_rfl)) (fun _ _ _ h => h) (Or.inr ⟨by rfl, rfl⟩) ?_ ?_
               rotate_left
               ·simp only [px_q]
                rfl
               refine pure_ (i := 23) (N := some 75) (v := undef) (a' := ?_) (px_l 24 8) rfl rfl (any_of HT_.out (by kernel_rfl)) (fun _ _ _ h => h) (Or.inr ⟨by rfl, rfl⟩) ?_ ?_
               rotate_left
               ·simp only [px_q]
                rfl
               refine pure_ (i := 24) (N := some 76) (v := undef) (a' := ?_) (px_l 25 7) rfl rfl (any_of HT_.out (by kernel_rfl)) (fun _ _ _ h => h) (Or.inr ⟨by rfl, rfl⟩) ?_ ?_
               rotate_left
               ·simp only [px_q]
                rfl
               refine pure_ (i := 25) (N := some 77) (v := ?_) (a' := ?_) (px_l 26 6) rfl rfl (any_of HT_.out (by kernel_rfl)) (fun _ _ _ h => h) (Or.inl ⟨by rfl, ?_⟩) ?_ ?_
               rotate_left
               ·intro w'
                go_simp
                with_reducible rfl
               rotate_left
               ·simp only [px_q]
                rfl
               refine pure_ (i := 26) (N := some 78) (v := ?_) (a' := ?_) (px_l 27 5) rfl rfl (any_of HT_.out (by kernel_rfl)) (fun _ _ _ h => h) (Or.inl ⟨by rfl, ?_⟩) ?_ ?_
               rotate_left
               ·intro w'
                go_simp
                with_reducible rfl
               rotate_left
               ·simp only [px_q]
                rfl
               refine pure_ (i := 27) (N := some 79) (v := undef) (a' := ?_) (px_l 28 4) rfl rfl (any_of HT_.out (by kernel_rfl)) (fun _ _ _ h => h) (Or.inr ⟨by rfl, rfl⟩) ?_ ?_
               rotate_left
               ·simp only [px_q]
                rfl
               refine pure_ (i := 28) (N := some 80) (v := undef) (a' := ?_) (px_l 29 3) rfl rfl (any_of HT_.out (by kernel_rfl)) (fun _ _ _ h => h) (Or.inr ⟨by rfl, rfl⟩) ?_ ?_
               rotate_left
               ·simp only [px_q]
                rfl
               refine pure_ (i := 29) (N := some 81) (v := undef) (a' := ?_) (px_l 30 2) rfl rfl (any_of HT_.out (by kernel_rfl)) (fun _ _ _ h => h) (Or.inr ⟨by rfl, rfl⟩) ?_ ?_
               rotate_left
               ·simp only [px_q]
                rfl
               refine pure_ (i := 30) (N := some 82) (v := undef) (a' := ?_) (px_l 31 1) rfl rfl (any_of HT_.out (by kernel_rfl)) (fun _ _ _ h => h) (Or.inr ⟨by rfl, rfl⟩) ?_ ?_
               rotate_left
               ·simp only [px_q]
                rfl
               refine pure_ (i := 31) (N := some 83) (v := ?_) (a' := ?_) (px_l 32 0) rfl rfl (any_of HT_.out (by kernel_rfl)) (fun _ _ _ h => h) (Or.inl ⟨by rfl, ?_⟩) ?_ ?_
               rotate_left
               ·intro w'
                go_simp
                with_reducible rfl
               rotate_left
               ·simp only [px_q]
                rfl
               refine done_ (done_of HT_.out (by kernel_rfl)) ?_
               try go_wp2
               go_meet
               case rel => exact ⟨_, (true), px_rf, H', ⟨by have := HJ1.out; have := HJ9.out; have := HK3.out; first | omega | exact Nat.le_refl _⟩, ⟨by first | exact px_bV BK135.out | (rw [← Nbq24.out]; exact px_bV BK135.out)⟩, ⟨by first | exact px_bV BK138.out | (rw [← Nbq24.out]; exact px_bV BK138.out)⟩, ⟨px_h2 HB.out GE135.out GE138.out⟩⟩
           case rest =>
            clear HC19
            try clear c2
            try clear p2
            try clear c4
            try clear c22
            try clear c23
            try clear c24
            try clear c45
            try clear c46
            obtain ⟨kq, x83_18, rfl, HA, HJ18, BK135, BK138, HB⟩ := hcut
            cases kq with
            | zero => exact absurd HA.out (by simp [spec_validDict.j3])
            | succ kj18 =>
             have H := HA.out
             clear HA
             simp only [spec_validDict.j3] at H
             by_cases c59 : x83_18 = true
             ·subst c59
              have H1 : (some false) = some r := by rw [if_pos rfl] at H; exact H
              clear H
              have H := H1
              clear H1
              obtain rfl := Option.some.inj H
              go_wp2
              go_ret
              exact ⟨by first | rfl | (simp [errW_none, errW_some] <;> rfl) | (simp [*, errW_none, errW_some] <;> rfl), px_h2 HB.out GE135.out GE138.out⟩
             ·replace c59 := Bool.eq_false_iff.mpr c59
              subst c59
              have H1 : (spec_validDict.l0 kj18 (wrap64 (x4_3 + 1)) l0_0 l0_1) = some r := by rw [if_neg (show ¬ (false = true) by decide)] at H; exact H
              clear H
              have H := H1
              clear H1
              have H' := aM H
              clear H
              go_wp2
              go_roundg kj18
              case measure => have := HJ1.out; have := HJ9.out; have := HK3.out; have := HJ18.out; omega
              case rel => exact ⟨(wrap64 (x4_3 + 1)), px_rf, H', ⟨by have := HJ1.out; have := HJ9.out; have := HK3.out; have := HJ18.out; omega⟩, ⟨by first | exact px_bV BK135.out | (rw [← Nbq24.out]; exact px_bV BK135.out)⟩, ⟨px_h2 HB.out GE135.out GE138.out⟩⟩
          ·rw [if_neg c18] at H
           exact absurd H (by simp)
         ·rw [if_neg c17] at H
          have c17b0 : decide (x4_3 < (l0_1.length : Int)) = false := decide_eq_false c17
          clear c17
          replace H := Option.bind_eq_some_iff.mp H
          obtain ⟨t147, A600, H⟩ := H
          replace H : (if t147 = true then (spec_validDict.l1 k3 0 l0_0 l0_1) else (some false)) = some r := H
          have A60 := aM A600
          clear A600
          by_cases c61 : t147 = true
          ·subst c61
           have H1 : (spec_validDict.l1 k3 0 l0_0 l0_1) = some r := by rw [if_pos rfl] at H; exact H
           clear H
           have H := H1
           clear H1
           have H' := aM H
           clear H
           have hcz62_0 : wr.cell? ⟨gb135, 0, none⟩ = some (.slice A0_0 l0_0.length c0_0) := (blk_cell BK135.out 0).trans rfl
           have hcz62_1 : wr.cell? ⟨gb135, 1, none⟩ = some (.slice A0_1 l0_1.length c0_1) := (blk_cell BK135.out 1).trans rfl
           have hfz62_0 := blk_frozen BK135.out 0
           have hfz62_1 := blk_frozen BK135.out 1
           go_wp2_with (first | ((with_reducible refine gate_callee (f := 25) rfl ?_); refine goesL_ (some 85) rfl rfl Try.func25 (by kernel_rfl) rfl #[.agg #[.slice A0_0 l0_0.length c0_0, .slice A0_1 l0_1.length c0_1]] rfl px_dn ?_; (with_reducible refine (spec_validSlots.calls k3 _ _ l0_0 _ _ l0_1 true _ ?side1 ?side2 ?side3 ?side4 A60.out).mono ?_); (case side1 => exact px_cV ((Kd.C_below HR0_0.out HB.out))); (case side2 => exact HC0_0.out); (case side3 => exact px_cV ((Kd.C_below HR0_1.out HB.out))); (case side4 => exact HC0_1.out); rintro e w63 ⟨rfl, hb⟩; refine ⟨_, rfl, ?_⟩; have n0_ := aM (blk_below (g := gb135) (o := .cells #[.slice A0_0 l0_0.length c0_0, .slice A0_1 l0_1.length c0_1] 30 (0, 0)) (px_bV BK135.out) hb); have n1_ := aM (below_step (px_h1 HB.out GE135.out) hb); clear BK135; clear HB; have BK135 := n0_; have HB := n1_; clear n0_ n1_; (try clear hb); (try clear hb2); (try clear hk); (try clear hi)))
           go_loopg [6] k3 (fun kq v6 w' => ∃ (x6_4 : Int), v6 = .int .i64 x6_4 ∧ Aside0 (spec_validDict.l1 kq x6_4 l0_0 l0_1 = some r) ∧ Aside0 (kq ≤ k3) ∧ Aside0 (w'.heap[gb135]? = some (.cells #[(.slice A0_0 l0_0.length c0_0), (.slice A0_1 l0_1.length c0_1)] 30 (0, 0))) ∧ Aside0 (Below w.heap.size w w'))
           case atStart => exact ⟨(0), px_rf, H', ⟨Nat.le_refl _⟩, ⟨px_bV BK135.out⟩, ⟨px_h1 HB.out GE135.out⟩⟩
           case round =>
            clear H'
            try clear c1
            try clear c2
            try clear p2
            try clear c4
            try clear c5
            try clear c6
            try clear p6
            try clear c17
            try clear c17b0
            try clear c18
            try clear c22
            try clear c23
            try clear c24
            try clear c25
            try clear c45
            try clear c46
            try clear c59
            try clear c61
            try clear hcz62_0
            try clear hcz62_1
            try clear hfz62_0
            try clear hfz62_1
            try clear p2
            obtain ⟨x6_4, rfl, HA, HK4, BK135, HB⟩ := hrel
            cases gk with
            | zero => exact absurd HA.out (by simp [spec_validDict.l1])
            | succ k4 =>
             have H := HA.out
             clear HA
             simp only [spec_validDict.l1] at H
             by_cases c64 : x6_4 < (l0_1.length : Int)
             ·rw [if_pos c64] at H
              have c64b0 : decide (x6_4 < (l0_1.length : Int)) = true := decide_eq_true c64
              clear c64
              by_cases c65 : 0 ≤ x6_4
              ·rw [if_pos c65] at H
               have c65b0 : decide (0 ≤ x6_4) = true := decide_eq_true c65
               clear c65
               obtain ⟨bq66, hbq66⟩ : ∃ b_ : Bool, b_ = ((rd_T38 l0_1 x6_4).f3) := ⟨_, rfl⟩
               replace H : (if bq66 = true then ((spec_slotOf.f k4 l0_0 l0_1 ((rd_T38 l0_1 x6_4).f0)).bind fun t150 => (if 0 ≤ t150 then (if t150 < (l0_0.length : Int) then (if (rd l0_0 t150) = x6_4 then (spec_validDict.l1 k4 (wrap64 (x6_4 + 1)) l0_0 l0_1) else (some false)) else (none)) else (none))) else (spec_validDict.l1 k4 (wrap64 (x6_4 + 1)) l0_0 l0_1)) = some r := by rw [← hbq66] at H; exact H
               have Nbq66 := aM hbq66
               clear hbq66
               by_cases c67 : bq66 = true
               ·subst c67
                have H1 : ((spec_slotOf.f k4 l0_0 l0_1 ((rd_T38 l0_1 x6_4).f0)).bind fun t150 => (if 0 ≤ t150 then (if t150 < (l0_0.length : Int) then (if (rd l0_0 t150) = x6_4 then (spec_validDict.l1 k4 (wrap64 (x6_4 + 1)) l0_0 l0_1) else (some false)) else (none)) else (none))) = some r := by rw [if_pos rfl] at H; exact H
                clear H
                have H := H1
                clear H1
                replace H := Option.bind_eq_some_iff.mp H
                obtain ⟨t150, A680, H⟩ := H
                replace H : (if 0 ≤ t150 then (if t150 < (l0_0.length : Int) then (if (rd l0_0 t150) = x6_4 then (spec_validDict.l1 k4 (wrap64 (x6_4 + 1)) l0_0 l0_1) else (some false)) else (none)) else (none)) = some r := H
                have A68 := aM A680
                clear A680
                by_cases c69 : 0 ≤ t150
                ·rw [if_pos c69] at H
                 have c69b0 : decide (0 ≤ t150) = true := decide_eq_true c69
                 clear c69
                 by_cases c70 : t150 < (l0_0.length : Int)
                 ·rw [if_pos c70] at H
                  have c70b0 : decide (t150 < (l0_0.length : Int)) = true := decide_eq_true c70
                  clear c70
                  by_cases c71 : (rd l0_0 t150) = x6_4
                  ·rw [if_pos c71] at H
                   have c71b0 : ((rd l0_0 t150) == x6_4) = true := beq_iff_eq.mpr c71
                   have c71b1 : ((rd l0_0 t150) != x6_4) = false := bne_eq_false_iff_eq.mpr c71
                   clear c71
                   have H' := aM H
                   clear H
                   have hcz72_0 : wr.cell? ⟨gb135, 0, none⟩ = some (.slice A0_0 l0_0.length c0_0) := (blk_cell BK135.out 0).trans rfl
                   have hcz72_1 : wr.cell? ⟨gb135, 1, none⟩ = some (.slice A0_1 l0_1.length c0_1) := (blk_cell BK135.out 1).trans rfl
                   have hfz72_0 := blk_frozen BK135.out 0
                   have hfz72_1 := blk_frozen BK135.out 1
                   try go_wp2
                   have n0_ := aM (blk_drew BK135.out)
                   have n1_ := aM (below_drew1 HB.out)
                   clear BK135
                   clear HB
                   have BK135 := n0_
                   have HB := n1_
                   clear n0_ n1_
                   have p148 : 0 ≤ (x6_4 : Int) := px_od
                   have q148 : x6_4 < (l0_1.length : Int) := px_od
                   obtain ⟨ad148, e148, hx148_0, hx148_1, hx148_2, hx148_3⟩ := at_T38 HR0_1.out x6_4 p148 q148
                   have hw148_3 := hx148_3
                   have hw148_2 := hx148_2
                   have hw148_1 := hx148_1
                   have hw148_0 := hx148_0
                   (try rw [← Nbq66.out] at hx148_3)
                   (try rw [← Nbq66.out] at hw148_3)
                   cases e148
                   replace hx148_0 := px_hx HB.out hx148_0
                   replace hx148_1 := px_hx HB.out hx148_1
                   replace hx148_2 := px_hx HB.out hx148_2
                   replace hx148_3 := px_hx HB.out hx148_3
                   replace p148 := eq_true p148
                   replace q148 := eq_true q148
                   have p149 : 0 ≤ (x6_4 : Int) := px_od
                   have q149 : x6_4 < (l0_1.length : Int) := px_od
                   obtain ⟨ad149, e149, hx149_0, hx149_1, hx149_2, hx149_3⟩ := at_T38 HR0_1.out x6_4 p149 q149
                   have hw149_3 := hx149_3
                   have hw149_2 := hx149_2
                   have hw149_1 := hx149_1
                   have hw149_0 := hx149_0
                   (try rw [← Nbq66.out] at hx149_3)
                   (try rw [← Nbq66.out] at hw149_3)
                   obtain rfl : ad148 = ad149 := (by injection e149)
                   replace hx149_0 := px_hx HB.out hx149_0
                   replace hx149_1 := px_hx HB.out hx149_1
                   replace hx149_2 := px_hx HB.out hx149_2
                   replace hx149_3 := px_hx HB.out hx149_3
                   replace p149 := eq_true p149
                   replace q149 := eq_true q149
                   have p151 : 0 ≤ (t150 : Int) := px_od
                   have q151 : t150 < (l0_0.length : Int) := px_od
                   obtain ⟨ad151, e151, hx151_0⟩ := Kd.at_int HR0_0.out t150 p151 q151
                   have hw151_0 := hx151_0
                   cases e151
                   replace hx151_0 := px_hx HB.out hx151_0
                   replace p151 := eq_true p151
                   replace q151 := eq_true q151
                   refine start_ (n := 22) (S := fun w' => w'.cell? ⟨gb135, 0, none⟩ = some (.slice (some ad151) l0_0.length c0_0) ∧ w'.cell? ⟨gb135, 1, none⟩ = some (.slice (some ad148) l0_1.length c0_1) ∧ w'.cell? (ad148.add ((x6_4).toNat * 4)) = some (.string ((rd_T38 l0_1 x6_4).f0)) ∧ w'.cell? ⟨(ad148.add ((x6_4).toNat * 4)).block, (ad148.add ((x6_4).toNat * 4)).off + 1, none⟩ = some (.int .i64 ((rd_T38 l0_1 x6_4).f1)) ∧ w'.cell? ⟨(ad148.add ((x6_4).toNat * 4)).block, (ad148.add ((x6_4).toNat * 4)).off + 2, none⟩ = some (.int .i64 ((rd_T38 l0_1 x6_4).f2)) ∧ w'.cell? ⟨(ad148.add ((x6_4).toNat * 4)).block, (ad148.add ((x6_4).toNat * 4)).off + 3, none⟩ = some (.bool true) ∧ w'.cell? (ad148.add ((x6_4).toNat * 4)) = some (.string ((rd_T38 l0_1 x6_4).f0)) ∧ w'.cell? ⟨(ad148.add ((x6_4).toNat * 4)).block, (ad148.add ((x6_4).toNat * 4)).off + 1, none⟩ = some (.int .i64 ((rd_T38 l0_1 x6_4).f1)) ∧ w'.cell? ⟨(ad148.add ((x6_4).toNat * 4)).block, (ad148.add ((x6_4).toNat * 4)).off + 2, none⟩ = some (.int .i64 ((rd_T38 l0_1 x6_4).f2)) ∧ w'.cell? ⟨(ad148.add ((x6_4).toNat * 4)).block, (ad148.add ((x6_4).toNat * 4)).off + 3, none⟩ = some (.bool (true)) ∧ w'.cell? (ad151.add (t150).toNat) = some (.int .i64 (rd l0_0 t150))) (ds := []) (px_l 0 22) (by kernel_rfl) rfl rfl ⟨(blk_cell BK135.out 0).trans rfl, (blk_cell BK135.out 1).trans rfl, ((HB.out.cell (World.block_lt_of_cell? w _ hw148_0)).trans hw148_0), ((HB.out.cell (World.block_lt_of_cell? w _ hw148_1)).trans hw148_1), ((HB.out.cell (World.block_lt_of_cell? w _ hw148_2)).trans hw148_2), ((HB.out.cell (World.block_lt_of_cell? w _ hw148_3)).trans hw148_3), ((HB.out.cell (World.block_lt_of_cell? w _ hw149_0)).trans hw149_0), ((HB.out.cell (World.block_lt_of_cell? w _ hw149_1)).trans hw149_1), ((HB.out.cell (World.block_lt_of_cell? w _ hw149_2)).trans hw149_2), ((HB.out.cell (World.block_lt_of_cell? w _ hw149_3)).trans hw149_3), ((HB.out.cell (World.block_lt_of_cell? w _ hw151_0)).trans hw151_0)⟩ (fun hHeld => ?_); refine with_tabW spec_validDict.tab17 spec_validDict.bits17 (fun HT_ HW_ => ?_)
                   generalize wr.drew = w73 at BK135 HB hx148_0 hx148_1 hx148_2 hx148_3 hx149_0 hx149_1 hx149_2 hx149_3 hx151_0 hHeld ⊢
                   refine pure_ (i := 0) (N := some 94) (v := ?_) (a' := ?_) (px_l 1 21) rfl rfl (any_of HT_.out (by kernel_rfl)) (fun _ _ _ h => h) (Or.inl ⟨by rfl, ?_⟩) ?_ ?_
                   rotate_left
                   ·intro w'
                    go_simp
                    with_reducible rfl
                   rotate_left
                   ·simp only [px_q]
                    rfl
                   refine pure_ (i := 2) (N := some 96) (v := ?_) (a' := ?_) #[true, false, true, false, false, false, false, false, false, false, false, false, false, false, false, false, false, false, false, false, false, false] rfl rfl (any_of HT_.out (by kernel_rfl)) (fun _ _ _ h => h) (Or.inl ⟨by rfl, ?_⟩) ?_ ?_
                   rotate_left
                   ·intro w'
                    go_simp
                    with_reducible rfl
                   rotate_left
                   ·simp only [px_q]
                    rfl
                   refine take_ (i := 1) (N := some 95) (v := ?_) (a' := ?_) (px_l 3 19) rfl rfl (take_ofW HT_.out HW_.out (by kernel_rfl)) (fun _ _ _ h => h) (Or.inl ⟨by rfl, ?_⟩) hHeld ?_ ?_
                   rotate_left
                   ·rintro w' ⟨s0, s1, s2, s3, s4, s5, s6, s7, s8, s9, s10⟩
                    go_simp
                    with_reducible rfl
                   rotate_left
                   ·simp only [px_q]
                    rfl
                   refine pure_ (i := 3) (N := some 97) (v := ?_) (a' := ?_) (px_l 4 18) rfl rfl (any_of HT_.out (by kernel_rfl)) (fun _ _ _ h => h) (Or.inl ⟨by rfl, ?_⟩) ?_ ?_
                   rotate_left
                   ·intro w'
                    go_simp
                    with_reducible rfl
                   rotate_left
                   ·simp only [px_q]
                    rfl
                   refine pure_ (i := 4) (N := some 98) (v := ?_) (a' := ?_) (px_l 5 17) rfl rfl (any_of HT_.out (by kernel_rfl)) (fun _ _ _ h => h) (Or.inl ⟨by rfl, ?_⟩) ?_ ?_
                   rotate_left
                   ·intro w'
                    go_simp
                    with_reducible rfl
                   rotate_left
                   ·simp only [px_q]
                    rfl
                   refine take_ (i := 5) (N := some 99) (v := ?_) (a' := ?_) (px_l 6 16) rfl rfl (take_ofW HT_.out HW_.out (by kernel_rfl)) (fun _ _ _ h => h) (Or.inl ⟨by rfl, ?_⟩) hHeld ?_ ?_
                   rotate_left
                   ·rintro w' ⟨s0, s1, s2, s3, s4, s5, s6, s7, s8, s9, s10⟩
                    go_simp
                    with_reducible rfl
                   rotate_left
                   ·simp only [px_q]
                    rfl
                   refine pure_ (i := 6) (N := some 100) (v := ?_) (a' := ?_) (px_l 7 15) rfl rfl (any_of HT_.out (by kernel_rfl)) (fun _ _ _ h => h) (Or.inl ⟨by rfl, ?_⟩) ?_ ?_
                   rotate_left
                   ·intro w'
                    go_simp
                    with_reducible rfl
                   rotate_left
                   ·simp only [px_q]
                    rfl
                   refine pure_ (i := 7) (N := some 101) (v := ?_) (a' := ?_) (px_l 8 14) rfl rfl (any_of HT_.out (by kernel_rfl)) (fun _ _ _ h => h) (Or.inl ⟨by rfl, ?_⟩) ?_ ?_
                   rotate_left
                   ·intro w'
                    go_simp
                    with_reducible rfl
                   rotate_left
                   ·simp only [px_q]
                    rfl
                   refine pure_ (i := 10) (N := some 104) (v := ?_) (a' := ?_) #[true, true, true, true, true, true, true, true, false, false, true, false, false, false, false, false, false, false, false, false, false, false] rfl rfl (any_of HT_.out (by kernel_rfl)) (fun _ _ _ h => h) (Or.inl ⟨by rfl, ?_⟩) ?_ ?_
                   rotate_left
                   ·intro w'
                    go_simp
                    with_reducible rfl
                   rotate_left
                   ·simp only [px_q]
                    rfl
                   refine pure_ (i := 12) (N := some 106) (v := ?_) (a' := ?_) #[true, true, true, true, true, true, true, true, false, false, true, false, true, false, false, false, false, false, false, false, false, false] rfl rfl (any_of HT_.out (by kernel_rfl)) (fun _ _ _ h => h) (Or.inl ⟨by rfl, ?_⟩) ?_ ?_
                   rotate_left
                   ·intro w'
                    go_simp
                    with_reducible rfl
                   rotate_left
                   ·simp only [px_q]
                    rfl
                   refine pure_ (i := 19) (N := some 113) (v := ?_) (a' := ?_) #[true, true, true, true, true, true, true, true, false, false, true, false, true, false, false, false, false, false, false, true, false, false] rfl rfl (any_of HT_.out (by kernel_rfl)) (fun _ _ _ h => h) (Or.inl ⟨by rfl, ?_⟩) ?_ ?_
                   rotate_left
                   ·intro w'
                    go_simp
                    with_reducible rfl
                   rotate_left
                   ·simp only [px_q]
                    rfl
                   refine take_ (i := 8) (N := some 102) (v := ?_) (a' := ?_) #[true, true, true, true, true, true, true, true, true, false, true, false, true, false, false, false, false, false, false, true, false, false] rfl rfl (take_ofW HT_.out HW_.out (by kernel_rfl)) (fun _ _ _ h => h) (Or.inl ⟨by rfl, ?_⟩) hHeld ?_ ?_
                   rotate_left
                   ·rintro w' ⟨s0, s1, s2, s3, s4, s5, s6, s7, s8, s9, s10⟩
                    go_simp
                    with_reducible rfl
                   rotate_left
                   ·simp only [px_q]
                    rfl
                   refine take_ (i := 9) (N := some 103) (v := ?_) (a' := ?_) #[true, true, true, true, true, true, true, true, true, true, true, false, true, false, false, false, false, false, false, true, false, false] rfl rfl (take_ofW HT_.out HW_.out (by kernel_rfl)) (fun _ _ _ h => h) (Or.inl ⟨by rfl, ?_⟩) hHeld ?_ ?_
                   rotate_left
                   ·rintro w' ⟨s0, s1, s2, s3, s4, s5, s6, s7, s8, s9, s10⟩
                    go_simp
                    with_reducible rfl
                   rotate_left
                   ·simp only [px_q]
                    rfl
                   refine take_ (i := 11) (N := some 105) (v := ?_) (a' := ?_) #[true, true, true, true, true, true, true, true, true, true, true, true, true, false, false, false, false, false, false, true, false, false] rfl rfl (take_ofW HT_.out HW_.out (by kernel_rfl)) (fun _ _ _ h => h) (Or.inl ⟨by rfl, ?_⟩) hHeld ?_ ?_
                   rotate_left
                   ·rintro w' ⟨s0, s1, s2, s3, s4, s5, s6, s7, s8, s9, s10⟩
                    go_simp
                    with_reducible rfl
                   rotate_left
                   ·simp only [px_q]
                    rfl
                   refine pure_ (i := 13) (N := some 107) (v := ?_) (a' := ?_) #[true, true, true, true, true, true, true, true, true, true, true, true, true, true, false, false, false, false, false, true, false, false] rfl rfl (any_of HT_.out (by kernel_rfl)) (fun _ _ _ h => h) (Or.inl ⟨by rfl, ?_⟩) ?_ ?_
                   rotate_left
                   ·intro w'
                    go_simp
                    with_reducible rfl
                   rotate_left
                   ·simp only [px_q]
                    rfl
                   refine pure_ (i := 14) (N := some 108) (v := ?_) (a' := ?_) #[true, true, true, true, true, true, true, true, true, true, true, true, true, true, true, false, false, false, false, true, false, false] rfl rfl (any_of HT_.out (by kernel_rfl)) (fun _ _ _ h => h) (Or.inl ⟨by rfl, ?_⟩) ?_ ?_
                   rotate_left
                   ·intro w'
                    go_simp
                    with_reducible rfl
                   rotate_left
                   ·simp only [px_q]
                    rfl
                   refine take_ (i := 15) (N := some 109) (v := ?_) (a' := ?_) #[true, true, true, true, true, true, true, true, true, true, true, true, true, true, true, true, false, false, false, true, false, false] rfl rfl (take_ofW HT_.out HW_.out (by kernel_rfl)) (fun _ _ _ h => h) (Or.inl ⟨by rfl, ?_⟩) hHeld ?_ ?_
                   rotate_left
                   ·rintro w' ⟨s0, s1, s2, s3, s4, s5, s6, s7, s8, s9, s10⟩
                    go_simp
                    with_reducible rfl
                   rotate_left
                   ·simp only [px_q]
                    rfl
                   refine one_ (i := 16) (N := some 110) #[true, true, true, true, true, true, true, true, true, true, true, true, true, true, true, true, true, false, false, true, false, false] rfl rfl (one_of HT_.out (by kernel_rfl)) (by decide) (fun K hK => ?_)
                   refine goes_ Try.func13 (by kernel_rfl) rfl #[.agg #[.slice (some ad151) l0_0.length c0_0, .slice (some ad148) l0_1.length c0_1], .string ((rd_T38 l0_1 x6_4).f0)] (by rfl) rfl rfl px_dn ?_
                   with_reducible refine (spec_slotOf.calls k4 _ _ l0_0 _ _ l0_1 ((rd_T38 l0_1 x6_4).f0) t150 _ ?side1 ?side2 ?side3 ?side4 A68.out).mono ?_
                   (case side1 => exact px_cV ((Kd.C_below HR0_0.out HB.out)))
                   (case side2 => exact HC0_0.out)
                   (case side3 => exact px_cV ((Kd.C_below HR0_1.out HB.out)))
                   (case side4 => exact HC0_1.out)
                   rintro e w74 ⟨rfl, hb⟩
                   refine ⟨_, rfl, ?_⟩
                   have n0_ := aM (blk_below (g := gb135) (o := .cells #[.slice (some ad151) l0_0.length c0_0, .slice (some ad148) l0_1.length c0_1] 30 (0, 0)) (px_bV BK135.out) hb)
                   have n1_ := aM (below_step (px_h1 HB.out GE135.out) hb)
                   clear BK135
                   clear HB
                   have BK135 := n0_
                   have HB := n1_
                   clear n0_ n1_
                   (try clear hb)
                   (try clear hb2)
                   (try clear hk)
                   (try clear hi)
                   refine hK.out _ _ ⟨(blk_cell BK135.out 0).trans rfl, (blk_cell BK135.out 1).trans rfl, ((HB.out.cell (World.block_lt_of_cell? w _ hw148_0)).trans hw148_0), ((HB.out.cell (World.block_lt_of_cell? w _ hw148_1)).trans hw148_1), ((HB.out.cell (World.block_lt_of_cell? w _ hw148_2)).trans hw148_2), ((HB.out.cell (World.block_lt_of_cell? w _ hw148_3)).trans hw148_3), ((HB.out.cell (World.block_lt_of_cell? w _ hw149_0)).trans hw149_0), ((HB.out.cell (World.block_lt_of_cell? w _ hw149_1)).trans hw149_1), ((HB.out.cell (World.block_lt_of_cell? w _ hw149_2)).trans hw149_2), ((HB.out.cell (World.block_lt_of_cell? w _ hw149_3)).trans hw149_3), ((HB.out.cell (World.block_lt_of_cell? w _ hw151_0)).trans hw151_0)⟩ (fun hHeld => ?_)
                   clear hK K
                   refine norm_ (a' := ?_) ?_ ?_
                   rotate_left
                   ·show Act.put _ (some 110) _ = _
                    simp only [px_q]
                    rfl
                   refine pure_ (i := 17) (N := some 111) (v := ?_) (a' := ?_) #[true, true, true, true, true, true, true, true, true, true, true, true, true, true, true, true, true, true, false, true, false, false] rfl rfl (any_of HT_.out (by kernel_rfl)) (fun _ _ _ h => h) (Or.inl ⟨by rfl, ?_⟩) ?_ ?_
                   rotate_left
                   ·intro w'
                    go_simp
                    with_reducible rfl
                   rotate_left
                   ·simp only [px_q]
                    rfl
                   refine take_ (i := 18) (N := some 112) (v := ?_) (a' := ?_) (px_l 20 2) rfl rfl (take_ofW HT_.out HW_.out (by kernel_rfl)) (fun _ _ _ h => h) (Or.inl ⟨by rfl, ?_⟩) hHeld ?_ ?_
                   rotate_left
                   ·rintro w' ⟨s0, s1, s2, s3, s4, s5, s6, s7, s8, s9, s10⟩
                    go_simp
                    with_reducible rfl
                   rotate_left
                   ·simp only [px_q]
                    rfl
                   refine pure_ (i := 20) (N := some 114) (v := ?_) (a' := ?_) (px_l 21 1) rfl rfl (any_of HT_.out (by kernel_rfl)) (fun _ _ _ h => h) (Or.inl ⟨by rfl, ?_⟩) ?_ ?_
                   rotate_left
                   ·intro w'
                    go_simp
                    with_reducible rfl
                   rotate_left
                   ·simp only [px_q]
                    rfl
                   refine pure_ (i := 21) (N := some 115) (v := ?_) (a' := ?_) (px_l 22 0) rfl rfl (any_of HT_.out (by kernel_rfl)) (fun _ _ _ h => h) (Or.inl ⟨by rfl, ?_⟩) ?_ ?_
                   rotate_left
                   ·intro w'
                    go_simp
                    with_reducible rfl
                   rotate_left
                   ·simp only [px_q]
                    rfl
                   refine done_ (done_of HT_.out (by kernel_rfl)) ?_
                   try go_wp2
                   go_roundg k4
                   case measure => have := HJ1.out; have := HJ9.out; have := HK3.out; have := HK4.out; omega
                   case rel => exact ⟨(wrap64 (x6_4 + 1)), px_rf, H', ⟨by have := HJ1.out; have := HJ9.out; have := HK3.out; have := HK4.out; omega⟩, ⟨by first | exact px_bV BK135.out | (rw [← Nbq24.out]; exact px_bV BK135.out) | (rw [← Nbq66.out]; exact px_bV BK135.out)⟩, ⟨px_h1 HB.out GE135.out⟩⟩
                  ·rw [if_neg c71] at H
                   have c71b0 : ((rd l0_0 t150) == x6_4) = false := beq_eq_false_iff_ne.mpr c71
                   have c71b1 : ((rd l0_0 t150) != x6_4) = true := bne_iff_ne.mpr c71
                   obtain rfl := Option.some.inj H
                   have hcz75_0 : wr.cell? ⟨gb135, 0, none⟩ = some (.slice A0_0 l0_0.length c0_0) := (blk_cell BK135.out 0).trans rfl
                   have hcz75_1 : wr.cell? ⟨gb135, 1, none⟩ = some (.slice A0_1 l0_1.length c0_1) := (blk_cell BK135.out 1).trans rfl
                   have hfz75_0 := blk_frozen BK135.out 0
                   have hfz75_1 := blk_frozen BK135.out 1
                   try go_wp2
                   have n0_ := aM (blk_drew BK135.out)
                   have n1_ := aM (below_drew1 HB.out)
                   clear BK135
                   clear HB
                   have BK135 := n0_
                   have HB := n1_
                   clear n0_ n1_
                   have p148 : 0 ≤ (x6_4 : Int) := px_od
                   have q148 : x6_4 < (l0_1.length : Int) := px_od
                   obtain ⟨ad148, e148, hx148_0, hx148_1, hx148_2, hx148_3⟩ := at_T38 HR0_1.out x6_4 p148 q148
                   have hw148_3 := hx148_3
                   have hw148_2 := hx148_2
                   have hw148_1 := hx148_1
                   have hw148_0 := hx148_0
                   (try rw [← Nbq66.out] at hx148_3)
                   (try rw [← Nbq66.out] at hw148_3)
                   cases e148
                   replace hx148_0 := px_hx HB.out hx148_0
                   replace hx148_1 := px_hx HB.out hx148_1
                   replace hx148_2 := px_hx HB.out hx148_2
                   replace hx148_3 := px_hx HB.out hx148_3
                   replace p148 := eq_true p148
                   replace q148 := eq_true q148
                   have p149 : 0 ≤ (x6_4 : Int) := px_od
                   have q149 : x6_4 < (l0_1.length : Int) := px_od
                   obtain ⟨ad149, e149, hx149_0, hx149_1, hx149_2, hx149_3⟩ := at_T38 HR0_1.out x6_4 p149 q149
                   have hw149_3 := hx149_3
                   have hw149_2 := hx149_2
                   have hw149_1 := hx149_1
                   have hw149_0 := hx149_0
                   (try rw [← Nbq66.out] at hx149_3)
                   (try rw [← Nbq66.out] at hw149_3)
                   obtain rfl : ad148 = ad149 := (by injection e149)
                   replace hx149_0 := px_hx HB.out hx149_0
                   replace hx149_1 := px_hx HB.out hx149_1
                   replace hx149_2 := px_hx HB.out hx149_2
                   replace hx149_3 := px_hx HB.out hx149_3
                   replace p149 := eq_true p149
                   replace q149 := eq_true q149
                   have p151 : 0 ≤ (t150 : Int) := px_od
                   have q151 : t150 < (l0_0.length : Int) := px_od
                   obtain ⟨ad151, e151, hx151_0⟩ := Kd.at_int HR0_0.out t150 p151 q151
                   have hw151_0 := hx151_0
                   cases e151
                   replace hx151_0 := px_hx HB.out hx151_0
                   replace p151 := eq_true p151
                   replace q151 := eq_true q151
                   refine start_ (n := 22) (S := fun w' => w'.cell? ⟨gb135, 0, none⟩ = some (.slice (some ad151) l0_0.length c0_0) ∧ w'.cell? ⟨gb135, 1, none⟩ = some (.slice (some ad148) l0_1.length c0_1) ∧ w'.cell? (ad148.add ((x6_4).toNat * 4)) = some (.string ((rd_T38 l0_1 x6_4).f0)) ∧ w'.cell? ⟨(ad148.add ((x6_4).toNat * 4)).block, (ad148.add ((x6_4).toNat * 4)).off + 1, none⟩ = some (.int .i64 ((rd_T38 l0_1 x6_4).f1)) ∧ w'.cell? ⟨(ad148.add ((x6_4).toNat * 4)).block, (ad148.add ((x6_4).toNat * 4)).off + 2, none⟩ = some (.int .i64 ((rd_T38 l0_1 x6_4).f2)) ∧ w'.cell? ⟨(ad148.add ((x6_4).toNat * 4)).block, (ad148.add ((x6_4).toNat * 4)).off + 3, none⟩ = some (.bool true) ∧ w'.cell? (ad148.add ((x6_4).toNat * 4)) = some (.string ((rd_T38 l0_1 x6_4).f0)) ∧ w'.cell? ⟨(ad148.add ((x6_4).toNat * 4)).block, (ad148.add ((x6_4).toNat * 4)).off + 1, none⟩ = some (.int .i64 ((rd_T38 l0_1 x6_4).f1)) ∧ w'.cell? ⟨(ad148.add ((x6_4).toNat * 4)).block, (ad148.add ((x6_4).toNat * 4)).off + 2, none⟩ = some (.int .i64 ((rd_T38 l0_1 x6_4).f2)) ∧ w'.cell? ⟨(ad148.add ((x6_4).toNat * 4)).block, (ad148.add ((x6_4).toNat * 4)).off + 3, none⟩ = some (.bool (true)) ∧ w'.cell? (ad151.add (t150).toNat) = some (.int .i64 (rd l0_0 t150))) (ds := []) (px_l 0 22) (by kernel_rfl) rfl rfl ⟨(blk_cell BK135.out 0).trans rfl, (blk_cell BK135.out 1).trans rfl, ((HB.out.cell (World.block_lt_of_cell? w _ hw148_0)).trans hw148_0), ((HB.out.cell (World.block_lt_of_cell? w _ hw148_1)).trans hw148_1), ((HB.out.cell (World.block_lt_of_cell? w _ hw148_2)).trans hw148_2), ((HB.out.cell (World.block_lt_of_cell? w _ hw148_3)).trans hw148_3), ((HB.out.cell (World.block_lt_of_cell? w _ hw149_0)).trans hw149_0), ((HB.out.cell (World.block_lt_of_cell? w _ hw149_1)).trans hw149_1), ((HB.out.cell (World.block_lt_of_cell? w _ hw149_2)).trans hw149_2), ((HB.out.cell (World.block_lt_of_cell? w _ hw149_3)).trans hw149_3), ((HB.out.cell (World.block_lt_of_cell? w _ hw151_0)).trans hw151_0)⟩ (fun hHeld => ?_); refine with_tabW spec_validDict.tab17 spec_validDict.bits17 (fun HT_ HW_ => ?_)
                   generalize wr.drew = w76 at BK135 HB hx148_0 hx148_1 hx148_2 hx148_3 hx149_0 hx149_1 hx149_2 hx149_3 hx151_0 hHeld ⊢
                   refine pure_ (i := 0) (N := some 94) (v := ?_) (a' := ?_) (px_l 1 21) rfl rfl (any_of HT_.out (by kernel_rfl)) (fun _ _ _ h => h) (Or.inl ⟨by rfl, ?_⟩) ?_ ?_
                   rotate_left
                   ·intro w'
                    go_simp
                    with_reducible rfl
                   rotate_left
                   ·simp only [px_q]
                    rfl
                   refine pure_ (i := 2) (N := some 96) (v := ?_) (a' := ?_) #[true, false, true, false, false, false, false, false, false, false, false, false, false, false, false, false, false, false, false, false, false, false] rfl rfl (any_of HT_.out (by kernel_rfl)) (fun _ _ _ h => h) (Or.inl ⟨by rfl, ?_⟩) ?_ ?_
                   rotate_left
                   ·intro w'
                    go_simp
                    with_reducible rfl
                   rotate_left
                   ·simp only [px_q]
                    rfl
                   refine take_ (i := 1) (N := some 95) (v := ?_) (a' := ?_) (px_l 3 19) rfl rfl (take_ofW HT_.out HW_.out (by kernel_rfl)) (fun _ _ _ h => h) (Or.inl ⟨by rfl, ?_⟩) hHeld ?_ ?_
                   rotate_left
                   ·rintro w' ⟨s0, s1, s2, s3, s4, s5, s6, s7, s8, s9, s10⟩
                    go_simp
                    with_reducible rfl
                   rotate_left
                   ·simp only [px_q]
                    rfl
                   refine pure_ (i := 3) (N := some 97) (v := ?_) (a' := ?_) (px_l 4 18) rfl rfl (any_of HT_.out (by kernel_rfl)) (fun _ _ _ h => h) (Or.inl ⟨by rfl, ?_⟩) ?_ ?_
                   rotate_left
                   ·intro w'
                    go_simp
                    with_reducible rfl
                   rotate_left
                   ·simp only [px_q]
                    rfl
                   refine pure_ (i := 4) (N := some 98) (v := ?_) (a' := ?_) (px_l 5 17) rfl rfl (any_of HT_.out (by kernel_rfl)) (fun _ _ _ h => h) (Or.inl ⟨by rfl, ?_⟩) ?_ ?_
                   rotate_left
                   ·intro w'
                    go_simp
                    with_reducible rfl
                   rotate_left
                   ·simp only [px_q]
                    rfl
                   refine take_ (i := 5) (N := some 99) (v := ?_) (a' := ?_) (px_l 6 16) rfl rfl (take_ofW HT_.out HW_.out (by kernel_rfl)) (fun _ _ _ h => h) (Or.inl ⟨by rfl, ?_⟩) hHeld ?_ ?_
                   rotate_left
                   ·rintro w' ⟨s0, s1, s2, s3, s4, s5, s6, s7, s8, s9, s10⟩
                    go_simp
                    with_reducible rfl
                   rotate_left
                   ·simp only [px_q]
                    rfl
                   refine pure_ (i := 6) (N := some 100) (v := ?_) (a' := ?_) (px_l 7 15) rfl rfl (any_of HT_.out (by kernel_rfl)) (fun _ _ _ h => h) (Or.inl ⟨by rfl, ?_⟩) ?_ ?_
                   rotate_left
                   ·intro w'
                    go_simp
                    with_reducible rfl
                   rotate_left
                   ·simp only [px_q]
                    rfl
                   refine pure_ (i := 7) (N := some 101) (v := ?_) (a' := ?_) (px_l 8 14) rfl rfl (any_of HT_.out (by kernel_rfl)) (fun _ _ _ h => h) (Or.inl ⟨by rfl, ?_⟩) ?_ ?_
                   rotate_left
                   ·intro w'
                    go_simp
                    with_reducible rfl
                   rotate_left
                   ·simp only [px_q]
                    rfl
                   refine pure_ (i := 10) (N := some 104) (v := ?_) (a' := ?_) #[true, true, true, true, true, true, true, true, false, false, true, false, false, false, false, false, false, false, false, false, false, false] rfl rfl (any_of HT_.out (by kernel_rfl)) (fun _ _ _ h => h) (Or.inl ⟨by rfl, ?_⟩) ?_ ?_
                   rotate_left
                   ·intro w'
                    go_simp
                    with_reducible rfl
                   rotate_left
                   ·simp only [px_q]
                    rfl
                   refine pure_ (i := 12) (N := some 106) (v := ?_) (a' := ?_) #[true, true, true, true, true, true, true, true, false, false, true, false, true, false, false, false, false, false, false, false, false, false] rfl rfl (any_of HT_.out (by kernel_rfl)) (fun _ _ _ h => h) (Or.inl ⟨by rfl, ?_⟩) ?_ ?_
                   rotate_left
                   ·intro w'
                    go_simp
                    with_reducible rfl
                   rotate_left
                   ·simp only [px_q]
                    rfl
                   refine pure_ (i := 19) (N := some 113) (v := ?_) (a' := ?_) #[true, true, true, true, true, true, true, true, false, false, true, false, true, false, false, false, false, false, false, true, false, false] rfl rfl (any_of HT_.out (by kernel_rfl)) (fun _ _ _ h => h) (Or.inl ⟨by rfl, ?_⟩) ?_ ?_
                   rotate_left
                   ·intro w'
                    go_simp
                    with_reducible rfl
                   rotate_left
                   ·simp only [px_q]
                    rfl
                   refine take_ (i := 8) (N := some 102) (v := ?_) (a' := ?_) #[true, true, true, true, true, true, true, true, true, false, true, false, true, false, false, false, false, false, false, true, false, false] rfl rfl (take_ofW HT_.out HW_.out (by kernel_rfl)) (fun _ _ _ h => h) (Or.inl ⟨by rfl, ?_⟩) hHeld ?_ ?_
                   rotate_left
                   ·rintro w' ⟨s0, s1, s2, s3, s4, s5, s6, s7, s8, s9, s10⟩
                    go_simp
                    with_reducible rfl
                   rotate_left
                   ·simp only [px_q]
                    rfl
                   refine take_ (i := 9) (N := some 103) (v := ?_) (a' := ?_) #[true, true, true, true, true, true, true, true, true, true, true, false, true, false, false, false, false, false, false, true, false, false] rfl rfl (take_ofW HT_.out HW_.out (by kernel_rfl)) (fun _ _ _ h => h) (Or.inl ⟨by rfl, ?_⟩) hHeld ?_ ?_
                   rotate_left
                   ·rintro w' ⟨s0, s1, s2, s3, s4, s5, s6, s7, s8, s9, s10⟩
                    go_simp
                    with_reducible rfl
                   rotate_left
                   ·simp only [px_q]
                    rfl
                   refine take_ (i := 11) (N := some 105) (v := ?_) (a' := ?_) #[true, true, true, true, true, true, true, true, true, true, true, true, true, false, false, false, false, false, false, true, false, false] rfl rfl (take_ofW HT_.out HW_.out (by kernel_rfl)) (fun _ _ _ h => h) (Or.inl ⟨by rfl, ?_⟩) hHeld ?_ ?_
                   rotate_left
                   ·rintro w' ⟨s0, s1, s2, s3, s4, s5, s6, s7, s8, s9, s10⟩
                    go_simp
                    with_reducible rfl
                   rotate_left
                   ·simp only [px_q]
                    rfl
                   refine pure_ (i := 13) (N := some 107) (v := ?_) (a' := ?_) #[true, true, true, true, true, true, true, true, true, true, true, true, true, true, false, false, false, false, false, true, false, false] rfl rfl (any_of HT_.out (by kernel_rfl)) (fun _ _ _ h => h) (Or.inl ⟨by rfl, ?_⟩) ?_ ?_
                   rotate_left
                   ·intro w'
                    go_simp
                    with_reducible rfl
                   rotate_left
                   ·simp only [px_q]
                    rfl
                   refine pure_ (i := 14) (N := some 108) (v := ?_) (a' := ?_) #[true, true, true, true, true, true, true, true, true, true, true, true, true, true, true, false, false, false, false, true, false, false] rfl rfl (any_of HT_.out (by kernel_rfl)) (fun _ _ _ h => h) (Or.inl ⟨by rfl, ?_⟩) ?_ ?_
                   rotate_left
                   ·intro w'
                    go_simp
                    with_reducible rfl
                   rotate_left
                   ·simp only [px_q]
                    rfl
                   refine take_ (i := 15) (N := some 109) (v := ?_) (a' := ?_) #[true, true, true, true, true, true, true, true, true, true, true, true, true, true, true, true, false, false, false, true, false, false] rfl rfl (take_ofW HT_.out HW_.out (by kernel_rfl)) (fun _ _ _ h => h) (Or.inl ⟨by rfl, ?_⟩) hHeld ?_ ?_
                   rotate_left
                   ·rintro w' ⟨s0, s1, s2, s3, s4, s5, s6, s7, s8, s9, s10⟩
                    go_simp
                    with_reducible rfl
                   rotate_left
                   ·simp only [px_q]
                    rfl
                   refine one_ (i := 16) (N := some 110) #[true, true, true, true, true, true, true, true, true, true, true, true, true, true, true, true, true, false, false, true, false, false] rfl rfl (one_of HT_.out (by kernel_rfl)) (by decide) (fun K hK => ?_)
                   refine goes_ Try.func13 (by kernel_rfl) rfl #[.agg #[.slice (some ad151) l0_0.length c0_0, .slice (some ad148) l0_1.length c0_1], .string ((rd_T38 l0_1 x6_4).f0)] (by rfl) rfl rfl px_dn ?_
                   with_reducible refine (spec_slotOf.calls k4 _ _ l0_0 _ _ l0_1 ((rd_T38 l0_1 x6_4).f0) t150 _ ?side1 ?side2 ?side3 ?side4 A68.out).mono ?_
                   (case side1 => exact px_cV ((Kd.C_below HR0_0.out HB.out)))
                   (case side2 => exact HC0_0.out)
                   (case side3 => exact px_cV ((Kd.C_below HR0_1.out HB.out)))
                   (case side4 => exact HC0_1.out)
                   rintro e w77 ⟨rfl, hb⟩
                   refine ⟨_, rfl, ?_⟩
                   have n0_ := aM (blk_below (g := gb135) (o := .cells #[.slice (some ad151) l0_0.length c0_0, .slice (some ad148) l0_1.length c0_1] 30 (0, 0)) (px_bV BK135.out) hb)
                   have n1_ := aM (below_step (px_h1 HB.out GE135.out) hb)
                   clear BK135
                   clear HB
                   have BK135 := n0_
                   have HB := n1_
                   clear n0_ n1_
                   (try clear hb)
                   (try clear hb2)
                   (try clear hk)
                   (try clear hi)
                   refine hK.out _ _ ⟨(blk_cell BK135.out 0).trans rfl, (blk_cell BK135.out 1).trans rfl, ((HB.out.cell (World.block_lt_of_cell? w _ hw148_0)).trans hw148_0), ((HB.out.cell (World.block_lt_of_cell? w _ hw148_1)).trans hw148_1), ((HB.out.cell (World.block_lt_of_cell? w _ hw148_2)).trans hw148_2), ((HB.out.cell (World.block_lt_of_cell? w _ hw148_3)).trans hw148_3), ((HB.out.cell (World.block_lt_of_cell? w _ hw149_0)).trans hw149_0), ((HB.out.cell (World.block_lt_of_cell? w _ hw149_1)).trans hw149_1), ((HB.out.cell (World.block_lt_of_cell? w _ hw149_2)).trans hw149_2), ((HB.out.cell (World.block_lt_of_cell? w _ hw149_3)).trans hw149_3), ((HB.out.cell (World.block_lt_of_cell? w _ hw151_0)).trans hw151_0)⟩ (fun hHeld => ?_)
                   clear hK K
                   refine norm_ (a' := ?_) ?_ ?_
                   rotate_left
                   ·show Act.put _ (some 110) _ = _
                    simp only [px_q]
                    rfl
                   refine pure_ (i := 17) (N := some 111) (v := ?_) (a' := ?_) #[true, true, true, true, true, true, true, true, true, true, true, true, true, true, true, true, true, true, false, true, false, false] rfl rfl (any_of HT_.out (by kernel_rfl)) (fun _ _ _ h => h) (Or.inl ⟨by rfl, ?_⟩) ?_ ?_
                   rotate_left
                   ·intro w'
                    go_simp
                    with_reducible rfl
                   rotate_left
                   ·simp only [px_q]
                    rfl
                   refine take_ (i := 18) (N := some 112) (v := ?_) (a' := ?_) (px_l 20 2) rfl rfl (take_ofW HT_.out HW_.out (by kernel_rfl)) (fun _ _ _ h => h) (Or.inl ⟨by rfl, ?_⟩) hHeld ?_ ?_
                   rotate_left
                   ·rintro w' ⟨s0, s1, s2, s3, s4, s5, s6, s7, s8, s9, s10⟩
                    go_simp
                    with_reducible rfl
                   rotate_left
                   ·simp only [px_q]
                    rfl
                   refine pure_ (i := 20) (N := some 114) (v := ?_) (a' := ?_) (px_l 21 1) rfl rfl (any_of HT_.out (by kernel_rfl)) (fun _ _ _ h => h) (Or.inl ⟨by rfl, ?_⟩) ?_ ?_
                   rotate_left
                   ·intro w'
                    go_simp
                    with_reducible rfl
                   rotate_left
                   ·simp only [px_q]
                    rfl
                   refine pure_ (i := 21) (N := some 115) (v := ?_) (a' := ?_) (px_l 22 0) rfl rfl (any_of HT_.out (by kernel_rfl)) (fun _ _ _ h => h) (Or.inl ⟨by rfl, ?_⟩) ?_ ?_
                   rotate_left
                   ·intro w'
                    go_simp
                    with_reducible rfl
                   rotate_left
                   ·simp only [px_q]
                    rfl
                   refine done_ (done_of HT_.out (by kernel_rfl)) ?_
                   try go_wp2
                   go_ret
                   exact ⟨by first | rfl | (simp [errW_none, errW_some] <;> rfl) | (simp [*, errW_none, errW_some] <;> rfl), px_h1 HB.out GE135.out⟩
                 ·rw [if_neg c70] at H
                  exact absurd H (by simp)
                ·rw [if_neg c69] at H
                 exact absurd H (by simp)
               ·replace c67 := Bool.eq_false_iff.mpr c67
                subst c67
                have H1 : (spec_validDict.l1 k4 (wrap64 (x6_4 + 1)) l0_0 l0_1) = some r := by rw [if_neg (show ¬ (false = true) by decide)] at H; exact H
                clear H
                have H := H1
                clear H1
                have H' := aM H
                clear H
                have hcz78_0 : wr.cell? ⟨gb135, 0, none⟩ = some (.slice A0_0 l0_0.length c0_0) := (blk_cell BK135.out 0).trans rfl
                have hcz78_1 : wr.cell? ⟨gb135, 1, none⟩ = some (.slice A0_1 l0_1.length c0_1) := (blk_cell BK135.out 1).trans rfl
                have hfz78_0 := blk_frozen BK135.out 0
                have hfz78_1 := blk_frozen BK135.out 1
                try go_wp2
                have n0_ := aM (blk_drew BK135.out)
                have n1_ := aM (below_drew1 HB.out)
                clear BK135
                clear HB
                have BK135 := n0_
                have HB := n1_
                clear n0_ n1_
                have p148 : 0 ≤ (x6_4 : Int) := px_od
                have q148 : x6_4 < (l0_1.length : Int) := px_od
                obtain ⟨ad148, e148, hx148_0, hx148_1, hx148_2, hx148_3⟩ := at_T38 HR0_1.out x6_4 p148 q148
                have hw148_3 := hx148_3
                have hw148_2 := hx148_2
                have hw148_1 := hx148_1
                have hw148_0 := hx148_0
                (try rw [← Nbq66.out] at hx148_3)
                (try rw [← Nbq66.out] at hw148_3)
                cases e148
                replace hx148_0 := px_hx HB.out hx148_0
                replace hx148_1 := px_hx HB.out hx148_1
                replace hx148_2 := px_hx HB.out hx148_2
                replace hx148_3 := px_hx HB.out hx148_3
                replace p148 := eq_true p148
                replace q148 := eq_true q148
                refine start_ (n := 22) (S := fun w' => w'.cell? ⟨gb135, 0, none⟩ = some (.slice A0_0 l0_0.length c0_0) ∧ w'.cell? ⟨gb135, 1, none⟩ = some (.slice (some ad148) l0_1.length c0_1) ∧ w'.cell? (ad148.add ((x6_4).toNat * 4)) = some (.string ((rd_T38 l0_1 x6_4).f0)) ∧ w'.cell? ⟨(ad148.add ((x6_4).toNat * 4)).block, (ad148.add ((x6_4).toNat * 4)).off + 1, none⟩ = some (.int .i64 ((rd_T38 l0_1 x6_4).f1)) ∧ w'.cell? ⟨(ad148.add ((x6_4).toNat * 4)).block, (ad148.add ((x6_4).toNat * 4)).off + 2, none⟩ = some (.int .i64 ((rd_T38 l0_1 x6_4).f2)) ∧ w'.cell? ⟨(ad148.add ((x6_4).toNat * 4)).block, (ad148.add ((x6_4).toNat * 4)).off + 3, none⟩ = some (.bool false)) (ds := []) (px_l 0 22) (by kernel_rfl) rfl rfl ⟨(blk_cell BK135.out 0).trans rfl, (blk_cell BK135.out 1).trans rfl, ((HB.out.cell (World.block_lt_of_cell? w _ hw148_0)).trans hw148_0), ((HB.out.cell (World.block_lt_of_cell? w _ hw148_1)).trans hw148_1), ((HB.out.cell (World.block_lt_of_cell? w _ hw148_2)).trans hw148_2), ((HB.out.cell (World.block_lt_of_cell? w _ hw148_3)).trans hw148_3)⟩ (fun hHeld => ?_); refine with_tabW spec_validDict.tab17 spec_validDict.bits17 (fun HT_ HW_ => ?_)
                generalize wr.drew = w79 at BK135 HB hx148_0 hx148_1 hx148_2 hx148_3 hHeld ⊢
                refine pure_ (i := 0) (N := some 94) (v := ?_) (a' := ?_) (px_l 1 21) rfl rfl (any_of HT_.out (by kernel_rfl)) (fun _ _ _ h => h) (Or.inl ⟨by rfl, ?_⟩) ?_ ?_
                rotate_left
                ·intro w'
                 go_simp
                 with_reducible rfl
                rotate_left
                ·simp only [px_q]
                 rfl
                refine pure_ (i := 2) (N := some 96) (v := ?_) (a' := ?_) #[true, false, true, false, false, false, false, false, false, false, false, false, false, false, false, false, false, false, false, false, false, false] rfl rfl (any_of HT_.out (by kernel_rfl)) (fun _ _ _ h => h) (Or.inl ⟨by rfl, ?_⟩) ?_ ?_
                rotate_left
                ·intro w'
                 go_simp
                 with_reducible rfl
                rotate_left
                ·simp only [px_q]
                 rfl
                refine take_ (i := 1) (N := some 95) (v := ?_) (a' := ?_) (px_l 3 19) rfl rfl (take_ofW HT_.out HW_.out (by kernel_rfl)) (fun _ _ _ h => h) (Or.inl ⟨by rfl, ?_⟩) hHeld ?_ ?_
                rotate_left
                ·rintro w' ⟨s0, s1, s2, s3, s4, s5⟩
                 go_simp
                 with_reducible rfl
                rotate_left
                ·simp only [px_q]
                 rfl
                refine pure_ (i := 3) (N := some 97) (v := ?_) (a' := ?_) (px_l 4 18) rfl rfl (any_of HT_.out (by kernel_rfl)) (fun _ _ _ h => h) (Or.inl ⟨by rfl, ?_⟩) ?_ ?_
                rotate_left
                ·intro w'
                 go_simp
                 with_reducible rfl
                rotate_left
                ·simp only [px_q]
                 rfl
                refine pure_ (i := 4) (N := some 98) (v := ?_) (a' := ?_) (px_l 5 17) rfl rfl (any_of HT_.out (by kernel_rfl)) (fun _ _ _ h => h) (Or.inl ⟨by rfl, ?_⟩) ?_ ?_
                rotate_left
                ·intro w'
                 go_simp
                 with_reducible rfl
                rotate_left
                ·simp only [px_q]
                 rfl
                refine take_ (i := 5) (N := some 99) (v := ?_) (a' := ?_) (px_l 6 16) rfl rfl (take_ofW HT_.out HW_.out (by kernel_rfl)) (fun _ _ _ h => h) (Or.inl ⟨by rfl, ?_⟩) hHeld ?_ ?_
                rotate_left
                ·rintro w' ⟨s0, s1, s2, s3, s4, s5⟩
                 go_simp
                 with_reducible rfl
                rotate_left
                ·simp only [px_q]
                 rfl
                refine pure_ (i := 6) (N := some 100) (v := ?_) (a' := ?_) (px_l 7 15) rfl rfl (any_of HT_.out (by kernel_rfl)) (fun _ _ _ h => h) (Or.inl ⟨by rfl, ?_⟩) ?_ ?_
                rotate_left
                ·intro w'
                 go_simp
                 with_reducible rfl
                rotate_left
                ·simp only [px_q]
                 rfl
                refine pure_ (i := 7) (N := some 101) (v := undef) (a' := ?_) (px_l 8 14) rfl rfl (any_of HT_.out (by kernel_rfl)) (fun _ _ _ h => h) (Or.inr ⟨by rfl, rfl⟩) ?_ ?_
                rotate_left
                ·simp only [px_q]
                 rfl
                refine pure_ (i := 8) (N := some 102) (v := undef) (a' := ?_) (px_l 9 13) rfl rfl (any_of HT_.out (by kernel_rfl)) (fun _ _ _ h => h) (Or.inr ⟨by rfl, rfl⟩) ?_ ?_
                rotate_left
                ·simp only [px_q]
                 rfl
                refine pure_ (i := 9) (N := some 103) (v := undef) (a' := ?_) (px_l 10 12) rfl rfl (any_of HT_.out (by kernel_rfl)) (fun _ _ _ h => h) (Or.inr ⟨by rfl, rfl⟩) ?_ ?_
                rotate_left
                ·simp only [px_q]
                 rfl
                refine pure_ (i := 10) (N := some 104) (v := undef) (a' := ?_) (px_l 11 11) rfl rfl (any_of HT_.out (by kernel_rfl)) (fun _ _ _ h => h) (Or.inr ⟨by rfl, rfl⟩) ?_ ?_
                rotate_left
                ·simp only [px_q]
                 rfl
                refine pure_ (i := 11) (N := some 105) (v := undef) (a' := ?_) (px_l 12 10) rfl rfl (any_of HT_.out (by kernel_rfl)) (fun _ _ _ h => h) (Or.inr ⟨by rfl, rfl⟩) ?_ ?_
                rotate_left
                ·simp only [px_q]
                 rfl
                refine pure_ (i := 12) (N := some 106) (v := undef) (a' := ?_) (px_l 13 9) rfl rfl (any_of HT_.out (by kernel_rfl)) (fun _ _ _ h => h) (Or.inr ⟨by rfl, rfl⟩) ?_ ?_
                rotate_left
                ·simp only [px_q]
                 rfl
                refine pure_ (i := 13) (N := some 107) (v := undef) (a' := ?_) (px_l 14 8) rfl rfl (any_of HT_.out (by kernel_rfl)) (fun _ _ _ h => h) (Or.inr ⟨by rfl, rfl⟩) ?_ ?_
                rotate_left
                ·simp only [px_q]
                 rfl
                refine pure_ (i := 14) (N := some 108) (v := undef) (a' := ?_) (px_l 15 7) rfl rfl (any_of HT_.out (by kernel_rfl)) (fun _ _ _ h => h) (Or.inr ⟨by rfl, rfl⟩) ?_ ?_
                rotate_left
                ·simp only [px_q]
                 rfl
                refine pure_ (i := 15) (N := some 109) (v := undef) (a' := ?_) (px_l 16 6) rfl rfl (any_of HT_.out (by kernel_rfl)) (fun _ _ _ h => h) (Or.inr ⟨by rfl, rfl⟩) ?_ ?_
                rotate_left
                ·simp only [px_q]
                 rfl
                refine pure_ (i := 16) (N := some 110) (v := undef) (a' := ?_) (px_l 17 5) rfl rfl (any_of HT_.out (by kernel_rfl)) (fun _ _ _ h => h) (Or.inr ⟨by rfl, rfl⟩) ?_ ?_
                rotate_left
                ·simp only [px_q]
                 rfl
                refine pure_ (i := 17) (N := some 111) (v := undef) (a' := ?_) (px_l 18 4) rfl rfl (any_of HT_.out (by kernel_rfl)) (fun _ _ _ h => h) (Or.inr ⟨by rfl, rfl⟩) ?_ ?_
                rotate_left
                ·simp only [px_q]
                 rfl
                refine pure_ (i := 18) (N := some 112) (v := undef) (a' := ?_) (px_l 19 3) rfl rfl (any_of HT_.out (by kernel_rfl)) (fun _ _ _ h => h) (Or.inr ⟨by rfl, rfl⟩) ?_ ?_
                rotate_left
                ·simp only [px_q]
                 rfl
                refine pure_ (i := 19) (N := some 113) (v := undef) (a' := ?_) (px_l 20 2) rfl rfl (any_of HT_.out (by kernel_rfl)) (fun _ _ _ h => h) (Or.inr ⟨by rfl, rfl⟩) ?_ ?_
                rotate_left
                ·simp only [px_q]
                 rfl
                refine pure_ (i := 20) (N := some 114) (v := undef) (a' := ?_) (px_l 21 1) rfl rfl (any_of HT_.out (by kernel_rfl)) (fun _ _ _ h => h) (Or.inr ⟨by rfl, rfl⟩) ?_ ?_
                rotate_left
                ·simp only [px_q]
                 rfl
                refine pure_ (i := 21) (N := some 115) (v := ?_) (a' := ?_) (px_l 22 0) rfl rfl (any_of HT_.out (by kernel_rfl)) (fun _ _ _ h => h) (Or.inl ⟨by rfl, ?_⟩) ?_ ?_
                rotate_left
                ·intro w'
                 go_simp
                 with_reducible rfl
                rotate_left
                ·simp only [px_q]
                 rfl
                refine done_ (done_of HT_.out (by kernel_rfl)) ?_
                try go_wp2
                go_roundg k4
                case measure => have := HJ1.out; have := HJ9.out; have := HK3.out; have := HK4.out; omega
                case rel => exact ⟨(wrap64 (x6_4 + 1)), px_rf, H', ⟨by have := HJ1.out; have := HJ9.out; have := HK3.out; have := HK4.out; omega⟩, ⟨by first | exact px_bV BK135.out | (rw [← Nbq24.out]; exact px_bV BK135.out) | (rw [← Nbq66.out]; exact px_bV BK135.out)⟩, ⟨px_h1 HB.out GE135.out⟩⟩
              ·rw [if_neg c65] at H
               exact absurd H (by simp)
             ·rw [if_neg c64] at H
              have c64b0 : decide (x6_4 < (l0_1.length : Int)) = false := decide_eq_false c64
              clear c64
              obtain rfl := Option.some.inj H
              have hcz80_0 : wr.cell? ⟨gb135, 0, none⟩ = some (.slice A0_0 l0_0.length c0_0) := (blk_cell BK135.out 0).trans rfl
              have hcz80_1 : wr.cell? ⟨gb135, 1, none⟩ = some (.slice A0_1 l0_1.length c0_1) := (blk_cell BK135.out 1).trans rfl
              have hfz80_0 := blk_frozen BK135.out 0
              have hfz80_1 := blk_frozen BK135.out 1
              go_wp2
              go_ret
              exact ⟨by first | rfl | (simp [errW_none, errW_some] <;> rfl) | (simp [*, errW_none, errW_some] <;> rfl), px_h1 HB.out GE135.out⟩
          ·replace c61 := Bool.eq_false_iff.mpr c61
           subst c61
           have H1 : (some false) = some r := by rw [if_neg (show ¬ (false = true) by decide)] at H; exact H
           clear H
           have H := H1
           clear H1
           obtain rfl := Option.some.inj H
           have hcz81_0 : wr.cell? ⟨gb135, 0, none⟩ = some (.slice A0_0 l0_0.length c0_0) := (blk_cell BK135.out 0).trans rfl
           have hcz81_1 : wr.cell? ⟨gb135, 1, none⟩ = some (.slice A0_1 l0_1.length c0_1) := (blk_cell BK135.out 1).trans rfl
           have hfz81_0 := blk_frozen BK135.out 0
           have hfz81_1 := blk_frozen BK135.out 1
           go_wp2_with (first | ((with_reducible refine gate_callee (f := 25) rfl ?_); refine goesL_ (some 85) rfl rfl Try.func25 (by kernel_rfl) rfl #[.agg #[.slice A0_0 l0_0.length c0_0, .slice A0_1 l0_1.length c0_1]] rfl px_dn ?_; (with_reducible refine (spec_validSlots.calls k3 _ _ l0_0 _ _ l0_1 false _ ?side1 ?side2 ?side3 ?side4 A60.out).mono ?_); (case side1 => exact px_cV ((Kd.C_below HR0_0.out HB.out))); (case side2 => exact HC0_0.out); (case side3 => exact px_cV ((Kd.C_below HR0_1.out HB.out))); (case side4 => exact HC0_1.out); rintro e w82 ⟨rfl, hb⟩; refine ⟨_, rfl, ?_⟩; have n0_ := aM (blk_below (g := gb135) (o := .cells #[.slice A0_0 l0_0.length c0_0, .slice A0_1 l0_1.length c0_1] 30 (0, 0)) (px_bV BK135.out) hb); have n1_ := aM (below_step (px_h1 HB.out GE135.out) hb); clear BK135; clear HB; have BK135 := n0_; have HB := n1_; clear n0_ n1_; (try clear hb); (try clear hb2); (try clear hk); (try clear hi)))
           go_ret
           exact ⟨by first | rfl | (simp [errW_none, errW_some] <;> rfl) | (simp [*, errW_none, errW_some] <;> rfl), px_h1 HB.out GE135.out⟩

end Go.Proofs.Ythocdlaajncmpaa.Q
