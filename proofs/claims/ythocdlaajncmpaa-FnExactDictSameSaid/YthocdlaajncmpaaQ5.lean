-- Printed by a program of this project's own, for this seat.
import Derived.Test.YthocdlaajncmpaaQ0
import Derived.Test.YthocdlaajncmpaaQ2
import Derived.Test.YthocdlaajncmpaaQ4
namespace Go.Proofs.Ythocdlaajncmpaa.Q
open Go.RowKit Go.Proofs.YthocdlaajncmpaaW.PrintWords Go.Proofs.YthocdlaajncmpaaW.PrintLast Go.Proofs.YthocdlaajncmpaaW.PrintMore
attribute [local go_sem] max2_int min2_int max_two min_two max_three min_three max_four min_four   -- for this text's walks alone
set_option linter.unusedVariables false
set_option linter.unusedSimpArgs false

/-! ### spec_DictSame: function 5 -/
mutual
def spec_DictSame.j0 : Nat → Bool → List Int → List (S38) → List Int → List (S38) → Option (Bool)
 | 0, _, _, _, _, _ => none
 | k + 1, x22, x153000, x153001, x154000, x154001 => if x22 = true then (some false) else (spec_DictSame.l0 k 0 x153000 x153001 x154000 x154001)
def spec_DictSame.l0 : Nat → Int → List Int → List (S38) → List Int → List (S38) → Option (Bool)
 | 0, _, _, _, _, _ => none
 | k + 1, x5, x153000, x153001, x154000, x154001 => if x5 < (x153001.length : Int) then (if 0 ≤ x5 then (if ((rd_T38 x153001 x5).f3 = true) then ((spec_slotOf.f k x154000 x154001 ((rd_T38 x153001 x5).f0)).bind fun t160 => (if 0 ≤ t160 then (if t160 < (x154000.length : Int) then (if (rd x154000 t160) < 0 then (some false) else (if 0 ≤ (rd x154000 t160) then (if (rd x154000 t160) < (x154001.length : Int) then (if ((rd_T38 x154001 (rd x154000 t160)).f2) = ((rd_T38 x153001 x5).f2) then (spec_DictSame.l0 k (wrap64 (x5 + 1)) x153000 x153001 x154000 x154001) else (some false)) else (none)) else (none))) else (none)) else (none))) else (spec_DictSame.l0 k (wrap64 (x5 + 1)) x153000 x153001 x154000 x154001)) else (none)) else (some true)
end
def spec_DictSame.f (k : Nat) (l0_0 : List Int) (l0_1 : List (S38)) (l1_0 : List Int) (l1_1 : List (S38)) : Option (Bool) := (spec_validDict.f k l0_0 l0_1).bind fun t154 => (if t154 = true then ((spec_validDict.f k l1_0 l1_1).bind fun t155 => (if t155 = true then ((spec_liveEntries.f k l0_0 l0_1).bind fun t156 => ((spec_liveEntries.f k l1_0 l1_1).bind fun t157 => (spec_DictSame.j0 k (t156 != t157) l0_0 l0_1 l1_0 l1_1))) else (spec_DictSame.j0 k true l0_0 l0_1 l1_0 l1_1))) else (spec_DictSame.j0 k true l0_0 l0_1 l1_0 l1_1))
theorem spec_DictSame.mono_l : ∀ k, (∀ y0 y1 y2 y3 y4, LeO (spec_DictSame.j0 k y0 y1 y2 y3 y4) (spec_DictSame.j0 (k + 1) y0 y1 y2 y3 y4)) ∧ (∀ y0 y1 y2 y3 y4, LeO (spec_DictSame.l0 k y0 y1 y2 y3 y4) (spec_DictSame.l0 (k + 1) y0 y1 y2 y3 y4))
 | 0 => ⟨fun _ _ _ _ _ r h => by simp [spec_DictSame.j0] at h, fun _ _ _ _ _ r h => by simp [spec_DictSame.l0] at h⟩
 | k + 1 => by
  obtain ⟨ih0, ih1⟩ := spec_DictSame.mono_l k
  refine ⟨?_, ?_⟩
  ·intro y0 y1 y2 y3 y4
   unfold spec_DictSame.j0
   repeat' first
   | (with_reducible exact ih0 _ _ _ _ _)
   | (with_reducible exact ih1 _ _ _ _ _)
   | (with_reducible exact spec_liveEntries.mono _ _ _)
   | (with_reducible exact spec_slotOf.mono _ _ _ _)
   | (with_reducible exact spec_validDict.mono _ _ _)
   | (with_reducible exact LeO.refl _)
   | (with_reducible exact LeO.none _)
   | (with_reducible refine LeO.ite ?_ ?_)
   | (with_reducible refine LeO.bind ?_ (fun _ => ?_))
   | exact ih0 _ _ _ _ _
   | exact ih1 _ _ _ _ _
   | exact spec_liveEntries.mono _ _ _
   | exact spec_slotOf.mono _ _ _ _
   | exact spec_validDict.mono _ _ _
   | exact LeO.none _
   | refine LeO.ite ?_ ?_
   | refine LeO.bind ?_ (fun _ => ?_)
  ·intro y0 y1 y2 y3 y4
   unfold spec_DictSame.l0
   repeat' first
   | (with_reducible exact ih0 _ _ _ _ _)
   | (with_reducible exact ih1 _ _ _ _ _)
   | (with_reducible exact spec_liveEntries.mono _ _ _)
   | (with_reducible exact spec_slotOf.mono _ _ _ _)
   | (with_reducible exact spec_validDict.mono _ _ _)
   | (with_reducible exact LeO.refl _)
   | (with_reducible exact LeO.none _)
   | (with_reducible refine LeO.ite ?_ ?_)
   | (with_reducible refine LeO.bind ?_ (fun _ => ?_))
   | exact ih0 _ _ _ _ _
   | exact ih1 _ _ _ _ _
   | exact spec_liveEntries.mono _ _ _
   | exact spec_slotOf.mono _ _ _ _
   | exact spec_validDict.mono _ _ _
   | exact LeO.none _
   | refine LeO.ite ?_ ?_
   | refine LeO.bind ?_ (fun _ => ?_)
theorem spec_DictSame.mono : ∀ a0 a1 a2 a3 k, LeO (spec_DictSame.f k a0 a1 a2 a3) (spec_DictSame.f (k + 1) a0 a1 a2 a3) := by
 intro a0 a1 a2 a3 k
 obtain ⟨ih0, ih1⟩ := spec_DictSame.mono_l k
 unfold spec_DictSame.f
 repeat' first
   | (with_reducible exact ih0 _ _ _ _ _)
   | (with_reducible exact ih1 _ _ _ _ _)
   | (with_reducible exact spec_liveEntries.mono _ _ _)
   | (with_reducible exact spec_slotOf.mono _ _ _ _)
   | (with_reducible exact spec_validDict.mono _ _ _)
   | (with_reducible exact LeO.refl _)
   | (with_reducible exact LeO.none _)
   | (with_reducible refine LeO.ite ?_ ?_)
   | (with_reducible refine LeO.bind ?_ (fun _ => ?_))
   | exact ih0 _ _ _ _ _
   | exact ih1 _ _ _ _ _
   | exact spec_liveEntries.mono _ _ _
   | exact spec_slotOf.mono _ _ _ _
   | exact spec_validDict.mono _ _ _
   | exact LeO.none _
   | refine LeO.ite ?_ ?_
   | refine LeO.bind ?_ (fun _ => ?_)
def spec_DictSame.T1 : Bool × List (List Nat × List Nat) := (true, [([], []), ([0], [0]), ([1], [1]), ([2, 1], [2]), ([3], [3]), ([4, 3, 3], [3, 4]), ([5, 3], [3, 5]), ([3, 6], [3, 6]), ([7, 5], [7]), ([8], [8]), ([9, 8, 8], [8, 9]), ([8], [8]), ([11, 10, 8], [8, 11]), ([10, 12, 8], [8, 10, 12]), ([8, 13], [8, 13])])
def spec_DictSame.B1 : List Nat := [0, 1, 3, 7, 15, 31, 63, 127, 255, 511, 1023, 511, 4095, 8191, 16383]
theorem spec_DictSame.tab1 : rtab .any (opsOf Try.f5 1) = spec_DictSame.T1 := by kernel_rfl
theorem spec_DictSame.bits1 : waitsOk spec_DictSame.T1.2 spec_DictSame.B1 = true := by kernel_rfl
def spec_DictSame.T8 : Bool × List (List Nat × List Nat) := (true, [([], []), ([0], [0]), ([], []), ([], []), ([3], [3]), ([2, 4], [2, 4]), ([1, 5], [1, 5]), ([6], [6]), ([7, 5, 0, 1, 2, 3, 4, 5, 6, 7], [7])])
def spec_DictSame.B8 : List Nat := [0, 1, 0, 0, 8, 28, 63, 127, 255]
theorem spec_DictSame.tab8 : rtab .any (opsOf Try.f5 8) = spec_DictSame.T8 := by kernel_rfl
theorem spec_DictSame.bits8 : waitsOk spec_DictSame.T8.2 spec_DictSame.B8 = true := by kernel_rfl
def spec_DictSame.T9 : Bool × List (List Nat × List Nat) := (true, [([], []), ([0], [0]), ([1], [1]), ([2], [2]), ([3, 2], [2, 3]), ([2], [2]), ([4, 5, 2], [2, 4, 5]), ([6, 2], [2, 6]), ([7, 2], [2, 7]), ([2], [2]), ([9, 2], [2, 9]), ([8, 10, 2], [2, 8, 10]), ([2, 11], [2, 11])])
def spec_DictSame.B9 : List Nat := [0, 1, 3, 7, 15, 7, 63, 127, 255, 7, 519, 2047, 4095]
theorem spec_DictSame.tab9 : rtab .any (opsOf Try.f5 9) = spec_DictSame.T9 := by kernel_rfl
theorem spec_DictSame.bits9 : waitsOk spec_DictSame.T9.2 spec_DictSame.B9 = true := by kernel_rfl
set_option maxHeartbeats 8000000 in
set_option maxRecDepth 100000 in
theorem spec_DictSame.calls (k : Nat) (A0_0 : Option Addr) (c0_0 : Nat) (l0_0 : List Int) (A0_1 : Option Addr) (c0_1 : Nat) (l0_1 : List (S38)) (A1_0 : Option Addr) (c1_0 : Nat) (l1_0 : List Int) (A1_1 : Option Addr) (c1_1 : Nat) (l1_1 : List (S38)) (r : Bool) (w : World) (hr0_0 : Kd.C (Kd.int .i64) w A0_0 l0_0.length l0_0) (hc0_0 : l0_0.length ≤ c0_0) (hr0_1 : Kd.C k38 w A0_1 l0_1.length l0_1) (hc0_1 : l0_1.length ≤ c0_1) (hr1_0 : Kd.C (Kd.int .i64) w A1_0 l1_0.length l1_0) (hc1_0 : l1_0.length ≤ c1_0) (hr1_1 : Kd.C k38 w A1_1 l1_1.length l1_1) (hc1_1 : l1_1.length ≤ c1_1) (h : spec_DictSame.f k l0_0 l0_1 l1_0 l1_1 = some r) :
  Calls Try.prog 5 #[.agg #[.slice A0_0 l0_0.length c0_0, .slice A0_1 l0_1.length c0_1], .agg #[.slice A1_0 l1_0.length c1_0, .slice A1_1 l1_1.length c1_1]] w fun e w' => e = .returned (.bool r) ∧ Below w.heap.size w w' := by
 have hu30 := Try.underlying30
 have hu38 := Try.underlying38
 have HR0_0 := aM hr0_0
 have HC0_0 := aM hc0_0
 clear hr0_0 hc0_0
 have HR0_1 := aM hr0_1
 have HC0_1 := aM hc0_1
 clear hr0_1 hc0_1
 have HR1_0 := aM hr1_0
 have HC1_0 := aM hc1_0
 clear hr1_0 hc1_0
 have HR1_1 := aM hr1_1
 have HC1_1 := aM hc1_1
 clear hr1_1 hc1_1
 have HB := aM (Below.refl w.heap.size w)
 have H : ((spec_validDict.f k l0_0 l0_1).bind fun t154 => (if t154 = true then ((spec_validDict.f k l1_0 l1_1).bind fun t155 => (if t155 = true then ((spec_liveEntries.f k l0_0 l0_1).bind fun t156 => ((spec_liveEntries.f k l1_0 l1_1).bind fun t157 => (spec_DictSame.j0 k (t156 != t157) l0_0 l0_1 l1_0 l1_1))) else (spec_DictSame.j0 k true l0_0 l0_1 l1_0 l1_1))) else (spec_DictSame.j0 k true l0_0 l0_1 l1_0 l1_1))) = some r := h
 clear h
 have HC3 := aM H
 clear H
 go_enter Try.func5, Try.ntmps5
 go_upto_region 1 with (first | ((with_reducible refine gate_dst (N := 2) rfl ?_); refine box_event ?hg (N := 2) ?hd (cs := #[.slice A0_0 l0_0.length c0_0, .slice A0_1 l0_1.length c0_1]) (t := 30) ?hr ?_; (case hd => rfl); (case hg => rfl); (case hr => first | (go_simp; done) | (go_simp; rfl)); intro gb152 hg w4 hbox hb; have n0_ := aM (below_step (px_h0 HB.out) hb); have n1_ := aM (hbox); have n2_ := aM ((by rw [hg]; exact (below_size (px_h0 HB.out)) : w.heap.size ≤ gb152)); have n3_ := aM ((by rw [hg]; exact (below_size (px_h0 HB.out)) : w.heap.size ≤ gb152)); clear HB; have HB := n0_; have BK152 := n1_; have GW152 := n2_; have GE152 := n3_; clear n0_ n1_ n2_ n3_; clear hb hbox hg) | ((with_reducible refine gate_dst (N := 3) rfl ?_); refine box_event ?hg (N := 3) ?hd (cs := #[.slice A1_0 l1_0.length c1_0, .slice A1_1 l1_1.length c1_1]) (t := 30) ?hr ?_; (case hd => rfl); (case hg => rfl); (case hr => first | (go_simp; done) | (go_simp; rfl)); intro gb153 hg w5 hbox hb; have n0_ := aM (blk_below (g := gb152) (o := .cells #[.slice A0_0 l0_0.length c0_0, .slice A0_1 l0_1.length c0_1] 30 (0, 0)) (px_bV BK152.out) hb); have n1_ := aM (below_step (px_h1 HB.out GE152.out) hb); have n2_ := aM (hbox); have n3_ := aM ((by rw [hg]; exact (below_size (px_h1 HB.out GE152.out)) : w.heap.size ≤ gb153)); have n4_ := aM ((by rw [hg]; exact (below_size (px_h1 HB.out GE152.out)) : w.heap.size ≤ gb153)); have n5_ := aM ((by rw [hg]; exact Nat.ne_of_lt (blk_lt (g := gb152) (o := .cells #[.slice A0_0 l0_0.length c0_0, .slice A0_1 l0_1.length c0_1] 30 (0, 0)) (px_bV BK152.out)) : gb152 ≠ gb153)); have n6_ := aM ((by rw [hg]; exact Nat.ne_of_gt (blk_lt (g := gb152) (o := .cells #[.slice A0_0 l0_0.length c0_0, .slice A0_1 l0_1.length c0_1] 30 (0, 0)) (px_bV BK152.out)) : gb153 ≠ gb152)); clear BK152; clear HB; have BK152 := n0_; have HB := n1_; have BK153 := n2_; have GW153 := n3_; have GE153 := n4_; have NB152_153 := n5_; have NB153_152 := n6_; clear n0_ n1_ n2_ n3_ n4_ n5_ n6_; clear hb hbox hg))
 (try simp only [Act.put, List.setIfInBounds_toArray, List.set_cons_zero, List.set_cons_succ])
 go_cut [22] (fun v22 wc => ∃ (kq : Nat) (x22_2 : Bool), v22 = .bool x22_2 ∧ Aside0 (spec_DictSame.j0 kq x22_2 l0_0 l0_1 l1_0 l1_1 = some r) ∧ Aside0 (kq ≤ k) ∧ Aside0 (wc.heap[gb152]? = some (.cells #[(.slice A0_0 l0_0.length c0_0), (.slice A0_1 l0_1.length c0_1)] 30 (0, 0))) ∧ Aside0 (wc.heap[gb153]? = some (.cells #[(.slice A1_0 l1_0.length c1_0), (.slice A1_1 l1_1.length c1_1)] 30 (0, 0))) ∧ Aside0 (Below w.heap.size w wc))
 case first =>
  have H := HC3.out
  clear HC3
  replace H := Option.bind_eq_some_iff.mp H
  obtain ⟨t154, A60, H⟩ := H
  replace H : (if t154 = true then ((spec_validDict.f k l1_0 l1_1).bind fun t155 => (if t155 = true then ((spec_liveEntries.f k l0_0 l0_1).bind fun t156 => ((spec_liveEntries.f k l1_0 l1_1).bind fun t157 => (spec_DictSame.j0 k (t156 != t157) l0_0 l0_1 l1_0 l1_1))) else (spec_DictSame.j0 k true l0_0 l0_1 l1_0 l1_1))) else (spec_DictSame.j0 k true l0_0 l0_1 l1_0 l1_1)) = some r := H
  have A6 := aM A60
  clear A60
  by_cases c7 : t154 = true
  ·subst c7
   have H1 : ((spec_validDict.f k l1_0 l1_1).bind fun t155 => (if t155 = true then ((spec_liveEntries.f k l0_0 l0_1).bind fun t156 => ((spec_liveEntries.f k l1_0 l1_1).bind fun t157 => (spec_DictSame.j0 k (t156 != t157) l0_0 l0_1 l1_0 l1_1))) else (spec_DictSame.j0 k true l0_0 l0_1 l1_0 l1_1))) = some r := by rw [if_pos rfl] at H; exact H
   clear H
   have H := H1
   clear H1
   replace H := Option.bind_eq_some_iff.mp H
   obtain ⟨t155, A80, H⟩ := H
   replace H : (if t155 = true then ((spec_liveEntries.f k l0_0 l0_1).bind fun t156 => ((spec_liveEntries.f k l1_0 l1_1).bind fun t157 => (spec_DictSame.j0 k (t156 != t157) l0_0 l0_1 l1_0 l1_1))) else (spec_DictSame.j0 k true l0_0 l0_1 l1_0 l1_1)) = some r := H
   have A8 := aM A80
   clear A80
   by_cases c9 : t155 = true
   ·subst c9
    have H1 : ((spec_liveEntries.f k l0_0 l0_1).bind fun t156 => ((spec_liveEntries.f k l1_0 l1_1).bind fun t157 => (spec_DictSame.j0 k (t156 != t157) l0_0 l0_1 l1_0 l1_1))) = some r := by rw [if_pos rfl] at H; exact H
    clear H
    have H := H1
    clear H1
    replace H := Option.bind_eq_some_iff.mp H
    obtain ⟨t156, A100, H⟩ := H
    replace H : ((spec_liveEntries.f k l1_0 l1_1).bind fun t157 => (spec_DictSame.j0 k (t156 != t157) l0_0 l0_1 l1_0 l1_1)) = some r := H
    have A10 := aM A100
    clear A100
    replace H := Option.bind_eq_some_iff.mp H
    obtain ⟨t157, A110, H⟩ := H
    replace H : (spec_DictSame.j0 k (t156 != t157) l0_0 l0_1 l1_0 l1_1) = some r := H
    have A11 := aM A110
    clear A110
    have H' := aM H
    clear H
    try go_wp2
    have n0_ := aM (blk_drew BK152.out)
    have n1_ := aM (blk_drew BK153.out)
    have n2_ := aM (below_drew1 HB.out)
    clear BK152
    clear BK153
    clear HB
    have BK152 := n0_
    have BK153 := n1_
    have HB := n2_
    clear n0_ n1_ n2_
    refine start_ (n := 15) (S := fun w' => w'.cell? ⟨gb152, 0, none⟩ = some (.slice A0_0 l0_0.length c0_0) ∧ w'.cell? ⟨gb152, 1, none⟩ = some (.slice A0_1 l0_1.length c0_1) ∧ w'.cell? ⟨gb153, 0, none⟩ = some (.slice A1_0 l1_0.length c1_0) ∧ w'.cell? ⟨gb153, 1, none⟩ = some (.slice A1_1 l1_1.length c1_1)) (ds := []) (px_l 0 15) (by kernel_rfl) rfl rfl ⟨(blk_cell BK152.out 0).trans rfl, (blk_cell BK152.out 1).trans rfl, (blk_cell BK153.out 0).trans rfl, (blk_cell BK153.out 1).trans rfl⟩ (fun hHeld => ?_); refine with_tabW spec_DictSame.tab1 spec_DictSame.bits1 (fun HT_ HW_ => ?_)
    generalize w5.drew = w12 at BK152 BK153 HB hHeld ⊢
    refine take_ (i := 0) (N := some 8) (v := ?_) (a' := ?_) (px_l 1 14) rfl rfl (take_ofW HT_.out HW_.out (by kernel_rfl)) (fun _ _ _ h => h) (Or.inl ⟨by rfl, ?_⟩) hHeld ?_ ?_
    rotate_left
    ·rintro w' ⟨s0, s1, s2, s3⟩
     go_simp
     with_reducible rfl
    rotate_left
    ·simp only [px_q]
     rfl
    refine one_ (i := 1) (N := some 9) (px_l 2 13) rfl rfl (one_of HT_.out (by kernel_rfl)) (by decide) (fun K hK => ?_)
    refine goes_ Try.func11 (by kernel_rfl) rfl #[.agg #[.slice A0_0 l0_0.length c0_0, .slice A0_1 l0_1.length c0_1]] (by rfl) rfl rfl px_dn ?_
    with_reducible refine (spec_validDict.calls k _ _ l0_0 _ _ l0_1 true _ ?side1 ?side2 ?side3 ?side4 A6.out).mono ?_
    (case side1 => exact px_cV ((Kd.C_below HR0_0.out HB.out)))
    (case side2 => exact HC0_0.out)
    (case side3 => exact px_cV ((Kd.C_below HR0_1.out HB.out)))
    (case side4 => exact HC0_1.out)
    rintro e w13 ⟨rfl, hb⟩
    refine ⟨_, rfl, ?_⟩
    have n0_ := aM (blk_below (g := gb152) (o := .cells #[.slice A0_0 l0_0.length c0_0, .slice A0_1 l0_1.length c0_1] 30 (0, 0)) (px_bV BK152.out) hb)
    have n1_ := aM (blk_below (g := gb153) (o := .cells #[.slice A1_0 l1_0.length c1_0, .slice A1_1 l1_1.length c1_1] 30 (0, 0)) (px_bV BK153.out) hb)
    have n2_ := aM (below_step (px_h2 HB.out GE152.out GE153.out) hb)
    clear BK152
    clear BK153
    clear HB
    have BK152 := n0_
    have BK153 := n1_
    have HB := n2_
    clear n0_ n1_ n2_
    (try clear hb)
    (try clear hb2)
    (try clear hk)
    (try clear hi)
    refine hK.out _ _ ⟨(blk_cell BK152.out 0).trans rfl, (blk_cell BK152.out 1).trans rfl, (blk_cell BK153.out 0).trans rfl, (blk_cell BK153.out 1).trans rfl⟩ (fun hHeld => ?_)
    clear hK K
    refine norm_ (a' := ?_) ?_ ?_
    rotate_left
    ·show Act.put _ (some 9) _ = _
     simp only [px_q]
     rfl
    refine pure_ (i := 2) (N := some 10) (v := ?_) (a' := ?_) (px_l 3 12) rfl rfl (any_of HT_.out (by kernel_rfl)) (fun _ _ _ h => h) (Or.inl ⟨by rfl, ?_⟩) ?_ ?_
    rotate_left
    ·intro w'
     go_simp
     with_reducible rfl
    rotate_left
    ·simp only [px_q]
     rfl
    refine pure_ (i := 3) (N := some 11) (v := ?_) (a' := ?_) (px_l 4 11) rfl rfl (any_of HT_.out (by kernel_rfl)) (fun _ _ _ h => h) (Or.inl ⟨by rfl, ?_⟩) ?_ ?_
    rotate_left
    ·intro w'
     go_simp
     with_reducible rfl
    rotate_left
    ·simp only [px_q]
     rfl
    refine take_ (i := 4) (N := some 12) (v := ?_) (a' := ?_) (px_l 5 10) rfl rfl (take_ofW HT_.out HW_.out (by kernel_rfl)) (fun _ _ _ h => h) (Or.inl ⟨by rfl, ?_⟩) hHeld ?_ ?_
    rotate_left
    ·rintro w' ⟨s0, s1, s2, s3⟩
     go_simp
     with_reducible rfl
    rotate_left
    ·simp only [px_q]
     rfl
    refine one_ (i := 5) (N := some 13) (px_l 6 9) rfl rfl (one_of HT_.out (by kernel_rfl)) (by decide) (fun K hK => ?_)
    refine goes_ Try.func11 (by kernel_rfl) rfl #[.agg #[.slice A1_0 l1_0.length c1_0, .slice A1_1 l1_1.length c1_1]] (by rfl) rfl rfl px_dn ?_
    with_reducible refine (spec_validDict.calls k _ _ l1_0 _ _ l1_1 true _ ?side1 ?side2 ?side3 ?side4 A8.out).mono ?_
    (case side1 => exact px_cV ((Kd.C_below HR1_0.out HB.out)))
    (case side2 => exact HC1_0.out)
    (case side3 => exact px_cV ((Kd.C_below HR1_1.out HB.out)))
    (case side4 => exact HC1_1.out)
    rintro e w14 ⟨rfl, hb⟩
    refine ⟨_, rfl, ?_⟩
    have n0_ := aM (blk_below (g := gb152) (o := .cells #[.slice A0_0 l0_0.length c0_0, .slice A0_1 l0_1.length c0_1] 30 (0, 0)) (px_bV BK152.out) hb)
    have n1_ := aM (blk_below (g := gb153) (o := .cells #[.slice A1_0 l1_0.length c1_0, .slice A1_1 l1_1.length c1_1] 30 (0, 0)) (px_bV BK153.out) hb)
    have n2_ := aM (below_step (px_h2 HB.out GE152.out GE153.out) hb)
    clear BK152
    clear BK153
    clear HB
    have BK152 := n0_
    have BK153 := n1_
    have HB := n2_
    clear n0_ n1_ n2_
    (try clear hb)
    (try clear hb2)
    (try clear hk)
    (try clear hi)
    refine hK.out _ _ ⟨(blk_cell BK152.out 0).trans rfl, (blk_cell BK152.out 1).trans rfl, (blk_cell BK153.out 0).trans rfl, (blk_cell BK153.out 1).trans rfl⟩ (fun hHeld => ?_)
    clear hK K
    refine norm_ (a' := ?_) ?_ ?_
    rotate_left
    ·show Act.put _ (some 13) _ = _
     simp only [px_q]
     rfl
    refine pure_ (i := 6) (N := some 14) (v := ?_) (a' := ?_) (px_l 7 8) rfl rfl (any_of HT_.out (by kernel_rfl)) (fun _ _ _ h => h) (Or.inl ⟨by rfl, ?_⟩) ?_ ?_
    rotate_left
    ·intro w'
     go_simp
     with_reducible rfl
    rotate_left
    ·simp only [px_q]
     rfl
    refine pure_ (i := 7) (N := some 15) (v := ?_) (a' := ?_) (px_l 8 7) rfl rfl (any_of HT_.out (by kernel_rfl)) (fun _ _ _ h => h) (Or.inl ⟨by rfl, ?_⟩) ?_ ?_
    rotate_left
    ·intro w'
     go_simp
     with_reducible rfl
    rotate_left
    ·simp only [px_q]
     rfl
    refine pure_ (i := 8) (N := some 16) (v := ?_) (a' := ?_) (px_l 9 6) rfl rfl (any_of HT_.out (by kernel_rfl)) (fun _ _ _ h => h) (Or.inl ⟨by rfl, ?_⟩) ?_ ?_
    rotate_left
    ·intro w'
     go_simp
     with_reducible rfl
    rotate_left
    ·simp only [px_q]
     rfl
    refine take_ (i := 9) (N := some 17) (v := ?_) (a' := ?_) (px_l 10 5) rfl rfl (take_ofW HT_.out HW_.out (by kernel_rfl)) (fun _ _ _ h => h) (Or.inl ⟨by rfl, ?_⟩) hHeld ?_ ?_
    rotate_left
    ·rintro w' ⟨s0, s1, s2, s3⟩
     go_simp
     with_reducible rfl
    rotate_left
    ·simp only [px_q]
     rfl
    refine take_ (i := 11) (N := some 19) (v := ?_) (a' := ?_) #[true, true, true, true, true, true, true, true, true, true, false, true, false, false, false] rfl rfl (take_ofW HT_.out HW_.out (by kernel_rfl)) (fun _ _ _ h => h) (Or.inl ⟨by rfl, ?_⟩) hHeld ?_ ?_
    rotate_left
    ·rintro w' ⟨s0, s1, s2, s3⟩
     go_simp
     with_reducible rfl
    rotate_left
    ·simp only [px_q]
     rfl
    refine one_ (i := 10) (N := some 18) (px_l 12 3) rfl rfl (one_of HT_.out (by kernel_rfl)) (by decide) (fun K hK => ?_)
    refine goes_ Try.func12 (by kernel_rfl) rfl #[.agg #[.slice A0_0 l0_0.length c0_0, .slice A0_1 l0_1.length c0_1]] (by rfl) rfl rfl px_dn ?_
    with_reducible refine (spec_liveEntries.calls k _ _ l0_0 _ _ l0_1 t156 _ ?side1 ?side2 ?side3 ?side4 A10.out).mono ?_
    (case side1 => exact px_cV ((Kd.C_below HR0_0.out HB.out)))
    (case side2 => exact HC0_0.out)
    (case side3 => exact px_cV ((Kd.C_below HR0_1.out HB.out)))
    (case side4 => exact HC0_1.out)
    rintro e w15 ⟨rfl, hb⟩
    refine ⟨_, rfl, ?_⟩
    have n0_ := aM (blk_below (g := gb152) (o := .cells #[.slice A0_0 l0_0.length c0_0, .slice A0_1 l0_1.length c0_1] 30 (0, 0)) (px_bV BK152.out) hb)
    have n1_ := aM (blk_below (g := gb153) (o := .cells #[.slice A1_0 l1_0.length c1_0, .slice A1_1 l1_1.length c1_1] 30 (0, 0)) (px_bV BK153.out) hb)
    have n2_ := aM (below_step (px_h2 HB.out GE152.out GE153.out) hb)
    clear BK152
    clear BK153
    clear HB
    have BK152 := n0_
    have BK153 := n1_
    have HB := n2_
    clear n0_ n1_ n2_
    (try clear hb)
    (try clear hb2)
    (try clear hk)
    (try clear hi)
    refine hK.out _ _ ⟨(blk_cell BK152.out 0).trans rfl, (blk_cell BK152.out 1).trans rfl, (blk_cell BK153.out 0).trans rfl, (blk_cell BK153.out 1).trans rfl⟩ (fun hHeld => ?_)
    clear hK K
    refine norm_ (a' := ?_) ?_ ?_
    rotate_left
    ·show Act.put _ (some 18) _ = _
     simp only [px_q]
     rfl
    refine one_ (i := 12) (N := some 20) (px_l 13 2) rfl rfl (one_of HT_.out (by kernel_rfl)) (by decide) (fun K hK => ?_)
    refine goes_ Try.func12 (by kernel_rfl) rfl #[.agg #[.slice A1_0 l1_0.length c1_0, .slice A1_1 l1_1.length c1_1]] (by rfl) rfl rfl px_dn ?_
    with_reducible refine (spec_liveEntries.calls k _ _ l1_0 _ _ l1_1 t157 _ ?side1 ?side2 ?side3 ?side4 A11.out).mono ?_
    (case side1 => exact px_cV ((Kd.C_below HR1_0.out HB.out)))
    (case side2 => exact HC1_0.out)
    (case side3 => exact px_cV ((Kd.C_below HR1_1.out HB.out)))
    (case side4 => exact HC1_1.out)
    rintro e w16 ⟨rfl, hb⟩
    refine ⟨_, rfl, ?_⟩
    have n0_ := aM (blk_below (g := gb152) (o := .cells #[.slice A0_0 l0_0.length c0_0, .slice A0_1 l0_1.length c0_1] 30 (0, 0)) (px_bV BK152.out) hb)
    have n1_ := aM (blk_below (g := gb153) (o := .cells #[.slice A1_0 l1_0.length c1_0, .slice A1_1 l1_1.length c1_1] 30 (0, 0)) (px_bV BK153.out) hb)
    have n2_ := aM (below_step (px_h2 HB.out GE152.out GE153.out) hb)
    clear BK152
    clear BK153
    clear HB
    have BK152 := n0_
    have BK153 := n1_
    have HB := n2_
    clear n0_ n1_ n2_
    (try clear hb)
    (try clear hb2)
    (try clear hk)
    (try clear hi)
    refine hK.out _ _ ⟨(blk_cell BK152.out 0).trans rfl, (blk_cell BK152.out 1).trans rfl, (blk_cell BK153.out 0).trans rfl, (blk_cell BK153.out 1).trans rfl⟩ (fun hHeld => ?_)
    clear hK K
    refine norm_ (a' := ?_) ?_ ?_
    rotate_left
    ·show Act.put _ (some 20) _ = _
     simp only [px_q]
     rfl
    refine pure_ (i := 13) (N := some 21) (v := ?_) (a' := ?_) (px_l 14 1) rfl rfl (any_of HT_.out (by kernel_rfl)) (fun _ _ _ h => h) (Or.inl ⟨by rfl, ?_⟩) ?_ ?_
    rotate_left
    ·intro w'
     go_simp
     with_reducible rfl
    rotate_left
    ·simp only [px_q]
     rfl
    refine pure_ (i := 14) (N := some 22) (v := ?_) (a' := ?_) (px_l 15 0) rfl rfl (any_of HT_.out (by kernel_rfl)) (fun _ _ _ h => h) (Or.inl ⟨by rfl, ?_⟩) ?_ ?_
    rotate_left
    ·intro w'
     go_simp
     with_reducible rfl
    rotate_left
    ·simp only [px_q]
     rfl
    refine done_ (done_of HT_.out (by kernel_rfl)) ?_
    try go_wp2
    go_meet
    case rel => exact ⟨_, ((t156 != t157)), px_rf, H', ⟨by first | omega | exact Nat.le_refl _⟩, ⟨px_bV BK152.out⟩, ⟨px_bV BK153.out⟩, ⟨px_h2 HB.out GE152.out GE153.out⟩⟩
   ·replace c9 := Bool.eq_false_iff.mpr c9
    subst c9
    have H1 : (spec_DictSame.j0 k true l0_0 l0_1 l1_0 l1_1) = some r := by rw [if_neg (show ¬ (false = true) by decide)] at H; exact H
    clear H
    have H := H1
    clear H1
    have H' := aM H
    clear H
    try go_wp2
    have n0_ := aM (blk_drew BK152.out)
    have n1_ := aM (blk_drew BK153.out)
    have n2_ := aM (below_drew1 HB.out)
    clear BK152
    clear BK153
    clear HB
    have BK152 := n0_
    have BK153 := n1_
    have HB := n2_
    clear n0_ n1_ n2_
    refine start_ (n := 15) (S := fun w' => w'.cell? ⟨gb152, 0, none⟩ = some (.slice A0_0 l0_0.length c0_0) ∧ w'.cell? ⟨gb152, 1, none⟩ = some (.slice A0_1 l0_1.length c0_1) ∧ w'.cell? ⟨gb153, 0, none⟩ = some (.slice A1_0 l1_0.length c1_0) ∧ w'.cell? ⟨gb153, 1, none⟩ = some (.slice A1_1 l1_1.length c1_1)) (ds := []) (px_l 0 15) (by kernel_rfl) rfl rfl ⟨(blk_cell BK152.out 0).trans rfl, (blk_cell BK152.out 1).trans rfl, (blk_cell BK153.out 0).trans rfl, (blk_cell BK153.out 1).trans rfl⟩ (fun hHeld => ?_); refine with_tabW spec_DictSame.tab1 spec_DictSame.bits1 (fun HT_ HW_ => ?_)
    generalize w5.drew = w17 at BK152 BK153 HB hHeld ⊢
    refine take_ (i := 0) (N := some 8) (v := ?_) (a' := ?_) (px_l 1 14) rfl rfl (take_ofW HT_.out HW_.out (by kernel_rfl)) (fun _ _ _ h => h) (Or.inl ⟨by rfl, ?_⟩) hHeld ?_ ?_
    rotate_left
    ·rintro w' ⟨s0, s1, s2, s3⟩
     go_simp
     with_reducible rfl
    rotate_left
    ·simp only [px_q]
     rfl
    refine one_ (i := 1) (N := some 9) (px_l 2 13) rfl rfl (one_of HT_.out (by kernel_rfl)) (by decide) (fun K hK => ?_)
    refine goes_ Try.func11 (by kernel_rfl) rfl #[.agg #[.slice A0_0 l0_0.length c0_0, .slice A0_1 l0_1.length c0_1]] (by rfl) rfl rfl px_dn ?_
    with_reducible refine (spec_validDict.calls k _ _ l0_0 _ _ l0_1 true _ ?side1 ?side2 ?side3 ?side4 A6.out).mono ?_
    (case side1 => exact px_cV ((Kd.C_below HR0_0.out HB.out)))
    (case side2 => exact HC0_0.out)
    (case side3 => exact px_cV ((Kd.C_below HR0_1.out HB.out)))
    (case side4 => exact HC0_1.out)
    rintro e w18 ⟨rfl, hb⟩
    refine ⟨_, rfl, ?_⟩
    have n0_ := aM (blk_below (g := gb152) (o := .cells #[.slice A0_0 l0_0.length c0_0, .slice A0_1 l0_1.length c0_1] 30 (0, 0)) (px_bV BK152.out) hb)
    have n1_ := aM (blk_below (g := gb153) (o := .cells #[.slice A1_0 l1_0.length c1_0, .slice A1_1 l1_1.length c1_1] 30 (0, 0)) (px_bV BK153.out) hb)
    have n2_ := aM (below_step (px_h2 HB.out GE152.out GE153.out) hb)
    clear BK152
    clear BK153
    clear HB
    have BK152 := n0_
    have BK153 := n1_
    have HB := n2_
    clear n0_ n1_ n2_
    (try clear hb)
    (try clear hb2)
    (try clear hk)
    (try clear hi)
    refine hK.out _ _ ⟨(blk_cell BK152.out 0).trans rfl, (blk_cell BK152.out 1).trans rfl, (blk_cell BK153.out 0).trans rfl, (blk_cell BK153.out 1).trans rfl⟩ (fun hHeld => ?_)
    clear hK K
    refine norm_ (a' := ?_) ?_ ?_
    rotate_left
    ·show Act.put _ (some 9) _ = _
     simp only [px_q]
     rfl
    refine pure_ (i := 2) (N := some 10) (v := ?_) (a' := ?_) (px_l 3 12) rfl rfl (any_of HT_.out (by kernel_rfl)) (fun _ _ _ h => h) (Or.inl ⟨by rfl, ?_⟩) ?_ ?_
    rotate_left
    ·intro w'
     go_simp
     with_reducible rfl
    rotate_left
    ·simp only [px_q]
     rfl
    refine pure_ (i := 3) (N := some 11) (v := ?_) (a' := ?_) (px_l 4 11) rfl rfl (any_of HT_.out (by kernel_rfl)) (fun _ _ _ h => h) (Or.inl ⟨by rfl, ?_⟩) ?_ ?_
    rotate_left
    ·intro w'
     go_simp
     with_reducible rfl
    rotate_left
    ·simp only [px_q]
     rfl
    refine take_ (i := 4) (N := some 12) (v := ?_) (a' := ?_) (px_l 5 10) rfl rfl (take_ofW HT_.out HW_.out (by kernel_rfl)) (fun _ _ _ h => h) (Or.inl ⟨by rfl, ?_⟩) hHeld ?_ ?_
    rotate_left
    ·rintro w' ⟨s0, s1, s2, s3⟩
     go_simp
     with_reducible rfl
    rotate_left
    ·simp only [px_q]
     rfl
    refine one_ (i := 5) (N := some 13) (px_l 6 9) rfl rfl (one_of HT_.out (by kernel_rfl)) (by decide) (fun K hK => ?_)
    refine goes_ Try.func11 (by kernel_rfl) rfl #[.agg #[.slice A1_0 l1_0.length c1_0, .slice A1_1 l1_1.length c1_1]] (by rfl) rfl rfl px_dn ?_
    with_reducible refine (spec_validDict.calls k _ _ l1_0 _ _ l1_1 false _ ?side1 ?side2 ?side3 ?side4 A8.out).mono ?_
    (case side1 => exact px_cV ((Kd.C_below HR1_0.out HB.out)))
    (case side2 => exact HC1_0.out)
    (case side3 => exact px_cV ((Kd.C_below HR1_1.out HB.out)))
    (case side4 => exact HC1_1.out)
    rintro e w19 ⟨rfl, hb⟩
    refine ⟨_, rfl, ?_⟩
    have n0_ := aM (blk_below (g := gb152) (o := .cells #[.slice A0_0 l0_0.length c0_0, .slice A0_1 l0_1.length c0_1] 30 (0, 0)) (px_bV BK152.out) hb)
    have n1_ := aM (blk_below (g := gb153) (o := .cells #[.slice A1_0 l1_0.length c1_0, .slice A1_1 l1_1.length c1_1] 30 (0, 0)) (px_bV BK153.out) hb)
    have n2_ := aM (below_step (px_h2 HB.out GE152.out GE153.out) hb)
    clear BK152
    clear BK153
    clear HB
    have BK152 := n0_
    have BK153 := n1_
    have HB := n2_
    clear n0_ n1_ n2_
    (try clear hb)
    (try clear hb2)
    (try clear hk)
    (try clear hi)
    refine hK.out _ _ ⟨(blk_cell BK152.out 0).trans rfl, (blk_cell BK152.out 1).trans rfl, (blk_cell BK153.out 0).trans rfl, (blk_cell BK153.out 1).trans rfl⟩ (fun hHeld => ?_)
    clear hK K
    refine norm_ (a' := ?_) ?_ ?_
    rotate_left
    ·show Act.put _ (some 13) _ = _
     simp only [px_q]
     rfl
    refine pure_ (i := 6) (N := some 14) (v := ?_) (a' := ?_) (px_l 7 8) rfl rfl (any_of HT_.out (by kernel_rfl)) (fun _ _ _ h => h) (Or.inl ⟨by rfl, ?_⟩) ?_ ?_
    rotate_left
    ·intro w'
     go_simp
     with_reducible rfl
    rotate_left
    ·simp only [px_q]
     rfl
    refine pure_ (i := 7) (N := some 15) (v := ?_) (a' := ?_) (px_l 8 7) rfl rfl (any_of HT_.out (by kernel_rfl)) (fun _ _ _ h => h) (Or.inl ⟨by rfl, ?_⟩) ?_ ?_
    rotate_left
    ·intro w'
     go_simp
     with_reducible rfl
    rotate_left
    ·simp only [px_q]
     rfl
    refine pure_ (i := 8) (N := some 16) (v := ?_) (a' := ?_) (px_l 9 6) rfl rfl (any_of HT_.out (by kernel_rfl)) (fun _ _ _ h => h) (Or.inl ⟨by rfl, ?_⟩) ?_ ?_
    rotate_left
    ·intro w'
     go_simp
     with_reducible rfl
    rotate_left
    ·simp only [px_q]
     rfl
    refine pure_ (i := 9) (N := some 17) (v := undef) (a' := ?_) (px_l 10 5) rfl rfl (any_of HT_.out (by kernel_rfl)) (fun _ _ _ h => h) (Or.inr ⟨by rfl, rfl⟩) ?_ ?_
    rotate_left
    ·simp only [px_q]
     rfl
    refine pure_ (i := 10) (N := some 18) (v := undef) (a' := ?_) (px_l 11 4) rfl rfl (any_of HT_.out (by kernel_rfl)) (fun _ _ _ h => h) (Or.inr ⟨by rfl, rfl⟩) ?_ ?_
    rotate_left
    ·simp only [px_q]
     rfl
    refine pure_ (i := 11) (N := some 19) (v := undef) (a' := ?_) (px_l 12 3) rfl rfl (any_of HT_.out (by kernel_rfl)) (fun _ _ _ h => h) (Or.inr ⟨by rfl, rfl⟩) ?_ ?_
    rotate_left
    ·simp only [px_q]
     rfl
    refine pure_ (i := 12) (N := some 20) (v := undef) (a' := ?_) (px_l 13 2) rfl rfl (any_of HT_.out (by kernel_rfl)) (fun _ _ _ h => h) (Or.inr ⟨by rfl, rfl⟩) ?_ ?_
    rotate_left
    ·simp only [px_q]
     rfl
    refine pure_ (i := 13) (N := some 21) (v := undef) (a' := ?_) (px_l 14 1) rfl rfl (any_of HT_.out (by kernel_rfl)) (fun _ _ _ h => h) (Or.inr ⟨by rfl, rfl⟩) ?_ ?_
    rotate_left
    ·simp only [px_q]
     rfl
    refine pure_ (i := 14) (N := some 22) (v := ?_) (a' := ?_) (px_l 15 0) rfl rfl (any_of HT_.out (by kernel_rfl)) (fun _ _ _ h => h) (Or.inl ⟨by rfl, ?_⟩) ?_ ?_
    rotate_left
    ·intro w'
     go_simp
     with_reducible rfl
    rotate_left
    ·simp only [px_q]
     rfl
    refine done_ (done_of HT_.out (by kernel_rfl)) ?_
    try go_wp2
    go_meet
    case rel => exact ⟨_, (true), px_rf, H', ⟨by first | omega | exact Nat.le_refl _⟩, ⟨px_bV BK152.out⟩, ⟨px_bV BK153.out⟩, ⟨px_h2 HB.out GE152.out GE153.out⟩⟩
  ·replace c7 := Bool.eq_false_iff.mpr c7
   subst c7
   have H1 : (spec_DictSame.j0 k true l0_0 l0_1 l1_0 l1_1) = some r := by rw [if_neg (show ¬ (false = true) by decide)] at H; exact H
   clear H
   have H := H1
   clear H1
   have H' := aM H
   clear H
   try go_wp2
   have n0_ := aM (blk_drew BK152.out)
   have n1_ := aM (blk_drew BK153.out)
   have n2_ := aM (below_drew1 HB.out)
   clear BK152
   clear BK153
   clear HB
   have BK152 := n0_
   have BK153 := n1_
   have HB := n2_
   clear n0_ n1_ n2_
   refine start_ (n := 15) (S := fun w' => w'.cell? ⟨gb152, 0, none⟩ = some (.slice A0_0 l0_0.length c0_0) ∧ w'.cell? ⟨gb152, 1, none⟩ = some (.slice A0_1 l0_1.length c0_1)) (ds := []) (px_l 0 15) (by kernel_rfl) rfl rfl ⟨(blk_cell BK152.out 0).trans rfl, (blk_cell BK152.out 1).trans rfl⟩ (fun hHeld => ?_); refine with_tabW spec_DictSame.tab1 spec_DictSame.bits1 (fun HT_ HW_ => ?_)
   generalize w5.drew = w20 at BK152 BK153 HB hHeld ⊢
   refine take_ (i := 0) (N := some 8) (v := ?_) (a' := ?_) (px_l 1 14) rfl rfl (take_ofW HT_.out HW_.out (by kernel_rfl)) (fun _ _ _ h => h) (Or.inl ⟨by rfl, ?_⟩) hHeld ?_ ?_
   rotate_left
   ·rintro w' ⟨s0, s1⟩
    go_simp
    with_reducible rfl
   rotate_left
   ·simp only [px_q]
    rfl
   refine one_ (i := 1) (N := some 9) (px_l 2 13) rfl rfl (one_of HT_.out (by kernel_rfl)) (by decide) (fun K hK => ?_)
   refine goes_ Try.func11 (by kernel_rfl) rfl #[.agg #[.slice A0_0 l0_0.length c0_0, .slice A0_1 l0_1.length c0_1]] (by rfl) rfl rfl px_dn ?_
   with_reducible refine (spec_validDict.calls k _ _ l0_0 _ _ l0_1 false _ ?side1 ?side2 ?side3 ?side4 A6.out).mono ?_
   (case side1 => exact px_cV ((Kd.C_below HR0_0.out HB.out)))
   (case side2 => exact HC0_0.out)
   (case side3 => exact px_cV ((Kd.C_below HR0_1.out HB.out)))
   (case side4 => exact HC0_1.out)
   rintro e w21 ⟨rfl, hb⟩
   refine ⟨_, rfl, ?_⟩
   have n0_ := aM (blk_below (g := gb152) (o := .cells #[.slice A0_0 l0_0.length c0_0, .slice A0_1 l0_1.length c0_1] 30 (0, 0)) (px_bV BK152.out) hb)
   have n1_ := aM (blk_below (g := gb153) (o := .cells #[.slice A1_0 l1_0.length c1_0, .slice A1_1 l1_1.length c1_1] 30 (0, 0)) (px_bV BK153.out) hb)
   have n2_ := aM (below_step (px_h2 HB.out GE152.out GE153.out) hb)
   clear BK152
   clear BK153
   clear HB
   have BK152 := n0_
   have BK153 := n1_
   have HB := n2_
   clear n0_ n1_ n2_
   (try clear hb)
   (try clear hb2)
   (try clear hk)
   (try clear hi)
   refine hK.out _ _ ⟨(blk_cell BK152.out 0).trans rfl, (blk_cell BK152.out 1).trans rfl⟩ (fun hHeld => ?_)
   clear hK K
   refine norm_ (a' := ?_) ?_ ?_
   rotate_left
   ·show Act.put _ (some 9) _ = _
    simp only [px_q]
    rfl
   refine pure_ (i := 2) (N := some 10) (v := ?_) (a' := ?_) (px_l 3 12) rfl rfl (any_of HT_.out (by kernel_rfl)) (fun _ _ _ h => h) (Or.inl ⟨by rfl, ?_⟩) ?_ ?_
   rotate_left
   ·intro w'
    go_simp
    with_reducible rfl
   rotate_left
   ·simp only [px_q]
    rfl
   refine pure_ (i := 3) (N := some 11) (v := ?_) (a' := ?_) (px_l 4 11) rfl rfl (any_of HT_.out (by kernel_rfl)) (fun _ _ _ h => h) (Or.inl ⟨by rfl, ?_⟩) ?_ ?_
   rotate_left
   ·intro w'
    go_simp
    with_reducible rfl
   rotate_left
   ·simp only [px_q]
    rfl
   refine pure_ (i := 4) (N := some 12) (v := undef) (a' := ?_) (px_l 5 10) rfl rfl (any_of HT_.out (by kernel_rfl)) (fun _ _ _ h => h) (Or.inr ⟨by rfl, rfl⟩) ?_ ?_
   rotate_left
   ·simp only [px_q]
    rfl
   refine pure_ (i := 5) (N := some 13) (v := undef) (a' := ?_) (px_l 6 9) rfl rfl (any_of HT_.out (by kernel_rfl)) (fun _ _ _ h => h) (Or.inr ⟨by rfl, rfl⟩) ?_ ?_
   rotate_left
   ·simp only [px_q]
    rfl
   refine pure_ (i := 6) (N := some 14) (v := undef) (a' := ?_) (px_l 7 8) rfl rfl (any_of HT_.out (by kernel_rfl)) (fun _ _ _ h => h) (Or.inr ⟨by rfl, rfl⟩) ?_ ?_
   rotate_left
   ·simp only [px_q]
    rfl
   refine pure_ (i := 7) (N := some 15) (v := ?_) (a' := ?_) (px_l 8 7) rfl rfl (any_of HT_.out (by kernel_rfl)) (fun _ _ _ h => h) (Or.inl ⟨by rfl, ?_⟩) ?_ ?_
   rotate_left
   ·intro w'
    go_simp
    with_reducible rfl
   rotate_left
   ·simp only [px_q]
    rfl
   refine pure_ (i := 8) (N := some 16) (v := ?_) (a' := ?_) (px_l 9 6) rfl rfl (any_of HT_.out (by kernel_rfl)) (fun _ _ _ h => h) (Or.inl ⟨by rfl, ?_⟩) ?_ ?_
   rotate_left
   ·intro w'
    go_simp
    with_reducible rfl
   rotate_left
   ·simp only [px_q]
    rfl
   refine pure_ (i := 9) (N := some 17) (v := undef) (a' := ?_) (px_l 10 5) rfl rfl (any_of HT_.out (by kernel_rfl)) (fun _ _ _ h => h) (Or.inr ⟨by rfl, rfl⟩) ?_ ?_
   rotate_left
   ·simp only [px_q]
    rfl
   refine pure_ (i := 10) (N := some 18) (v := undef) (a' := ?_) (px_l 11 4) rfl rfl (any_of HT_.out (by kernel_rfl)) (fun _ _ _ h => h) (Or.inr ⟨by rfl, rfl⟩) ?_ ?_
   rotate_left
   ·simp only [px_q]
    rfl
   refine pure_ (i := 11) (N := some 19) (v := undef) (a' := ?_) (px_l 12 3) rfl rfl (any_of HT_.out (by kernel_rfl)) (fun _ _ _ h => h) (Or.inr ⟨by rfl, rfl⟩) ?_ ?_
   rotate_left
   ·simp only [px_q]
    rfl
   refine pure_ (i := 12) (N := some 20) (v := undef) (a' := ?_) (px_l 13 2) rfl rfl (any_of HT_.out (by kernel_rfl)) (fun _ _ _ h => h) (Or.inr ⟨by rfl, rfl⟩) ?_ ?_
   rotate_left
   ·simp only [px_q]
    rfl
   refine pure_ (i := 13) (N := some 21) (v := undef) (a' := ?_) (px_l 14 1) rfl rfl (any_of HT_.out (by kernel_rfl)) (fun _ _ _ h => h) (Or.inr ⟨by rfl, rfl⟩) ?_ ?_
   rotate_left
   ·simp only [px_q]
    rfl
   refine pure_ (i := 14) (N := some 22) (v := ?_) (a' := ?_) (px_l 15 0) rfl rfl (any_of HT_.out (by kernel_rfl)) (fun _ _ _ h => h) (Or.inl ⟨by rfl, ?_⟩) ?_ ?_
   rotate_left
   ·intro w'
    go_simp
    with_reducible rfl
   rotate_left
   ·simp only [px_q]
    rfl
   refine done_ (done_of HT_.out (by kernel_rfl)) ?_
   try go_wp2
   go_meet
   case rel => exact ⟨_, (true), px_rf, H', ⟨by first | omega | exact Nat.le_refl _⟩, ⟨px_bV BK152.out⟩, ⟨px_bV BK153.out⟩, ⟨px_h2 HB.out GE152.out GE153.out⟩⟩
 case rest =>
  clear HC3
  try clear c1
  try clear p2
  try clear c5
  try clear c7
  try clear c9
  try clear c11
  try clear c12
  obtain ⟨kq, x22_2, rfl, HA, HJ2, BK152, BK153, HB⟩ := hcut
  cases kq with
  | zero => exact absurd HA.out (by simp [spec_DictSame.j0])
  | succ kj2 =>
   have H := HA.out
   clear HA
   simp only [spec_DictSame.j0] at H
   by_cases c22 : x22_2 = true
   ·subst c22
    have H1 : (some false) = some r := by rw [if_pos rfl] at H; exact H
    clear H
    have H := H1
    clear H1
    obtain rfl := Option.some.inj H
    go_wp2
    go_ret
    exact ⟨by first | rfl | (simp [errW_none, errW_some] <;> rfl) | (simp [*, errW_none, errW_some] <;> rfl), px_h2 HB.out GE152.out GE153.out⟩
   ·replace c22 := Bool.eq_false_iff.mpr c22
    subst c22
    have H1 : (spec_DictSame.l0 kj2 0 l0_0 l0_1 l1_0 l1_1) = some r := by rw [if_neg (show ¬ (false = true) by decide)] at H; exact H
    clear H
    have H := H1
    clear H1
    have H' := aM H
    clear H
    go_wp2
    go_loopg [5] kj2 (fun kq v5 w' => ∃ (x5_2 : Int), v5 = .int .i64 x5_2 ∧ Aside0 (spec_DictSame.l0 kq x5_2 l0_0 l0_1 l1_0 l1_1 = some r) ∧ Aside0 (kq ≤ kj2) ∧ Aside0 (w'.heap[gb152]? = some (.cells #[(.slice A0_0 l0_0.length c0_0), (.slice A0_1 l0_1.length c0_1)] 30 (0, 0))) ∧ Aside0 (w'.heap[gb153]? = some (.cells #[(.slice A1_0 l1_0.length c1_0), (.slice A1_1 l1_1.length c1_1)] 30 (0, 0))) ∧ Aside0 (Below w.heap.size w w'))
    case atStart => exact ⟨(0), px_rf, H', ⟨Nat.le_refl _⟩, ⟨px_bV BK152.out⟩, ⟨px_bV BK153.out⟩, ⟨px_h2 HB.out GE152.out GE153.out⟩⟩
    case round =>
     clear H'
     try clear c1
     try clear c2
     try clear p2
     try clear c5
     try clear c7
     try clear c9
     try clear c11
     try clear c12
     try clear c22
     try clear p2
     obtain ⟨x5_2, rfl, HA, HK2, BK152, BK153, HB⟩ := hrel
     cases gk with
     | zero => exact absurd HA.out (by simp [spec_DictSame.l0])
     | succ k2 =>
      have H := HA.out
      clear HA
      simp only [spec_DictSame.l0] at H
      by_cases c23 : x5_2 < (l0_1.length : Int)
      ·rw [if_pos c23] at H
       have c23b0 : decide (x5_2 < (l0_1.length : Int)) = true := decide_eq_true c23
       clear c23
       by_cases c24 : 0 ≤ x5_2
       ·rw [if_pos c24] at H
        have c24b0 : decide (0 ≤ x5_2) = true := decide_eq_true c24
        clear c24
        obtain ⟨bq25, hbq25⟩ : ∃ b_ : Bool, b_ = ((rd_T38 l0_1 x5_2).f3) := ⟨_, rfl⟩
        replace H : (if (bq25 = true) then ((spec_slotOf.f k2 l1_0 l1_1 ((rd_T38 l0_1 x5_2).f0)).bind fun t160 => (if 0 ≤ t160 then (if t160 < (l1_0.length : Int) then (if (rd l1_0 t160) < 0 then (some false) else (if 0 ≤ (rd l1_0 t160) then (if (rd l1_0 t160) < (l1_1.length : Int) then (if ((rd_T38 l1_1 (rd l1_0 t160)).f2) = ((rd_T38 l0_1 x5_2).f2) then (spec_DictSame.l0 k2 (wrap64 (x5_2 + 1)) l0_0 l0_1 l1_0 l1_1) else (some false)) else (none)) else (none))) else (none)) else (none))) else (spec_DictSame.l0 k2 (wrap64 (x5_2 + 1)) l0_0 l0_1 l1_0 l1_1)) = some r := by rw [← hbq25] at H; exact H
        have Nbq25 := aM hbq25
        clear hbq25
        by_cases c26 : (bq25 = true)
        ·subst c26
         have H1 : ((spec_slotOf.f k2 l1_0 l1_1 ((rd_T38 l0_1 x5_2).f0)).bind fun t160 => (if 0 ≤ t160 then (if t160 < (l1_0.length : Int) then (if (rd l1_0 t160) < 0 then (some false) else (if 0 ≤ (rd l1_0 t160) then (if (rd l1_0 t160) < (l1_1.length : Int) then (if ((rd_T38 l1_1 (rd l1_0 t160)).f2) = ((rd_T38 l0_1 x5_2).f2) then (spec_DictSame.l0 k2 (wrap64 (x5_2 + 1)) l0_0 l0_1 l1_0 l1_1) else (some false)) else (none)) else (none))) else (none)) else (none))) = some r := by rw [if_pos rfl] at H; exact H
         clear H
         have H := H1
         clear H1
         replace H := Option.bind_eq_some_iff.mp H
         obtain ⟨t160, A270, H⟩ := H
         replace H : (if 0 ≤ t160 then (if t160 < (l1_0.length : Int) then (if (rd l1_0 t160) < 0 then (some false) else (if 0 ≤ (rd l1_0 t160) then (if (rd l1_0 t160) < (l1_1.length : Int) then (if ((rd_T38 l1_1 (rd l1_0 t160)).f2) = ((rd_T38 l0_1 x5_2).f2) then (spec_DictSame.l0 k2 (wrap64 (x5_2 + 1)) l0_0 l0_1 l1_0 l1_1) else (some false)) else (none)) else (none))) else (none)) else (none)) = some r := H
         have A27 := aM A270
         clear A270
         by_cases c28 : 0 ≤ t160
         ·rw [if_pos c28] at H
          have c28b0 : decide (0 ≤ t160) = true := decide_eq_true c28
          clear c28
          by_cases c29 : t160 < (l1_0.length : Int)
          ·rw [if_pos c29] at H
           have c29b0 : decide (t160 < (l1_0.length : Int)) = true := decide_eq_true c29
           clear c29
           by_cases c30 : (rd l1_0 t160) < 0
           ·rw [if_pos c30] at H
            have c30b0 : decide ((rd l1_0 t160) < 0) = true := decide_eq_true c30
            clear c30
            obtain rfl := Option.some.inj H
            have hnb31 := NB152_153.out
            have hnc31 := NB153_152.out
            have hcz32_0 : wr.cell? ⟨gb152, 0, none⟩ = some (.slice A0_0 l0_0.length c0_0) := (blk_cell BK152.out 0).trans rfl
            have hcz32_1 : wr.cell? ⟨gb152, 1, none⟩ = some (.slice A0_1 l0_1.length c0_1) := (blk_cell BK152.out 1).trans rfl
            have hfz32_0 := blk_frozen BK152.out 0
            have hfz32_1 := blk_frozen BK152.out 1
            have p158 : 0 ≤ (x5_2 : Int) := px_od
            have q158 : x5_2 < (l0_1.length : Int) := px_od
            obtain ⟨ad158, e158, hx158_0, hx158_1, hx158_2, hx158_3⟩ := at_T38 HR0_1.out x5_2 p158 q158
            (try rw [← Nbq25.out] at hx158_3)
            (try rw [← Nbq25.out] at hw158_3)
            cases e158
            replace hx158_0 := px_hx HB.out hx158_0
            replace hx158_1 := px_hx HB.out hx158_1
            replace hx158_2 := px_hx HB.out hx158_2
            replace hx158_3 := px_hx HB.out hx158_3
            replace p158 := eq_true p158
            replace q158 := eq_true q158
            try go_wp2_with (first | ((with_reducible refine gate_dst (N := 6) rfl ?_); refine box_event ?hg (N := 6) ?hd (cs := #[.string (⟨#[]⟩ : ByteArray), .int .i64 0, .int .i64 0, .bool false]) (t := 38) ?hr ?_; (case hd => rfl); (case hg => rfl); (case hr => first | (go_simp; done) | (go_simp; rfl)); intro gb159 hg w33 hbox hb; have n0_ := aM (blk_below (g := gb152) (o := .cells #[.slice A0_0 l0_0.length c0_0, .slice (some ad158) l0_1.length c0_1] 30 (0, 0)) (px_bV BK152.out) hb); have n1_ := aM (blk_below (g := gb153) (o := .cells #[.slice A1_0 l1_0.length c1_0, .slice A1_1 l1_1.length c1_1] 30 (0, 0)) (px_bV BK153.out) hb); have n2_ := aM (below_step (px_h2 HB.out GE152.out GE153.out) hb); have n3_ := aM (hbox); have n4_ := aM ((by rw [hg]; exact (below_size (px_h2 HB.out GE152.out GE153.out)) : w.heap.size ≤ gb159)); have n5_ := aM ((by rw [hg]; exact (below_size (px_h2 HB.out GE152.out GE153.out)) : w.heap.size ≤ gb159)); have n6_ := aM ((by rw [hg]; exact Nat.ne_of_lt (blk_lt (g := gb152) (o := .cells #[.slice A0_0 l0_0.length c0_0, .slice (some ad158) l0_1.length c0_1] 30 (0, 0)) (px_bV BK152.out)) : gb152 ≠ gb159)); have n7_ := aM ((by rw [hg]; exact Nat.ne_of_gt (blk_lt (g := gb152) (o := .cells #[.slice A0_0 l0_0.length c0_0, .slice (some ad158) l0_1.length c0_1] 30 (0, 0)) (px_bV BK152.out)) : gb159 ≠ gb152)); have n8_ := aM ((by rw [hg]; exact Nat.ne_of_lt (blk_lt (g := gb153) (o := .cells #[.slice A1_0 l1_0.length c1_0, .slice A1_1 l1_1.length c1_1] 30 (0, 0)) (px_bV BK153.out)) : gb153 ≠ gb159)); have n9_ := aM ((by rw [hg]; exact Nat.ne_of_gt (blk_lt (g := gb153) (o := .cells #[.slice A1_0 l1_0.length c1_0, .slice A1_1 l1_1.length c1_1] 30 (0, 0)) (px_bV BK153.out)) : gb159 ≠ gb153)); clear BK152; clear BK153; clear HB; have BK152 := n0_; have BK153 := n1_; have HB := n2_; have BK159 := n3_; have GW159 := n4_; have GE159 := n5_; have NB152_159 := n6_; have NB159_152 := n7_; have NB153_159 := n8_; have NB159_153 := n9_; clear n0_ n1_ n2_ n3_ n4_ n5_ n6_ n7_ n8_ n9_; clear hb hbox hg; have hnb34 := NB159_152.out; have hnc34 := NB152_159.out; have hnb35 := NB159_153.out; have hnc35 := NB153_159.out; have hcz36_0 : w33.cell? ⟨gb159, 0, none⟩ = some (.string (⟨#[]⟩ : ByteArray)) := (blk_cell BK159.out 0).trans rfl; have hcz36_1 : w33.cell? ⟨gb159, 1, none⟩ = some (.int .i64 0) := (blk_cell BK159.out 1).trans rfl; have hcz36_2 : w33.cell? ⟨gb159, 2, none⟩ = some (.int .i64 0) := (blk_cell BK159.out 2).trans rfl; have hcz36_3 : w33.cell? ⟨gb159, 3, none⟩ = some (.bool false) := (blk_cell BK159.out 3).trans rfl; have hfz36_0 := blk_frozen BK159.out 0; have hfz36_1 := blk_frozen BK159.out 1; have hfz36_2 := blk_frozen BK159.out 2; have hfz36_3 := blk_frozen BK159.out 3))
            have n0_ : Aside0 (((((w33.setCell ⟨gb159, 0, none⟩ (.string ((rd_T38 l0_1 x5_2).f0))).setCell ⟨gb159, 1, none⟩ (.int .i64 ((rd_T38 l0_1 x5_2).f1))).setCell ⟨gb159, 2, none⟩ (.int .i64 ((rd_T38 l0_1 x5_2).f2))).setCell ⟨gb159, 3, none⟩ (.bool true)).heap[gb152]? = some (.cells #[.slice A0_0 l0_0.length c0_0, .slice (some ad158) l0_1.length c0_1] 30 (0, 0))) := ⟨by (with_reducible repeat (first | refine blk_drewN ?_ _ | refine blk_drew ?_ | refine blk_alloc ?_ _)); refine blk_far ?_ NB152_159.out _; (with_reducible repeat (first | refine blk_drewN ?_ _ | refine blk_drew ?_ | refine blk_alloc ?_ _)); refine blk_far ?_ NB152_159.out _; (with_reducible repeat (first | refine blk_drewN ?_ _ | refine blk_drew ?_ | refine blk_alloc ?_ _)); refine blk_far ?_ NB152_159.out _; (with_reducible repeat (first | refine blk_drewN ?_ _ | refine blk_drew ?_ | refine blk_alloc ?_ _)); refine blk_far ?_ NB152_159.out _; (with_reducible repeat (first | refine blk_drewN ?_ _ | refine blk_drew ?_ | refine blk_alloc ?_ _)); exact BK152.out⟩
            have n1_ : Aside0 (((((w33.setCell ⟨gb159, 0, none⟩ (.string ((rd_T38 l0_1 x5_2).f0))).setCell ⟨gb159, 1, none⟩ (.int .i64 ((rd_T38 l0_1 x5_2).f1))).setCell ⟨gb159, 2, none⟩ (.int .i64 ((rd_T38 l0_1 x5_2).f2))).setCell ⟨gb159, 3, none⟩ (.bool true)).heap[gb153]? = some (.cells #[.slice A1_0 l1_0.length c1_0, .slice A1_1 l1_1.length c1_1] 30 (0, 0))) := ⟨by (with_reducible repeat (first | refine blk_drewN ?_ _ | refine blk_drew ?_ | refine blk_alloc ?_ _)); refine blk_far ?_ NB153_159.out _; (with_reducible repeat (first | refine blk_drewN ?_ _ | refine blk_drew ?_ | refine blk_alloc ?_ _)); refine blk_far ?_ NB153_159.out _; (with_reducible repeat (first | refine blk_drewN ?_ _ | refine blk_drew ?_ | refine blk_alloc ?_ _)); refine blk_far ?_ NB153_159.out _; (with_reducible repeat (first | refine blk_drewN ?_ _ | refine blk_drew ?_ | refine blk_alloc ?_ _)); refine blk_far ?_ NB153_159.out _; (with_reducible repeat (first | refine blk_drewN ?_ _ | refine blk_drew ?_ | refine blk_alloc ?_ _)); exact BK153.out⟩
            have n2_ : Aside0 (((((w33.setCell ⟨gb159, 0, none⟩ (.string ((rd_T38 l0_1 x5_2).f0))).setCell ⟨gb159, 1, none⟩ (.int .i64 ((rd_T38 l0_1 x5_2).f1))).setCell ⟨gb159, 2, none⟩ (.int .i64 ((rd_T38 l0_1 x5_2).f2))).setCell ⟨gb159, 3, none⟩ (.bool true)).heap[gb159]? = some (.cells #[.string ((rd_T38 l0_1 x5_2).f0), .int .i64 ((rd_T38 l0_1 x5_2).f1), .int .i64 ((rd_T38 l0_1 x5_2).f2), .bool true] 38 (0, 0))) := ⟨by (with_reducible repeat (first | refine blk_drewN ?_ _ | refine blk_drew ?_ | refine blk_alloc ?_ _)); refine blk_put (cs := #[.string ((rd_T38 l0_1 x5_2).f0), .int .i64 ((rd_T38 l0_1 x5_2).f1), .int .i64 ((rd_T38 l0_1 x5_2).f2), .bool false]) ?_ 3 _ rfl; (with_reducible repeat (first | refine blk_drewN ?_ _ | refine blk_drew ?_ | refine blk_alloc ?_ _)); refine blk_put (cs := #[.string ((rd_T38 l0_1 x5_2).f0), .int .i64 ((rd_T38 l0_1 x5_2).f1), .int .i64 0, .bool false]) ?_ 2 _ rfl; (with_reducible repeat (first | refine blk_drewN ?_ _ | refine blk_drew ?_ | refine blk_alloc ?_ _)); refine blk_put (cs := #[.string ((rd_T38 l0_1 x5_2).f0), .int .i64 0, .int .i64 0, .bool false]) ?_ 1 _ rfl; (with_reducible repeat (first | refine blk_drewN ?_ _ | refine blk_drew ?_ | refine blk_alloc ?_ _)); refine blk_put (cs := #[.string (⟨#[]⟩ : ByteArray), .int .i64 0, .int .i64 0, .bool false]) ?_ 0 _ rfl; (with_reducible repeat (first | refine blk_drewN ?_ _ | refine blk_drew ?_ | refine blk_alloc ?_ _)); exact BK159.out⟩
            have n3_ : Aside0 (Below w.heap.size w ((((w33.setCell ⟨gb159, 0, none⟩ (.string ((rd_T38 l0_1 x5_2).f0))).setCell ⟨gb159, 1, none⟩ (.int .i64 ((rd_T38 l0_1 x5_2).f1))).setCell ⟨gb159, 2, none⟩ (.int .i64 ((rd_T38 l0_1 x5_2).f2))).setCell ⟨gb159, 3, none⟩ (.bool true))) := ⟨px_h3 HB.out GE152.out GE153.out GE159.out⟩
            (try clear BK152)
            (try clear BK153)
            (try clear BK159)
            (try clear HB)
            generalize ((((w33.setCell ⟨gb159, 0, none⟩ (.string ((rd_T38 l0_1 x5_2).f0))).setCell ⟨gb159, 1, none⟩ (.int .i64 ((rd_T38 l0_1 x5_2).f1))).setCell ⟨gb159, 2, none⟩ (.int .i64 ((rd_T38 l0_1 x5_2).f2))).setCell ⟨gb159, 3, none⟩ (.bool true)) = w37 at n0_ n1_ n2_ n3_ ⊢
            have BK152 := n0_
            have BK153 := n1_
            have BK159 := n2_
            have HB := n3_
            clear n0_ n1_ n2_ n3_
            have n0_ := aM (blk_drew BK152.out)
            have n1_ := aM (blk_drew BK153.out)
            have n2_ := aM (blk_drew BK159.out)
            have n3_ := aM (below_drew1 HB.out)
            clear BK152
            clear BK153
            clear BK159
            clear HB
            have BK152 := n0_
            have BK153 := n1_
            have BK159 := n2_
            have HB := n3_
            clear n0_ n1_ n2_ n3_
            have p161 : 0 ≤ (t160 : Int) := px_od
            have q161 : t160 < (l1_0.length : Int) := px_od
            obtain ⟨ad161, e161, hx161_0⟩ := Kd.at_int HR1_0.out t160 p161 q161
            have hw161_0 := hx161_0
            cases e161
            replace hx161_0 := px_hx HB.out hx161_0
            replace p161 := eq_true p161
            replace q161 := eq_true q161
            refine start_ (n := 9) (S := fun w' => w'.cell? ⟨gb153, 0, none⟩ = some (.slice (some ad161) l1_0.length c1_0) ∧ w'.cell? ⟨gb153, 1, none⟩ = some (.slice A1_1 l1_1.length c1_1) ∧ w'.cell? ⟨gb159, 0, none⟩ = some (.string ((rd_T38 l0_1 x5_2).f0)) ∧ w'.cell? ⟨gb159, 1, none⟩ = some (.int .i64 ((rd_T38 l0_1 x5_2).f1)) ∧ w'.cell? ⟨gb159, 2, none⟩ = some (.int .i64 ((rd_T38 l0_1 x5_2).f2)) ∧ w'.cell? ⟨gb159, 3, none⟩ = some (.bool true) ∧ w'.cell? (ad161.add (t160).toNat) = some (.int .i64 (rd l1_0 t160))) (ds := []) (px_l 0 9) (by kernel_rfl) rfl rfl ⟨(blk_cell BK153.out 0).trans rfl, (blk_cell BK153.out 1).trans rfl, (blk_cell BK159.out 0).trans rfl, (blk_cell BK159.out 1).trans rfl, (blk_cell BK159.out 2).trans rfl, (blk_cell BK159.out 3).trans rfl, ((HB.out.cell (World.block_lt_of_cell? w _ hw161_0)).trans hw161_0)⟩ (fun hHeld => ?_); refine with_tabW spec_DictSame.tab8 spec_DictSame.bits8 (fun HT_ HW_ => ?_)
            generalize w37.drew = w38 at BK152 BK153 BK159 HB hx161_0 hHeld ⊢
            refine pure_ (i := 0) (N := some 38) (v := ?_) (a' := ?_) (px_l 1 8) rfl rfl (any_of HT_.out (by kernel_rfl)) (fun _ _ _ h => h) (Or.inl ⟨by rfl, ?_⟩) ?_ ?_
            rotate_left
            ·intro w'
             go_simp
             with_reducible rfl
            rotate_left
            ·simp only [px_q]
             rfl
            refine pure_ (i := 3) (N := some 41) (v := ?_) (a' := ?_) #[true, false, false, true, false, false, false, false, false] rfl rfl (any_of HT_.out (by kernel_rfl)) (fun _ _ _ h => h) (Or.inl ⟨by rfl, ?_⟩) ?_ ?_
            rotate_left
            ·intro w'
             go_simp
             with_reducible rfl
            rotate_left
            ·simp only [px_q]
             rfl
            refine take_ (i := 1) (N := some 39) (v := ?_) (a' := ?_) #[true, true, false, true, false, false, false, false, false] rfl rfl (take_ofW HT_.out HW_.out (by kernel_rfl)) (fun _ _ _ h => h) (Or.inl ⟨by rfl, ?_⟩) hHeld ?_ ?_
            rotate_left
            ·rintro w' ⟨s0, s1, s2, s3, s4, s5, s6⟩
             go_simp
             with_reducible rfl
            rotate_left
            ·simp only [px_q]
             rfl
            refine take_ (i := 2) (N := some 40) (v := ?_) (a' := ?_) (px_l 4 5) rfl rfl (take_ofW HT_.out HW_.out (by kernel_rfl)) (fun _ _ _ h => h) (Or.inl ⟨by rfl, ?_⟩) hHeld ?_ ?_
            rotate_left
            ·rintro w' ⟨s0, s1, s2, s3, s4, s5, s6⟩
             go_simp
             with_reducible rfl
            rotate_left
            ·simp only [px_q]
             rfl
            refine take_ (i := 4) (N := some 42) (v := ?_) (a' := ?_) (px_l 5 4) rfl rfl (take_ofW HT_.out HW_.out (by kernel_rfl)) (fun _ _ _ h => h) (Or.inl ⟨by rfl, ?_⟩) hHeld ?_ ?_
            rotate_left
            ·rintro w' ⟨s0, s1, s2, s3, s4, s5, s6⟩
             go_simp
             with_reducible rfl
            rotate_left
            ·simp only [px_q]
             rfl
            refine one_ (i := 5) (N := some 43) (px_l 6 3) rfl rfl (one_of HT_.out (by kernel_rfl)) (by decide) (fun K hK => ?_)
            refine goes_ Try.func13 (by kernel_rfl) rfl #[.agg #[.slice (some ad161) l1_0.length c1_0, .slice A1_1 l1_1.length c1_1], .string ((rd_T38 l0_1 x5_2).f0)] (by rfl) rfl rfl px_dn ?_
            with_reducible refine (spec_slotOf.calls k2 _ _ l1_0 _ _ l1_1 ((rd_T38 l0_1 x5_2).f0) t160 _ ?side1 ?side2 ?side3 ?side4 A27.out).mono ?_
            (case side1 => exact px_cV ((Kd.C_below HR1_0.out HB.out)))
            (case side2 => exact HC1_0.out)
            (case side3 => exact px_cV ((Kd.C_below HR1_1.out HB.out)))
            (case side4 => exact HC1_1.out)
            rintro e w39 ⟨rfl, hb⟩
            refine ⟨_, rfl, ?_⟩
            have n0_ := aM (blk_below (g := gb152) (o := .cells #[.slice A0_0 l0_0.length c0_0, .slice (some ad158) l0_1.length c0_1] 30 (0, 0)) (px_bV BK152.out) hb)
            have n1_ := aM (blk_below (g := gb153) (o := .cells #[.slice (some ad161) l1_0.length c1_0, .slice A1_1 l1_1.length c1_1] 30 (0, 0)) (px_bV BK153.out) hb)
            have n2_ := aM (blk_below (g := gb159) (o := .cells #[.string ((rd_T38 l0_1 x5_2).f0), .int .i64 ((rd_T38 l0_1 x5_2).f1), .int .i64 ((rd_T38 l0_1 x5_2).f2), .bool true] 38 (0, 0)) (px_bV BK159.out) hb)
            have n3_ := aM (below_step (px_h3 HB.out GE152.out GE153.out GE159.out) hb)
            clear BK152
            clear BK153
            clear BK159
            clear HB
            have BK152 := n0_
            have BK153 := n1_
            have BK159 := n2_
            have HB := n3_
            clear n0_ n1_ n2_ n3_
            (try clear hb)
            (try clear hb2)
            (try clear hk)
            (try clear hi)
            refine hK.out _ _ ⟨(blk_cell BK153.out 0).trans rfl, (blk_cell BK153.out 1).trans rfl, (blk_cell BK159.out 0).trans rfl, (blk_cell BK159.out 1).trans rfl, (blk_cell BK159.out 2).trans rfl, (blk_cell BK159.out 3).trans rfl, ((HB.out.cell (World.block_lt_of_cell? w _ hw161_0)).trans hw161_0)⟩ (fun hHeld => ?_)
            clear hK K
            refine norm_ (a' := ?_) ?_ ?_
            rotate_left
            ·show Act.put _ (some 43) _ = _
             simp only [px_q]
             rfl
            refine pure_ (i := 6) (N := some 44) (v := ?_) (a' := ?_) (px_l 7 2) rfl rfl (any_of HT_.out (by kernel_rfl)) (fun _ _ _ h => h) (Or.inl ⟨by rfl, ?_⟩) ?_ ?_
            rotate_left
            ·intro w'
             go_simp
             with_reducible rfl
            rotate_left
            ·simp only [px_q]
             rfl
            refine take_ (i := 7) (N := some 45) (v := ?_) (a' := ?_) (px_l 8 1) rfl rfl (take_ofW HT_.out HW_.out (by kernel_rfl)) (fun _ _ _ h => h) (Or.inl ⟨by rfl, ?_⟩) hHeld ?_ ?_
            rotate_left
            ·rintro w' ⟨s0, s1, s2, s3, s4, s5, s6⟩
             go_simp
             with_reducible rfl
            rotate_left
            ·simp only [px_q]
             rfl
            refine pure_ (i := 8) (N := some 7) (v := ?_) (a' := ?_) (px_l 9 0) rfl rfl (any_of HT_.out (by kernel_rfl)) (fun _ _ _ h => h) (Or.inl ⟨by rfl, ?_⟩) ?_ ?_
            rotate_left
            ·intro w'
             go_simp
             with_reducible rfl
            rotate_left
            ·simp only [px_q]
             rfl
            refine done_ (done_of HT_.out (by kernel_rfl)) ?_
            try go_wp2
            have n0_ := aM (blk_drew BK152.out)
            have n1_ := aM (blk_drew BK153.out)
            have n2_ := aM (blk_drew BK159.out)
            have n3_ := aM (below_drew1 HB.out)
            clear BK152
            clear BK153
            clear BK159
            clear HB
            have BK152 := n0_
            have BK153 := n1_
            have BK159 := n2_
            have HB := n3_
            clear n0_ n1_ n2_ n3_
            refine start_ (n := 13) (S := fun w' => True) (ds := []) (px_l 0 13) (by kernel_rfl) rfl rfl trivial (fun hHeld => ?_); refine with_tabW spec_DictSame.tab9 spec_DictSame.bits9 (fun HT_ HW_ => ?_)
            generalize w39.drew = w40 at BK152 BK153 BK159 HB hHeld ⊢
            refine pure_ (i := 0) (N := some 46) (v := ?_) (a' := ?_) (px_l 1 12) rfl rfl (any_of HT_.out (by kernel_rfl)) (fun _ _ _ h => h) (Or.inl ⟨by rfl, ?_⟩) ?_ ?_
            rotate_left
            ·intro w'
             go_simp
             with_reducible rfl
            rotate_left
            ·simp only [px_q]
             rfl
            refine pure_ (i := 1) (N := some 47) (v := ?_) (a' := ?_) (px_l 2 11) rfl rfl (any_of HT_.out (by kernel_rfl)) (fun _ _ _ h => h) (Or.inl ⟨by rfl, ?_⟩) ?_ ?_
            rotate_left
            ·intro w'
             go_simp
             with_reducible rfl
            rotate_left
            ·simp only [px_q]
             rfl
            refine pure_ (i := 2) (N := some 48) (v := ?_) (a' := ?_) (px_l 3 10) rfl rfl (any_of HT_.out (by kernel_rfl)) (fun _ _ _ h => h) (Or.inl ⟨by rfl, ?_⟩) ?_ ?_
            rotate_left
            ·intro w'
             go_simp
             with_reducible rfl
            rotate_left
            ·simp only [px_q]
             rfl
            refine pure_ (i := 3) (N := some 49) (v := undef) (a' := ?_) (px_l 4 9) rfl rfl (any_of HT_.out (by kernel_rfl)) (fun _ _ _ h => h) (Or.inr ⟨by rfl, rfl⟩) ?_ ?_
            rotate_left
            ·simp only [px_q]
             rfl
            refine pure_ (i := 4) (N := some 50) (v := undef) (a' := ?_) (px_l 5 8) rfl rfl (any_of HT_.out (by kernel_rfl)) (fun _ _ _ h => h) (Or.inr ⟨by rfl, rfl⟩) ?_ ?_
            rotate_left
            ·simp only [px_q]
             rfl
            refine pure_ (i := 5) (N := some 51) (v := undef) (a' := ?_) (px_l 6 7) rfl rfl (any_of HT_.out (by kernel_rfl)) (fun _ _ _ h => h) (Or.inr ⟨by rfl, rfl⟩) ?_ ?_
            rotate_left
            ·simp only [px_q]
             rfl
            refine pure_ (i := 6) (N := some 52) (v := undef) (a' := ?_) (px_l 7 6) rfl rfl (any_of HT_.out (by kernel_rfl)) (fun _ _ _ h => h) (Or.inr ⟨by rfl, rfl⟩) ?_ ?_
            rotate_left
            ·simp only [px_q]
             rfl
            refine pure_ (i := 7) (N := some 53) (v := undef) (a' := ?_) (px_l 8 5) rfl rfl (any_of HT_.out (by kernel_rfl)) (fun _ _ _ h => h) (Or.inr ⟨by rfl, rfl⟩) ?_ ?_
            rotate_left
            ·simp only [px_q]
             rfl
            refine pure_ (i := 8) (N := some 54) (v := undef) (a' := ?_) (px_l 9 4) rfl rfl (any_of HT_.out (by kernel_rfl)) (fun _ _ _ h => h) (Or.inr ⟨by rfl, rfl⟩) ?_ ?_
            rotate_left
            ·simp only [px_q]
             rfl
            refine pure_ (i := 9) (N := some 55) (v := undef) (a' := ?_) (px_l 10 3) rfl rfl (any_of HT_.out (by kernel_rfl)) (fun _ _ _ h => h) (Or.inr ⟨by rfl, rfl⟩) ?_ ?_
            rotate_left
            ·simp only [px_q]
             rfl
            refine pure_ (i := 10) (N := some 56) (v := undef) (a' := ?_) (px_l 11 2) rfl rfl (any_of HT_.out (by kernel_rfl)) (fun _ _ _ h => h) (Or.inr ⟨by rfl, rfl⟩) ?_ ?_
            rotate_left
            ·simp only [px_q]
             rfl
            refine pure_ (i := 11) (N := some 57) (v := undef) (a' := ?_) (px_l 12 1) rfl rfl (any_of HT_.out (by kernel_rfl)) (fun _ _ _ h => h) (Or.inr ⟨by rfl, rfl⟩) ?_ ?_
            rotate_left
            ·simp only [px_q]
             rfl
            refine pure_ (i := 12) (N := some 58) (v := ?_) (a' := ?_) (px_l 13 0) rfl rfl (any_of HT_.out (by kernel_rfl)) (fun _ _ _ h => h) (Or.inl ⟨by rfl, ?_⟩) ?_ ?_
            rotate_left
            ·intro w'
             go_simp
             with_reducible rfl
            rotate_left
            ·simp only [px_q]
             rfl
            refine done_ (done_of HT_.out (by kernel_rfl)) ?_
            try go_wp2
            go_ret
            exact ⟨by first | rfl | (simp [errW_none, errW_some] <;> rfl) | (simp [*, errW_none, errW_some] <;> rfl), px_h3 HB.out GE152.out GE153.out GE159.out⟩
           ·rw [if_neg c30] at H
            have c30b0 : decide ((rd l1_0 t160) < 0) = false := decide_eq_false c30
            clear c30
            by_cases c41 : 0 ≤ (rd l1_0 t160)
            ·rw [if_pos c41] at H
             have c41b0 : decide (0 ≤ (rd l1_0 t160)) = true := decide_eq_true c41
             clear c41
             by_cases c42 : (rd l1_0 t160) < (l1_1.length : Int)
             ·rw [if_pos c42] at H
              have c42b0 : decide ((rd l1_0 t160) < (l1_1.length : Int)) = true := decide_eq_true c42
              clear c42
              by_cases c43 : ((rd_T38 l1_1 (rd l1_0 t160)).f2) = ((rd_T38 l0_1 x5_2).f2)
              ·rw [if_pos c43] at H
               have c43b0 : (((rd_T38 l1_1 (rd l1_0 t160)).f2) == ((rd_T38 l0_1 x5_2).f2)) = true := beq_iff_eq.mpr c43
               have c43b1 : (((rd_T38 l1_1 (rd l1_0 t160)).f2) != ((rd_T38 l0_1 x5_2).f2)) = false := bne_eq_false_iff_eq.mpr c43
               clear c43
               have H' := aM H
               clear H
               have hnb44 := NB152_153.out
               have hnc44 := NB153_152.out
               have hcz45_0 : wr.cell? ⟨gb152, 0, none⟩ = some (.slice A0_0 l0_0.length c0_0) := (blk_cell BK152.out 0).trans rfl
               have hcz45_1 : wr.cell? ⟨gb152, 1, none⟩ = some (.slice A0_1 l0_1.length c0_1) := (blk_cell BK152.out 1).trans rfl
               have hfz45_0 := blk_frozen BK152.out 0
               have hfz45_1 := blk_frozen BK152.out 1
               have p158 : 0 ≤ (x5_2 : Int) := px_od
               have q158 : x5_2 < (l0_1.length : Int) := px_od
               obtain ⟨ad158, e158, hx158_0, hx158_1, hx158_2, hx158_3⟩ := at_T38 HR0_1.out x5_2 p158 q158
               (try rw [← Nbq25.out] at hx158_3)
               (try rw [← Nbq25.out] at hw158_3)
               cases e158
               replace hx158_0 := px_hx HB.out hx158_0
               replace hx158_1 := px_hx HB.out hx158_1
               replace hx158_2 := px_hx HB.out hx158_2
               replace hx158_3 := px_hx HB.out hx158_3
               replace p158 := eq_true p158
               replace q158 := eq_true q158
               try go_wp2_with (first | ((with_reducible refine gate_dst (N := 6) rfl ?_); refine box_event ?hg (N := 6) ?hd (cs := #[.string (⟨#[]⟩ : ByteArray), .int .i64 0, .int .i64 0, .bool false]) (t := 38) ?hr ?_; (case hd => rfl); (case hg => rfl); (case hr => first | (go_simp; done) | (go_simp; rfl)); intro gb159 hg w46 hbox hb; have n0_ := aM (blk_below (g := gb152) (o := .cells #[.slice A0_0 l0_0.length c0_0, .slice (some ad158) l0_1.length c0_1] 30 (0, 0)) (px_bV BK152.out) hb); have n1_ := aM (blk_below (g := gb153) (o := .cells #[.slice A1_0 l1_0.length c1_0, .slice A1_1 l1_1.length c1_1] 30 (0, 0)) (px_bV BK153.out) hb); have n2_ := aM (below_step (px_h2 HB.out GE152.out GE153.out) hb); have n3_ := aM (hbox); have n4_ := aM ((by rw [hg]; exact (below_size (px_h2 HB.out GE152.out GE153.out)) : w.heap.size ≤ gb159)); have n5_ := aM ((by rw [hg]; exact (below_size (px_h2 HB.out GE152.out GE153.out)) : w.heap.size ≤ gb159)); have n6_ := aM ((by rw [hg]; exact Nat.ne_of_lt (blk_lt (g := gb152) (o := .cells #[.slice A0_0 l0_0.length c0_0, .slice (some ad158) l0_1.length c0_1] 30 (0, 0)) (px_bV BK152.out)) : gb152 ≠ gb159)); have n7_ := aM ((by rw [hg]; exact Nat.ne_of_gt (blk_lt (g := gb152) (o := .cells #[.slice A0_0 l0_0.length c0_0, .slice (some ad158) l0_1.length c0_1] 30 (0, 0)) (px_bV BK152.out)) : gb159 ≠ gb152)); have n8_ := aM ((by rw [hg]; exact Nat.ne_of_lt (blk_lt (g := gb153) (o := .cells #[.slice A1_0 l1_0.length c1_0, .slice A1_1 l1_1.length c1_1] 30 (0, 0)) (px_bV BK153.out)) : gb153 ≠ gb159)); have n9_ := aM ((by rw [hg]; exact Nat.ne_of_gt (blk_lt (g := gb153) (o := .cells #[.slice A1_0 l1_0.length c1_0, .slice A1_1 l1_1.length c1_1] 30 (0, 0)) (px_bV BK153.out)) : gb159 ≠ gb153)); clear BK152; clear BK153; clear HB; have BK152 := n0_; have BK153 := n1_; have HB := n2_; have BK159 := n3_; have GW159 := n4_; have GE159 := n5_; have NB152_159 := n6_; have NB159_152 := n7_; have NB153_159 := n8_; have NB159_153 := n9_; clear n0_ n1_ n2_ n3_ n4_ n5_ n6_ n7_ n8_ n9_; clear hb hbox hg; have hnb47 := NB159_152.out; have hnc47 := NB152_159.out; have hnb48 := NB159_153.out; have hnc48 := NB153_159.out; have hcz49_0 : w46.cell? ⟨gb159, 0, none⟩ = some (.string (⟨#[]⟩ : ByteArray)) := (blk_cell BK159.out 0).trans rfl; have hcz49_1 : w46.cell? ⟨gb159, 1, none⟩ = some (.int .i64 0) := (blk_cell BK159.out 1).trans rfl; have hcz49_2 : w46.cell? ⟨gb159, 2, none⟩ = some (.int .i64 0) := (blk_cell BK159.out 2).trans rfl; have hcz49_3 : w46.cell? ⟨gb159, 3, none⟩ = some (.bool false) := (blk_cell BK159.out 3).trans rfl; have hfz49_0 := blk_frozen BK159.out 0; have hfz49_1 := blk_frozen BK159.out 1; have hfz49_2 := blk_frozen BK159.out 2; have hfz49_3 := blk_frozen BK159.out 3))
               have n0_ : Aside0 (((((w46.setCell ⟨gb159, 0, none⟩ (.string ((rd_T38 l0_1 x5_2).f0))).setCell ⟨gb159, 1, none⟩ (.int .i64 ((rd_T38 l0_1 x5_2).f1))).setCell ⟨gb159, 2, none⟩ (.int .i64 ((rd_T38 l0_1 x5_2).f2))).setCell ⟨gb159, 3, none⟩ (.bool true)).heap[gb152]? = some (.cells #[.slice A0_0 l0_0.length c0_0, .slice (some ad158) l0_1.length c0_1] 30 (0, 0))) := ⟨by (with_reducible repeat (first | refine blk_drewN ?_ _ | refine blk_drew ?_ | refine blk_alloc ?_ _)); refine blk_far ?_ NB152_159.out _; (with_reducible repeat (first | refine blk_drewN ?_ _ | refine blk_drew ?_ | refine blk_alloc ?_ _)); refine blk_far ?_ NB152_159.out _; (with_reducible repeat (first | refine blk_drewN ?_ _ | refine blk_drew ?_ | refine blk_alloc ?_ _)); refine blk_far ?_ NB152_159.out _; (with_reducible repeat (first | refine blk_drewN ?_ _ | refine blk_drew ?_ | refine blk_alloc ?_ _)); refine blk_far ?_ NB152_159.out _; (with_reducible repeat (first | refine blk_drewN ?_ _ | refine blk_drew ?_ | refine blk_alloc ?_ _)); exact BK152.out⟩
               have n1_ : Aside0 (((((w46.setCell ⟨gb159, 0, none⟩ (.string ((rd_T38 l0_1 x5_2).f0))).setCell ⟨gb159, 1, none⟩ (.int .i64 ((rd_T38 l0_1 x5_2).f1))).setCell ⟨gb159, 2, none⟩ (.int .i64 ((rd_T38 l0_1 x5_2).f2))).setCell ⟨gb159, 3, none⟩ (.bool true)).heap[gb153]? = some (.cells #[.slice A1_0 l1_0.length c1_0, .slice A1_1 l1_1.length c1_1] 30 (0, 0))) := ⟨by (with_reducible repeat (first | refine blk_drewN ?_ _ | refine blk_drew ?_ | refine blk_alloc ?_ _)); refine blk_far ?_ NB153_159.out _; (with_reducible repeat (first | refine blk_drewN ?_ _ | refine blk_drew ?_ | refine blk_alloc ?_ _)); refine blk_far ?_ NB153_159.out _; (with_reducible repeat (first | refine blk_drewN ?_ _ | refine blk_drew ?_ | refine blk_alloc ?_ _)); refine blk_far ?_ NB153_159.out _; (with_reducible repeat (first | refine blk_drewN ?_ _ | refine blk_drew ?_ | refine blk_alloc ?_ _)); refine blk_far ?_ NB153_159.out _; (with_reducible repeat (first | refine blk_drewN ?_ _ | refine blk_drew ?_ | refine blk_alloc ?_ _)); exact BK153.out⟩
               have n2_ : Aside0 (((((w46.setCell ⟨gb159, 0, none⟩ (.string ((rd_T38 l0_1 x5_2).f0))).setCell ⟨gb159, 1, none⟩ (.int .i64 ((rd_T38 l0_1 x5_2).f1))).setCell ⟨gb159, 2, none⟩ (.int .i64 ((rd_T38 l0_1 x5_2).f2))).setCell ⟨gb159, 3, none⟩ (.bool true)).heap[gb159]? = some (.cells #[.string ((rd_T38 l0_1 x5_2).f0), .int .i64 ((rd_T38 l0_1 x5_2).f1), .int .i64 ((rd_T38 l0_1 x5_2).f2), .bool true] 38 (0, 0))) := ⟨by (with_reducible repeat (first | refine blk_drewN ?_ _ | refine blk_drew ?_ | refine blk_alloc ?_ _)); refine blk_put (cs := #[.string ((rd_T38 l0_1 x5_2).f0), .int .i64 ((rd_T38 l0_1 x5_2).f1), .int .i64 ((rd_T38 l0_1 x5_2).f2), .bool false]) ?_ 3 _ rfl; (with_reducible repeat (first | refine blk_drewN ?_ _ | refine blk_drew ?_ | refine blk_alloc ?_ _)); refine blk_put (cs := #[.string ((rd_T38 l0_1 x5_2).f0), .int .i64 ((rd_T38 l0_1 x5_2).f1), .int .i64 0, .bool false]) ?_ 2 _ rfl; (with_reducible repeat (first | refine blk_drewN ?_ _ | refine blk_drew ?_ | refine blk_alloc ?_ _)); refine blk_put (cs := #[.string ((rd_T38 l0_1 x5_2).f0), .int .i64 0, .int .i64 0, .bool false]) ?_ 1 _ rfl; (with_reducible repeat (first | refine blk_drewN ?_ _ | refine blk_drew ?_ | refine blk_alloc ?_ _)); refine blk_put (cs := #[.string (⟨#[]⟩ : ByteArray), .int .i64 0, .int .i64 0, .bool false]) ?_ 0 _ rfl; (with_reducible repeat (first | refine blk_drewN ?_ _ | refine blk_drew ?_ | refine blk_alloc ?_ _)); exact BK159.out⟩
               have n3_ : Aside0 (Below w.heap.size w ((((w46.setCell ⟨gb159, 0, none⟩ (.string ((rd_T38 l0_1 x5_2).f0))).setCell ⟨gb159, 1, none⟩ (.int .i64 ((rd_T38 l0_1 x5_2).f1))).setCell ⟨gb159, 2, none⟩ (.int .i64 ((rd_T38 l0_1 x5_2).f2))).setCell ⟨gb159, 3, none⟩ (.bool true))) := ⟨px_h3 HB.out GE152.out GE153.out GE159.out⟩
               (try clear BK152)
               (try clear BK153)
               (try clear BK159)
               (try clear HB)
               generalize ((((w46.setCell ⟨gb159, 0, none⟩ (.string ((rd_T38 l0_1 x5_2).f0))).setCell ⟨gb159, 1, none⟩ (.int .i64 ((rd_T38 l0_1 x5_2).f1))).setCell ⟨gb159, 2, none⟩ (.int .i64 ((rd_T38 l0_1 x5_2).f2))).setCell ⟨gb159, 3, none⟩ (.bool true)) = w50 at n0_ n1_ n2_ n3_ ⊢
               have BK152 := n0_
               have BK153 := n1_
               have BK159 := n2_
               have HB := n3_
               clear n0_ n1_ n2_ n3_
               have n0_ := aM (blk_drew BK152.out)
               have n1_ := aM (blk_drew BK153.out)
               have n2_ := aM (blk_drew BK159.out)
               have n3_ := aM (below_drew1 HB.out)
               clear BK152
               clear BK153
               clear BK159
               clear HB
               have BK152 := n0_
               have BK153 := n1_
               have BK159 := n2_
               have HB := n3_
               clear n0_ n1_ n2_ n3_
               have p161 : 0 ≤ (t160 : Int) := px_od
               have q161 : t160 < (l1_0.length : Int) := px_od
               obtain ⟨ad161, e161, hx161_0⟩ := Kd.at_int HR1_0.out t160 p161 q161
               have hw161_0 := hx161_0
               cases e161
               replace hx161_0 := px_hx HB.out hx161_0
               replace p161 := eq_true p161
               replace q161 := eq_true q161
               refine start_ (n := 9) (S := fun w' => w'.cell? ⟨gb153, 0, none⟩ = some (.slice (some ad161) l1_0.length c1_0) ∧ w'.cell? ⟨gb153, 1, none⟩ = some (.slice A1_1 l1_1.length c1_1) ∧ w'.cell? ⟨gb159, 0, none⟩ = some (.string ((rd_T38 l0_1 x5_2).f0)) ∧ w'.cell? ⟨gb159, 1, none⟩ = some (.int .i64 ((rd_T38 l0_1 x5_2).f1)) ∧ w'.cell? ⟨gb159, 2, none⟩ = some (.int .i64 ((rd_T38 l0_1 x5_2).f2)) ∧ w'.cell? ⟨gb159, 3, none⟩ = some (.bool true) ∧ w'.cell? (ad161.add (t160).toNat) = some (.int .i64 (rd l1_0 t160))) (ds := []) (px_l 0 9) (by kernel_rfl) rfl rfl ⟨(blk_cell BK153.out 0).trans rfl, (blk_cell BK153.out 1).trans rfl, (blk_cell BK159.out 0).trans rfl, (blk_cell BK159.out 1).trans rfl, (blk_cell BK159.out 2).trans rfl, (blk_cell BK159.out 3).trans rfl, ((HB.out.cell (World.block_lt_of_cell? w _ hw161_0)).trans hw161_0)⟩ (fun hHeld => ?_); refine with_tabW spec_DictSame.tab8 spec_DictSame.bits8 (fun HT_ HW_ => ?_)
               generalize w50.drew = w51 at BK152 BK153 BK159 HB hx161_0 hHeld ⊢
               refine pure_ (i := 0) (N := some 38) (v := ?_) (a' := ?_) (px_l 1 8) rfl rfl (any_of HT_.out (by kernel_rfl)) (fun _ _ _ h => h) (Or.inl ⟨by rfl, ?_⟩) ?_ ?_
               rotate_left
               ·intro w'
                go_simp
                with_reducible rfl
               rotate_left
               ·simp only [px_q]
                rfl
               refine pure_ (i := 3) (N := some 41) (v := ?_) (a' := ?_) #[true, false, false, true, false, false, false, false, false] rfl rfl (any_of HT_.out (by kernel_rfl)) (fun _ _ _ h => h) (Or.inl ⟨by rfl, ?_⟩) ?_ ?_
               rotate_left
               ·intro w'
                go_simp
                with_reducible rfl
               rotate_left
               ·simp only [px_q]
                rfl
               refine take_ (i := 1) (N := some 39) (v := ?_) (a' := ?_) #[true, true, false, true, false, false, false, false, false] rfl rfl (take_ofW HT_.out HW_.out (by kernel_rfl)) (fun _ _ _ h => h) (Or.inl ⟨by rfl, ?_⟩) hHeld ?_ ?_
               rotate_left
               ·rintro w' ⟨s0, s1, s2, s3, s4, s5, s6⟩
                go_simp
                with_reducible rfl
               rotate_left
               ·simp only [px_q]
                rfl
               refine take_ (i := 2) (N := some 40) (v := ?_) (a' := ?_) (px_l 4 5) rfl rfl (take_ofW HT_.out HW_.out (by kernel_rfl)) (fun _ _ _ h => h) (Or.inl ⟨by rfl, ?_⟩) hHeld ?_ ?_
               rotate_left
               ·rintro w' ⟨s0, s1, s2, s3, s4, s5, s6⟩
                go_simp
                with_reducible rfl
               rotate_left
               ·simp only [px_q]
                rfl
               refine take_ (i := 4) (N := some 42) (v := ?_) (a' := ?_) (px_l 5 4) rfl rfl (take_ofW HT_.out HW_.out (by kernel_rfl)) (fun _ _ _ h => h) (Or.inl ⟨by rfl, ?_⟩) hHeld ?_ ?_
               rotate_left
               ·rintro w' ⟨s0, s1, s2, s3, s4, s5, s6⟩
                go_simp
                with_reducible rfl
               rotate_left
               ·simp only [px_q]
                rfl
               refine one_ (i := 5) (N := some 43) (px_l 6 3) rfl rfl (one_of HT_.out (by kernel_rfl)) (by decide) (fun K hK => ?_)
               refine goes_ Try.func13 (by kernel_rfl) rfl #[.agg #[.slice (some ad161) l1_0.length c1_0, .slice A1_1 l1_1.length c1_1], .string ((rd_T38 l0_1 x5_2).f0)] (by rfl) rfl rfl px_dn ?_
               with_reducible refine (spec_slotOf.calls k2 _ _ l1_0 _ _ l1_1 ((rd_T38 l0_1 x5_2).f0) t160 _ ?side1 ?side2 ?side3 ?side4 A27.out).mono ?_
               (case side1 => exact px_cV ((Kd.C_below HR1_0.out HB.out)))
               (case side2 => exact HC1_0.out)
               (case side3 => exact px_cV ((Kd.C_below HR1_1.out HB.out)))
               (case side4 => exact HC1_1.out)
               rintro e w52 ⟨rfl, hb⟩
               refine ⟨_, rfl, ?_⟩
               have n0_ := aM (blk_below (g := gb152) (o := .cells #[.slice A0_0 l0_0.length c0_0, .slice (some ad158) l0_1.length c0_1] 30 (0, 0)) (px_bV BK152.out) hb)
               have n1_ := aM (blk_below (g := gb153) (o := .cells #[.slice (some ad161) l1_0.length c1_0, .slice A1_1 l1_1.length c1_1] 30 (0, 0)) (px_bV BK153.out) hb)
               have n2_ := aM (blk_below (g := gb159) (o := .cells #[.string ((rd_T38 l0_1 x5_2).f0), .int .i64 ((rd_T38 l0_1 x5_2).f1), .int .i64 ((rd_T38 l0_1 x5_2).f2), .bool true] 38 (0, 0)) (px_bV BK159.out) hb)
               have n3_ := aM (below_step (px_h3 HB.out GE152.out GE153.out GE159.out) hb)
               clear BK152
               clear BK153
               clear BK159
               clear HB
               have BK152 := n0_
               have BK153 := n1_
               have BK159 := n2_
               have HB := n3_
               clear n0_ n1_ n2_ n3_
               (try clear hb)
               (try clear hb2)
               (try clear hk)
               (try clear hi)
               refine hK.out _ _ ⟨(blk_cell BK153.out 0).trans rfl, (blk_cell BK153.out 1).trans rfl, (blk_cell BK159.out 0).trans rfl, (blk_cell BK159.out 1).trans rfl, (blk_cell BK159.out 2).trans rfl, (blk_cell BK159.out 3).trans rfl, ((HB.out.cell (World.block_lt_of_cell? w _ hw161_0)).trans hw161_0)⟩ (fun hHeld => ?_)
               clear hK K
               refine norm_ (a' := ?_) ?_ ?_
               rotate_left
               ·show Act.put _ (some 43) _ = _
                simp only [px_q]
                rfl
               refine pure_ (i := 6) (N := some 44) (v := ?_) (a' := ?_) (px_l 7 2) rfl rfl (any_of HT_.out (by kernel_rfl)) (fun _ _ _ h => h) (Or.inl ⟨by rfl, ?_⟩) ?_ ?_
               rotate_left
               ·intro w'
                go_simp
                with_reducible rfl
               rotate_left
               ·simp only [px_q]
                rfl
               refine take_ (i := 7) (N := some 45) (v := ?_) (a' := ?_) (px_l 8 1) rfl rfl (take_ofW HT_.out HW_.out (by kernel_rfl)) (fun _ _ _ h => h) (Or.inl ⟨by rfl, ?_⟩) hHeld ?_ ?_
               rotate_left
               ·rintro w' ⟨s0, s1, s2, s3, s4, s5, s6⟩
                go_simp
                with_reducible rfl
               rotate_left
               ·simp only [px_q]
                rfl
               refine pure_ (i := 8) (N := some 7) (v := ?_) (a' := ?_) (px_l 9 0) rfl rfl (any_of HT_.out (by kernel_rfl)) (fun _ _ _ h => h) (Or.inl ⟨by rfl, ?_⟩) ?_ ?_
               rotate_left
               ·intro w'
                go_simp
                with_reducible rfl
               rotate_left
               ·simp only [px_q]
                rfl
               refine done_ (done_of HT_.out (by kernel_rfl)) ?_
               try go_wp2
               have n0_ := aM (blk_drew BK152.out)
               have n1_ := aM (blk_drew BK153.out)
               have n2_ := aM (blk_drew BK159.out)
               have n3_ := aM (below_drew1 HB.out)
               clear BK152
               clear BK153
               clear BK159
               clear HB
               have BK152 := n0_
               have BK153 := n1_
               have BK159 := n2_
               have HB := n3_
               clear n0_ n1_ n2_ n3_
               have p162 : 0 ≤ ((rd l1_0 t160) : Int) := px_od
               have q162 : (rd l1_0 t160) < (l1_1.length : Int) := px_od
               obtain ⟨ad162, e162, hx162_0, hx162_1, hx162_2, hx162_3⟩ := at_T38 HR1_1.out (rd l1_0 t160) p162 q162
               have hw162_3 := hx162_3
               have hw162_2 := hx162_2
               have hw162_1 := hx162_1
               have hw162_0 := hx162_0
               (try rw [← Nbq25.out] at hx162_3)
               (try rw [← Nbq25.out] at hw162_3)
               cases e162
               replace hx162_0 := px_hx HB.out hx162_0
               replace hx162_1 := px_hx HB.out hx162_1
               replace hx162_2 := px_hx HB.out hx162_2
               replace hx162_3 := px_hx HB.out hx162_3
               replace p162 := eq_true p162
               replace q162 := eq_true q162
               refine start_ (n := 13) (S := fun w' => w'.cell? ⟨gb153, 0, none⟩ = some (.slice (some ad161) l1_0.length c1_0) ∧ w'.cell? ⟨gb153, 1, none⟩ = some (.slice (some ad162) l1_1.length c1_1) ∧ w'.cell? ⟨gb159, 0, none⟩ = some (.string ((rd_T38 l0_1 x5_2).f0)) ∧ w'.cell? ⟨gb159, 1, none⟩ = some (.int .i64 ((rd_T38 l0_1 x5_2).f1)) ∧ w'.cell? ⟨gb159, 2, none⟩ = some (.int .i64 ((rd_T38 l0_1 x5_2).f2)) ∧ w'.cell? ⟨gb159, 3, none⟩ = some (.bool true) ∧ w'.cell? (ad162.add (((rd l1_0 t160)).toNat * 4)) = some (.string ((rd_T38 l1_1 (rd l1_0 t160)).f0)) ∧ w'.cell? ⟨(ad162.add (((rd l1_0 t160)).toNat * 4)).block, (ad162.add (((rd l1_0 t160)).toNat * 4)).off + 1, none⟩ = some (.int .i64 ((rd_T38 l1_1 (rd l1_0 t160)).f1)) ∧ w'.cell? ⟨(ad162.add (((rd l1_0 t160)).toNat * 4)).block, (ad162.add (((rd l1_0 t160)).toNat * 4)).off + 2, none⟩ = some (.int .i64 ((rd_T38 l1_1 (rd l1_0 t160)).f2)) ∧ w'.cell? ⟨(ad162.add (((rd l1_0 t160)).toNat * 4)).block, (ad162.add (((rd l1_0 t160)).toNat * 4)).off + 3, none⟩ = some (.bool ((rd_T38 l1_1 (rd l1_0 t160)).f3))) (ds := []) (px_l 0 13) (by kernel_rfl) rfl rfl ⟨(blk_cell BK153.out 0).trans rfl, (blk_cell BK153.out 1).trans rfl, (blk_cell BK159.out 0).trans rfl, (blk_cell BK159.out 1).trans rfl, (blk_cell BK159.out 2).trans rfl, (blk_cell BK159.out 3).trans rfl, ((HB.out.cell (World.block_lt_of_cell? w _ hw162_0)).trans hw162_0), ((HB.out.cell (World.block_lt_of_cell? w _ hw162_1)).trans hw162_1), ((HB.out.cell (World.block_lt_of_cell? w _ hw162_2)).trans hw162_2), ((HB.out.cell (World.block_lt_of_cell? w _ hw162_3)).trans hw162_3)⟩ (fun hHeld => ?_); refine with_tabW spec_DictSame.tab9 spec_DictSame.bits9 (fun HT_ HW_ => ?_)
               generalize w52.drew = w53 at BK152 BK153 BK159 HB hx162_0 hx162_1 hx162_2 hx162_3 hHeld ⊢
               refine pure_ (i := 0) (N := some 46) (v := ?_) (a' := ?_) (px_l 1 12) rfl rfl (any_of HT_.out (by kernel_rfl)) (fun _ _ _ h => h) (Or.inl ⟨by rfl, ?_⟩) ?_ ?_
               rotate_left
               ·intro w'
                go_simp
                with_reducible rfl
               rotate_left
               ·simp only [px_q]
                rfl
               refine pure_ (i := 1) (N := some 47) (v := ?_) (a' := ?_) (px_l 2 11) rfl rfl (any_of HT_.out (by kernel_rfl)) (fun _ _ _ h => h) (Or.inl ⟨by rfl, ?_⟩) ?_ ?_
               rotate_left
               ·intro w'
                go_simp
                with_reducible rfl
               rotate_left
               ·simp only [px_q]
                rfl
               refine pure_ (i := 2) (N := some 48) (v := ?_) (a' := ?_) (px_l 3 10) rfl rfl (any_of HT_.out (by kernel_rfl)) (fun _ _ _ h => h) (Or.inl ⟨by rfl, ?_⟩) ?_ ?_
               rotate_left
               ·intro w'
                go_simp
                with_reducible rfl
               rotate_left
               ·simp only [px_q]
                rfl
               refine pure_ (i := 3) (N := some 49) (v := ?_) (a' := ?_) (px_l 4 9) rfl rfl (any_of HT_.out (by kernel_rfl)) (fun _ _ _ h => h) (Or.inl ⟨by rfl, ?_⟩) ?_ ?_
               rotate_left
               ·intro w'
                go_simp
                with_reducible rfl
               rotate_left
               ·simp only [px_q]
                rfl
               refine pure_ (i := 5) (N := some 51) (v := ?_) (a' := ?_) #[true, true, true, true, false, true, false, false, false, false, false, false, false] rfl rfl (any_of HT_.out (by kernel_rfl)) (fun _ _ _ h => h) (Or.inl ⟨by rfl, ?_⟩) ?_ ?_
               rotate_left
               ·intro w'
                go_simp
                with_reducible rfl
               rotate_left
               ·simp only [px_q]
                rfl
               refine pure_ (i := 9) (N := some 55) (v := ?_) (a' := ?_) #[true, true, true, true, false, true, false, false, false, true, false, false, false] rfl rfl (any_of HT_.out (by kernel_rfl)) (fun _ _ _ h => h) (Or.inl ⟨by rfl, ?_⟩) ?_ ?_
               rotate_left
               ·intro w'
                go_simp
                with_reducible rfl
               rotate_left
               ·simp only [px_q]
                rfl
               refine take_ (i := 4) (N := some 50) (v := ?_) (a' := ?_) #[true, true, true, true, true, true, false, false, false, true, false, false, false] rfl rfl (take_ofW HT_.out HW_.out (by kernel_rfl)) (fun _ _ _ h => h) (Or.inl ⟨by rfl, ?_⟩) hHeld ?_ ?_
               rotate_left
               ·rintro w' ⟨s0, s1, s2, s3, s4, s5, s6, s7, s8, s9⟩
                go_simp
                with_reducible rfl
               rotate_left
               ·simp only [px_q]
                rfl
               refine pure_ (i := 6) (N := some 52) (v := ?_) (a' := ?_) #[true, true, true, true, true, true, true, false, false, true, false, false, false] rfl rfl (any_of HT_.out (by kernel_rfl)) (fun _ _ _ h => h) (Or.inl ⟨by rfl, ?_⟩) ?_ ?_
               rotate_left
               ·intro w'
                go_simp
                with_reducible rfl
               rotate_left
               ·simp only [px_q]
                rfl
               refine pure_ (i := 7) (N := some 53) (v := ?_) (a' := ?_) #[true, true, true, true, true, true, true, true, false, true, false, false, false] rfl rfl (any_of HT_.out (by kernel_rfl)) (fun _ _ _ h => h) (Or.inl ⟨by rfl, ?_⟩) ?_ ?_
               rotate_left
               ·intro w'
                go_simp
                with_reducible rfl
               rotate_left
               ·simp only [px_q]
                rfl
               refine take_ (i := 8) (N := some 54) (v := ?_) (a' := ?_) (px_l 10 3) rfl rfl (take_ofW HT_.out HW_.out (by kernel_rfl)) (fun _ _ _ h => h) (Or.inl ⟨by rfl, ?_⟩) hHeld ?_ ?_
               rotate_left
               ·rintro w' ⟨s0, s1, s2, s3, s4, s5, s6, s7, s8, s9⟩
                go_simp
                with_reducible rfl
               rotate_left
               ·simp only [px_q]
                rfl
               refine take_ (i := 10) (N := some 56) (v := ?_) (a' := ?_) (px_l 11 2) rfl rfl (take_ofW HT_.out HW_.out (by kernel_rfl)) (fun _ _ _ h => h) (Or.inl ⟨by rfl, ?_⟩) hHeld ?_ ?_
               rotate_left
               ·rintro w' ⟨s0, s1, s2, s3, s4, s5, s6, s7, s8, s9⟩
                go_simp
                with_reducible rfl
               rotate_left
               ·simp only [px_q]
                rfl
               refine pure_ (i := 11) (N := some 57) (v := ?_) (a' := ?_) (px_l 12 1) rfl rfl (any_of HT_.out (by kernel_rfl)) (fun _ _ _ h => h) (Or.inl ⟨by rfl, ?_⟩) ?_ ?_
               rotate_left
               ·intro w'
                go_simp
                with_reducible rfl
               rotate_left
               ·simp only [px_q]
                rfl
               refine pure_ (i := 12) (N := some 58) (v := ?_) (a' := ?_) (px_l 13 0) rfl rfl (any_of HT_.out (by kernel_rfl)) (fun _ _ _ h => h) (Or.inl ⟨by rfl, ?_⟩) ?_ ?_
               rotate_left
               ·intro w'
                go_simp
                with_reducible rfl
               rotate_left
               ·simp only [px_q]
                rfl
               refine done_ (done_of HT_.out (by kernel_rfl)) ?_
               try go_wp2
               go_roundg k2
               case measure => have := HJ2.out; have := HK2.out; omega
               case rel => exact ⟨(wrap64 (x5_2 + 1)), px_rf, H', ⟨by have := HJ2.out; have := HK2.out; omega⟩, ⟨by first | exact px_bV BK152.out | (rw [← Nbq25.out]; exact px_bV BK152.out)⟩, ⟨by first | exact px_bV BK153.out | (rw [← Nbq25.out]; exact px_bV BK153.out)⟩, ⟨px_h3 HB.out GE152.out GE153.out GE159.out⟩⟩
              ·rw [if_neg c43] at H
               have c43b0 : (((rd_T38 l1_1 (rd l1_0 t160)).f2) == ((rd_T38 l0_1 x5_2).f2)) = false := beq_eq_false_iff_ne.mpr c43
               have c43b1 : (((rd_T38 l1_1 (rd l1_0 t160)).f2) != ((rd_T38 l0_1 x5_2).f2)) = true := bne_iff_ne.mpr c43
               obtain rfl := Option.some.inj H
               have hnb54 := NB152_153.out
               have hnc54 := NB153_152.out
               have hcz55_0 : wr.cell? ⟨gb152, 0, none⟩ = some (.slice A0_0 l0_0.length c0_0) := (blk_cell BK152.out 0).trans rfl
               have hcz55_1 : wr.cell? ⟨gb152, 1, none⟩ = some (.slice A0_1 l0_1.length c0_1) := (blk_cell BK152.out 1).trans rfl
               have hfz55_0 := blk_frozen BK152.out 0
               have hfz55_1 := blk_frozen BK152.out 1
               have p158 : 0 ≤ (x5_2 : Int) := px_od
               have q158 : x5_2 < (l0_1.length : Int) := px_od
               obtain ⟨ad158, e158, hx158_0, hx158_1, hx158_2, hx158_3⟩ := at_T38 HR0_1.out x5_2 p158 q158
               (try rw [← Nbq25.out] at hx158_3)
               (try rw [← Nbq25.out] at hw158_3)
               cases e158
               replace hx158_0 := px_hx HB.out hx158_0
               replace hx158_1 := px_hx HB.out hx158_1
               replace hx158_2 := px_hx HB.out hx158_2
               replace hx158_3 := px_hx HB.out hx158_3
               replace p158 := eq_true p158
               replace q158 := eq_true q158
               try go_wp2_with (first | ((with_reducible refine gate_dst (N := 6) rfl ?_); refine box_event ?hg (N := 6) ?hd (cs := #[.string (⟨#[]⟩ : ByteArray), .int .i64 0, .int .i64 0, .bool false]) (t := 38) ?hr ?_; (case hd => rfl); (case hg => rfl); (case hr => first | (go_simp; done) | (go_simp; rfl)); intro gb159 hg w56 hbox hb; have n0_ := aM (blk_below (g := gb152) (o := .cells #[.slice A0_0 l0_0.length c0_0, .slice (some ad158) l0_1.length c0_1] 30 (0, 0)) (px_bV BK152.out) hb); have n1_ := aM (blk_below (g := gb153) (o := .cells #[.slice A1_0 l1_0.length c1_0, .slice A1_1 l1_1.length c1_1] 30 (0, 0)) (px_bV BK153.out) hb); have n2_ := aM (below_step (px_h2 HB.out GE152.out GE153.out) hb); have n3_ := aM (hbox); have n4_ := aM ((by rw [hg]; exact (below_size (px_h2 HB.out GE152.out GE153.out)) : w.heap.size ≤ gb159)); have n5_ := aM ((by rw [hg]; exact (below_size (px_h2 HB.out GE152.out GE153.out)) : w.heap.size ≤ gb159)); have n6_ := aM ((by rw [hg]; exact Nat.ne_of_lt (blk_lt (g := gb152) (o := .cells #[.slice A0_0 l0_0.length c0_0, .slice (some ad158) l0_1.length c0_1] 30 (0, 0)) (px_bV BK152.out)) : gb152 ≠ gb159)); have n7_ := aM ((by rw [hg]; exact Nat.ne_of_gt (blk_lt (g := gb152) (o := .cells #[.slice A0_0 l0_0.length c0_0, .slice (some ad158) l0_1.length c0_1] 30 (0, 0)) (px_bV BK152.out)) : gb159 ≠ gb152)); have n8_ := aM ((by rw [hg]; exact Nat.ne_of_lt (blk_lt (g := gb153) (o := .cells #[.slice A1_0 l1_0.length c1_0, .slice A1_1 l1_1.length c1_1] 30 (0, 0)) (px_bV BK153.out)) : gb153 ≠ gb159)); have n9_ := aM ((by rw [hg]; exact Nat.ne_of_gt (blk_lt (g := gb153) (o := .cells #[.slice A1_0 l1_0.length c1_0, .slice A1_1 l1_1.length c1_1] 30 (0, 0)) (px_bV BK153.out)) : gb159 ≠ gb153)); clear BK152; clear BK153; clear HB; have BK152 := n0_; have BK153 := n1_; have HB := n2_; have BK159 := n3_; have GW159 := n4_; have GE159 := n5_; have NB152_159 := n6_; have NB159_152 := n7_; have NB153_159 := n8_; have NB159_153 := n9_; clear n0_ n1_ n2_ n3_ n4_ n5_ n6_ n7_ n8_ n9_; clear hb hbox hg; have hnb57 := NB159_152.out; have hnc57 := NB152_159.out; have hnb58 := NB159_153.out; have hnc58 := NB153_159.out; have hcz59_0 : w56.cell? ⟨gb159, 0, none⟩ = some (.string (⟨#[]⟩ : ByteArray)) := (blk_cell BK159.out 0).trans rfl; have hcz59_1 : w56.cell? ⟨gb159, 1, none⟩ = some (.int .i64 0) := (blk_cell BK159.out 1).trans rfl; have hcz59_2 : w56.cell? ⟨gb159, 2, none⟩ = some (.int .i64 0) := (blk_cell BK159.out 2).trans rfl; have hcz59_3 : w56.cell? ⟨gb159, 3, none⟩ = some (.bool false) := (blk_cell BK159.out 3).trans rfl; have hfz59_0 := blk_frozen BK159.out 0; have hfz59_1 := blk_frozen BK159.out 1; have hfz59_2 := blk_frozen BK159.out 2; have hfz59_3 := blk_frozen BK159.out 3))
               have n0_ : Aside0 (((((w56.setCell ⟨gb159, 0, none⟩ (.string ((rd_T38 l0_1 x5_2).f0))).setCell ⟨gb159, 1, none⟩ (.int .i64 ((rd_T38 l0_1 x5_2).f1))).setCell ⟨gb159, 2, none⟩ (.int .i64 ((rd_T38 l0_1 x5_2).f2))).setCell ⟨gb159, 3, none⟩ (.bool true)).heap[gb152]? = some (.cells #[.slice A0_0 l0_0.length c0_0, .slice (some ad158) l0_1.length c0_1] 30 (0, 0))) := ⟨by (with_reducible repeat (first | refine blk_drewN ?_ _ | refine blk_drew ?_ | refine blk_alloc ?_ _)); refine blk_far ?_ NB152_159.out _; (with_reducible repeat (first | refine blk_drewN ?_ _ | refine blk_drew ?_ | refine blk_alloc ?_ _)); refine blk_far ?_ NB152_159.out _; (with_reducible repeat (first | refine blk_drewN ?_ _ | refine blk_drew ?_ | refine blk_alloc ?_ _)); refine blk_far ?_ NB152_159.out _; (with_reducible repeat (first | refine blk_drewN ?_ _ | refine blk_drew ?_ | refine blk_alloc ?_ _)); refine blk_far ?_ NB152_159.out _; (with_reducible repeat (first | refine blk_drewN ?_ _ | refine blk_drew ?_ | refine blk_alloc ?_ _)); exact BK152.out⟩
               have n1_ : Aside0 (((((w56.setCell ⟨gb159, 0, none⟩ (.string ((rd_T38 l0_1 x5_2).f0))).setCell ⟨gb159, 1, none⟩ (.int .i64 ((rd_T38 l0_1 x5_2).f1))).setCell ⟨gb159, 2, none⟩ (.int .i64 ((rd_T38 l0_1 x5_2).f2))).setCell ⟨gb159, 3, none⟩ (.bool true)).heap[gb153]? = some (.cells #[.slice A1_0 l1_0.length c1_0, .slice A1_1 l1_1.length c1_1] 30 (0, 0))) := ⟨by (with_reducible repeat (first | refine blk_drewN ?_ _ | refine blk_drew ?_ | refine blk_alloc ?_ _)); refine blk_far ?_ NB153_159.out _; (with_reducible repeat (first | refine blk_drewN ?_ _ | refine blk_drew ?_ | refine blk_alloc ?_ _)); refine blk_far ?_ NB153_159.out _; (with_reducible repeat (first | refine blk_drewN ?_ _ | refine blk_drew ?_ | refine blk_alloc ?_ _)); refine blk_far ?_ NB153_159.out _; (with_reducible repeat (first | refine blk_drewN ?_ _ | refine blk_drew ?_ | refine blk_alloc ?_ _)); refine blk_far ?_ NB153_159.out _; (with_reducible repeat (first | refine blk_drewN ?_ _ | refine blk_drew ?_ | refine blk_alloc ?_ _)); exact BK153.out⟩
               have n2_ : Aside0 (((((w56.setCell ⟨gb159, 0, none⟩ (.string ((rd_T38 l0_1 x5_2).f0))).setCell ⟨gb159, 1, none⟩ (.int .i64 ((rd_T38 l0_1 x5_2).f1))).setCell ⟨gb159, 2, none⟩ (.int .i64 ((rd_T38 l0_1 x5_2).f2))).setCell ⟨gb159, 3, none⟩ (.bool true)).heap[gb159]? = some (.cells #[.string ((rd_T38 l0_1 x5_2).f0), .int .i64 ((rd_T38 l0_1 x5_2).f1), .int .i64 ((rd_T38 l0_1 x5_2).f2), .bool true] 38 (0, 0))) := ⟨by (with_reducible repeat (first | refine blk_drewN ?_ _ | refine blk_drew ?_ | refine blk_alloc ?_ _)); refine blk_put (cs := #[.string ((rd_T38 l0_1 x5_2).f0), .int .i64 ((rd_T38 l0_1 x5_2).f1), .int .i64 ((rd_T38 l0_1 x5_2).f2), .bool false]) ?_ 3 _ rfl; (with_reducible repeat (first | refine blk_drewN ?_ _ | refine blk_drew ?_ | refine blk_alloc ?_ _)); refine blk_put (cs := #[.string ((rd_T38 l0_1 x5_2).f0), .int .i64 ((rd_T38 l0_1 x5_2).f1), .int .i64 0, .bool false]) ?_ 2 _ rfl; (with_reducible repeat (first | refine blk_drewN ?_ _ | refine blk_drew ?_ | refine blk_alloc ?_ _)); refine blk_put (cs := #[.string ((rd_T38 l0_1 x5_2).f0), .int .i64 0, .int .i64 0, .bool false]) ?_ 1 _ rfl; (with_reducible repeat (first | refine blk_drewN ?_ _ | refine blk_drew ?_ | refine blk_alloc ?_ _)); refine blk_put (cs := #[.string (⟨#[]⟩ : ByteArray), .int .i64 0, .int .i64 0, .bool false]) ?_ 0 _ rfl; (with_reducible repeat (first | refine blk_drewN ?_ _ | refine blk_drew ?_ | refine blk_alloc ?_ _)); exact BK159.out⟩
               have n3_ : Aside0 (Below w.heap.size w ((((w56.setCell ⟨gb159, 0, none⟩ (.string ((rd_T38 l0_1 x5_2).f0))).setCell ⟨gb159, 1, none⟩ (.int .i64 ((rd_T38 l0_1 x5_2).f1))).setCell ⟨gb159, 2, none⟩ (.int .i64 ((rd_T38 l0_1 x5_2).f2))).setCell ⟨gb159, 3, none⟩ (.bool true))) := ⟨px_h3 HB.out GE152.out GE153.out GE159.out⟩
               (try clear BK152)
               (try clear BK153)
               (try clear BK159)
               (try clear HB)
               generalize ((((w56.setCell ⟨gb159, 0, none⟩ (.string ((rd_T38 l0_1 x5_2).f0))).setCell ⟨gb159, 1, none⟩ (.int .i64 ((rd_T38 l0_1 x5_2).f1))).setCell ⟨gb159, 2, none⟩ (.int .i64 ((rd_T38 l0_1 x5_2).f2))).setCell ⟨gb159, 3, none⟩ (.bool true)) = w60 at n0_ n1_ n2_ n3_ ⊢
               have BK152 := n0_
               have BK153 := n1_
               have BK159 := n2_
               have HB := n3_
               clear n0_ n1_ n2_ n3_
               have n0_ := aM (blk_drew BK152.out)
               have n1_ := aM (blk_drew BK153.out)
               have n2_ := aM (blk_drew BK159.out)
               have n3_ := aM (below_drew1 HB.out)
               clear BK152
               clear BK153
               clear BK159
               clear HB
               have BK152 := n0_
               have BK153 := n1_
               have BK159 := n2_
               have HB := n3_
               clear n0_ n1_ n2_ n3_
               have p161 : 0 ≤ (t160 : Int) := px_od
               have q161 : t160 < (l1_0.length : Int) := px_od
               obtain ⟨ad161, e161, hx161_0⟩ := Kd.at_int HR1_0.out t160 p161 q161
               have hw161_0 := hx161_0
               cases e161
               replace hx161_0 := px_hx HB.out hx161_0
               replace p161 := eq_true p161
               replace q161 := eq_true q161
               refine start_ (n := 9) (S := fun w' => w'.cell? ⟨gb153, 0, none⟩ = some (.slice (some ad161) l1_0.length c1_0) ∧ w'.cell? ⟨gb153, 1, none⟩ = some (.slice A1_1 l1_1.length c1_1) ∧ w'.cell? ⟨gb159, 0, none⟩ = some (.string ((rd_T38 l0_1 x5_2).f0)) ∧ w'.cell? ⟨gb159, 1, none⟩ = some (.int .i64 ((rd_T38 l0_1 x5_2).f1)) ∧ w'.cell? ⟨gb159, 2, none⟩ = some (.int .i64 ((rd_T38 l0_1 x5_2).f2)) ∧ w'.cell? ⟨gb159, 3, none⟩ = some (.bool true) ∧ w'.cell? (ad161.add (t160).toNat) = some (.int .i64 (rd l1_0 t160))) (ds := []) (px_l 0 9) (by kernel_rfl) rfl rfl ⟨(blk_cell BK153.out 0).trans rfl, (blk_cell BK153.out 1).trans rfl, (blk_cell BK159.out 0).trans rfl, (blk_cell BK159.out 1).trans rfl, (blk_cell BK159.out 2).trans rfl, (blk_cell BK159.out 3).trans rfl, ((HB.out.cell (World.block_lt_of_cell? w _ hw161_0)).trans hw161_0)⟩ (fun hHeld => ?_); refine with_tabW spec_DictSame.tab8 spec_DictSame.bits8 (fun HT_ HW_ => ?_)
               generalize w60.drew = w61 at BK152 BK153 BK159 HB hx161_0 hHeld ⊢
               refine pure_ (i := 0) (N := some 38) (v := ?_) (a' := ?_) (px_l 1 8) rfl rfl (any_of HT_.out (by kernel_rfl)) (fun _ _ _ h => h) (Or.inl ⟨by rfl, ?_⟩) ?_ ?_
               rotate_left
               ·intro w'
                go_simp
                with_reducible rfl
               rotate_left
               ·simp only [px_q]
                rfl
               refine pure_ (i := 3) (N := some 41) (v := ?_) (a' := ?_) #[true, false, false, true, false, false, false, false, false] rfl rfl (any_of HT_.out (by kernel_rfl)) (fun _ _ _ h => h) (Or.inl ⟨by rfl, ?_⟩) ?_ ?_
               rotate_left
               ·intro w'
                go_simp
                with_reducible rfl
               rotate_left
               ·simp only [px_q]
                rfl
               refine take_ (i := 1) (N := some 39) (v := ?_) (a' := ?_) #[true, true, false, true, false, false, false, false, false] rfl rfl (take_ofW HT_.out HW_.out (by kernel_rfl)) (fun _ _ _ h => h) (Or.inl ⟨by rfl, ?_⟩) hHeld ?_ ?_
               rotate_left
               ·rintro w' ⟨s0, s1, s2, s3, s4, s5, s6⟩
                go_simp
                with_reducible rfl
               rotate_left
               ·simp only [px_q]
                rfl
               refine take_ (i := 2) (N := some 40) (v := ?_) (a' := ?_) (px_l 4 5) rfl rfl (take_ofW HT_.out HW_.out (by kernel_rfl)) (fun _ _ _ h => h) (Or.inl ⟨by rfl, ?_⟩) hHeld ?_ ?_
               rotate_left
               ·rintro w' ⟨s0, s1, s2, s3, s4, s5, s6⟩
                go_simp
                with_reducible rfl
               rotate_left
               ·simp only [px_q]
                rfl
               refine take_ (i := 4) (N := some 42) (v := ?_) (a' := ?_) (px_l 5 4) rfl rfl (take_ofW HT_.out HW_.out (by kernel_rfl)) (fun _ _ _ h => h) (Or.inl ⟨by rfl, ?_⟩) hHeld ?_ ?_
               rotate_left
               ·rintro w' ⟨s0, s1, s2, s3, s4, s5, s6⟩
                go_simp
                with_reducible rfl
               rotate_left
               ·simp only [px_q]
                rfl
               refine one_ (i := 5) (N := some 43) (px_l 6 3) rfl rfl (one_of HT_.out (by kernel_rfl)) (by decide) (fun K hK => ?_)
               refine goes_ Try.func13 (by kernel_rfl) rfl #[.agg #[.slice (some ad161) l1_0.length c1_0, .slice A1_1 l1_1.length c1_1], .string ((rd_T38 l0_1 x5_2).f0)] (by rfl) rfl rfl px_dn ?_
               with_reducible refine (spec_slotOf.calls k2 _ _ l1_0 _ _ l1_1 ((rd_T38 l0_1 x5_2).f0) t160 _ ?side1 ?side2 ?side3 ?side4 A27.out).mono ?_
               (case side1 => exact px_cV ((Kd.C_below HR1_0.out HB.out)))
               (case side2 => exact HC1_0.out)
               (case side3 => exact px_cV ((Kd.C_below HR1_1.out HB.out)))
               (case side4 => exact HC1_1.out)
               rintro e w62 ⟨rfl, hb⟩
               refine ⟨_, rfl, ?_⟩
               have n0_ := aM (blk_below (g := gb152) (o := .cells #[.slice A0_0 l0_0.length c0_0, .slice (some ad158) l0_1.length c0_1] 30 (0, 0)) (px_bV BK152.out) hb)
               have n1_ := aM (blk_below (g := gb153) (o := .cells #[.slice (some ad161) l1_0.length c1_0, .slice A1_1 l1_1.length c1_1] 30 (0, 0)) (px_bV BK153.out) hb)
               have n2_ := aM (blk_below (g := gb159) (o := .cells #[.string ((rd_T38 l0_1 x5_2).f0), .int .i64 ((rd_T38 l0_1 x5_2).f1), .int .i64 ((rd_T38 l0_1 x5_2).f2), .bool true] 38 (0, 0)) (px_bV BK159.out) hb)
               have n3_ := aM (below_step (px_h3 HB.out GE152.out GE153.out GE159.out) hb)
               clear BK152
               clear BK153
               clear BK159
               clear HB
               have BK152 := n0_
               have BK153 := n1_
               have BK159 := n2_
               have HB := n3_
               clear n0_ n1_ n2_ n3_
               (try clear hb)
               (try clear hb2)
               (try clear hk)
               (try clear hi)
               refine hK.out _ _ ⟨(blk_cell BK153.out 0).trans rfl, (blk_cell BK153.out 1).trans rfl, (blk_cell BK159.out 0).trans rfl, (blk_cell BK159.out 1).trans rfl, (blk_cell BK159.out 2).trans rfl, (blk_cell BK159.out 3).trans rfl, ((HB.out.cell (World.block_lt_of_cell? w _ hw161_0)).trans hw161_0)⟩ (fun hHeld => ?_)
               clear hK K
               refine norm_ (a' := ?_) ?_ ?_
               rotate_left
               ·show Act.put _ (some 43) _ = _
                simp only [px_q]
                rfl
               refine pure_ (i := 6) (N := some 44) (v := ?_) (a' := ?_) (px_l 7 2) rfl rfl (any_of HT_.out (by kernel_rfl)) (fun _ _ _ h => h) (Or.inl ⟨by rfl, ?_⟩) ?_ ?_
               rotate_left
               ·intro w'
                go_simp
                with_reducible rfl
               rotate_left
               ·simp only [px_q]
                rfl
               refine take_ (i := 7) (N := some 45) (v := ?_) (a' := ?_) (px_l 8 1) rfl rfl (take_ofW HT_.out HW_.out (by kernel_rfl)) (fun _ _ _ h => h) (Or.inl ⟨by rfl, ?_⟩) hHeld ?_ ?_
               rotate_left
               ·rintro w' ⟨s0, s1, s2, s3, s4, s5, s6⟩
                go_simp
                with_reducible rfl
               rotate_left
               ·simp only [px_q]
                rfl
               refine pure_ (i := 8) (N := some 7) (v := ?_) (a' := ?_) (px_l 9 0) rfl rfl (any_of HT_.out (by kernel_rfl)) (fun _ _ _ h => h) (Or.inl ⟨by rfl, ?_⟩) ?_ ?_
               rotate_left
               ·intro w'
                go_simp
                with_reducible rfl
               rotate_left
               ·simp only [px_q]
                rfl
               refine done_ (done_of HT_.out (by kernel_rfl)) ?_
               try go_wp2
               have n0_ := aM (blk_drew BK152.out)
               have n1_ := aM (blk_drew BK153.out)
               have n2_ := aM (blk_drew BK159.out)
               have n3_ := aM (below_drew1 HB.out)
               clear BK152
               clear BK153
               clear BK159
               clear HB
               have BK152 := n0_
               have BK153 := n1_
               have BK159 := n2_
               have HB := n3_
               clear n0_ n1_ n2_ n3_
               have p162 : 0 ≤ ((rd l1_0 t160) : Int) := px_od
               have q162 : (rd l1_0 t160) < (l1_1.length : Int) := px_od
               obtain ⟨ad162, e162, hx162_0, hx162_1, hx162_2, hx162_3⟩ := at_T38 HR1_1.out (rd l1_0 t160) p162 q162
               have hw162_3 := hx162_3
               have hw162_2 := hx162_2
               have hw162_1 := hx162_1
               have hw162_0 := hx162_0
               (try rw [← Nbq25.out] at hx162_3)
               (try rw [← Nbq25.out] at hw162_3)
               cases e162
               replace hx162_0 := px_hx HB.out hx162_0
               replace hx162_1 := px_hx HB.out hx162_1
               replace hx162_2 := px_hx HB.out hx162_2
               replace hx162_3 := px_hx HB.out hx162_3
               replace p162 := eq_true p162
               replace q162 := eq_true q162
               refine start_ (n := 13) (S := fun w' => w'.cell? ⟨gb153, 0, none⟩ = some (.slice (some ad161) l1_0.length c1_0) ∧ w'.cell? ⟨gb153, 1, none⟩ = some (.slice (some ad162) l1_1.length c1_1) ∧ w'.cell? ⟨gb159, 0, none⟩ = some (.string ((rd_T38 l0_1 x5_2).f0)) ∧ w'.cell? ⟨gb159, 1, none⟩ = some (.int .i64 ((rd_T38 l0_1 x5_2).f1)) ∧ w'.cell? ⟨gb159, 2, none⟩ = some (.int .i64 ((rd_T38 l0_1 x5_2).f2)) ∧ w'.cell? ⟨gb159, 3, none⟩ = some (.bool true) ∧ w'.cell? (ad162.add (((rd l1_0 t160)).toNat * 4)) = some (.string ((rd_T38 l1_1 (rd l1_0 t160)).f0)) ∧ w'.cell? ⟨(ad162.add (((rd l1_0 t160)).toNat * 4)).block, (ad162.add (((rd l1_0 t160)).toNat * 4)).off + 1, none⟩ = some (.int .i64 ((rd_T38 l1_1 (rd l1_0 t160)).f1)) ∧ w'.cell? ⟨(ad162.add (((rd l1_0 t160)).toNat * 4)).block, (ad162.add (((rd l1_0 t160)).toNat * 4)).off + 2, none⟩ = some (.int .i64 ((rd_T38 l1_1 (rd l1_0 t160)).f2)) ∧ w'.cell? ⟨(ad162.add (((rd l1_0 t160)).toNat * 4)).block, (ad162.add (((rd l1_0 t160)).toNat * 4)).off + 3, none⟩ = some (.bool ((rd_T38 l1_1 (rd l1_0 t160)).f3))) (ds := []) (px_l 0 13) (by kernel_rfl) rfl rfl ⟨(blk_cell BK153.out 0).trans rfl, (blk_cell BK153.out 1).trans rfl, (blk_cell BK159.out 0).trans rfl, (blk_cell BK159.out 1).trans rfl, (blk_cell BK159.out 2).trans rfl, (blk_cell BK159.out 3).trans rfl, ((HB.out.cell (World.block_lt_of_cell? w _ hw162_0)).trans hw162_0), ((HB.out.cell (World.block_lt_of_cell? w _ hw162_1)).trans hw162_1), ((HB.out.cell (World.block_lt_of_cell? w _ hw162_2)).trans hw162_2), ((HB.out.cell (World.block_lt_of_cell? w _ hw162_3)).trans hw162_3)⟩ (fun hHeld => ?_); refine with_tabW spec_DictSame.tab9 spec_DictSame.bits9 (fun HT_ HW_ => ?_)
               generalize w62.drew = w63 at BK152 BK153 BK159 HB hx162_0 hx162_1 hx162_2 hx162_3 hHeld ⊢
               refine pure_ (i := 0) (N := some 46) (v := ?_) (a' := ?_) (px_l 1 12) rfl rfl (any_of HT_.out (by kernel_rfl)) (fun _ _ _ h => h) (Or.inl ⟨by rfl, ?_⟩) ?_ ?_
               rotate_left
               ·intro w'
                go_simp
                with_reducible rfl
               rotate_left
               ·simp only [px_q]
                rfl
               refine pure_ (i := 1) (N := some 47) (v := ?_) (a' := ?_) (px_l 2 11) rfl rfl (any_of HT_.out (by kernel_rfl)) (fun _ _ _ h => h) (Or.inl ⟨by rfl, ?_⟩) ?_ ?_
               rotate_left
               ·intro w'
                go_simp
                with_reducible rfl
               rotate_left
               ·simp only [px_q]
                rfl
               refine pure_ (i := 2) (N := some 48) (v := ?_) (a' := ?_) (px_l 3 10) rfl rfl (any_of HT_.out (by kernel_rfl)) (fun _ _ _ h => h) (Or.inl ⟨by rfl, ?_⟩) ?_ ?_
               rotate_left
               ·intro w'
                go_simp
                with_reducible rfl
               rotate_left
               ·simp only [px_q]
                rfl
               refine pure_ (i := 3) (N := some 49) (v := ?_) (a' := ?_) (px_l 4 9) rfl rfl (any_of HT_.out (by kernel_rfl)) (fun _ _ _ h => h) (Or.inl ⟨by rfl, ?_⟩) ?_ ?_
               rotate_left
               ·intro w'
                go_simp
                with_reducible rfl
               rotate_left
               ·simp only [px_q]
                rfl
               refine pure_ (i := 5) (N := some 51) (v := ?_) (a' := ?_) #[true, true, true, true, false, true, false, false, false, false, false, false, false] rfl rfl (any_of HT_.out (by kernel_rfl)) (fun _ _ _ h => h) (Or.inl ⟨by rfl, ?_⟩) ?_ ?_
               rotate_left
               ·intro w'
                go_simp
                with_reducible rfl
               rotate_left
               ·simp only [px_q]
                rfl
               refine pure_ (i := 9) (N := some 55) (v := ?_) (a' := ?_) #[true, true, true, true, false, true, false, false, false, true, false, false, false] rfl rfl (any_of HT_.out (by kernel_rfl)) (fun _ _ _ h => h) (Or.inl ⟨by rfl, ?_⟩) ?_ ?_
               rotate_left
               ·intro w'
                go_simp
                with_reducible rfl
               rotate_left
               ·simp only [px_q]
                rfl
               refine take_ (i := 4) (N := some 50) (v := ?_) (a' := ?_) #[true, true, true, true, true, true, false, false, false, true, false, false, false] rfl rfl (take_ofW HT_.out HW_.out (by kernel_rfl)) (fun _ _ _ h => h) (Or.inl ⟨by rfl, ?_⟩) hHeld ?_ ?_
               rotate_left
               ·rintro w' ⟨s0, s1, s2, s3, s4, s5, s6, s7, s8, s9⟩
                go_simp
                with_reducible rfl
               rotate_left
               ·simp only [px_q]
                rfl
               refine pure_ (i := 6) (N := some 52) (v := ?_) (a' := ?_) #[true, true, true, true, true, true, true, false, false, true, false, false, false] rfl rfl (any_of HT_.out (by kernel_rfl)) (fun _ _ _ h => h) (Or.inl ⟨by rfl, ?_⟩) ?_ ?_
               rotate_left
               ·intro w'
                go_simp
                with_reducible rfl
               rotate_left
               ·simp only [px_q]
                rfl
               refine pure_ (i := 7) (N := some 53) (v := ?_) (a' := ?_) #[true, true, true, true, true, true, true, true, false, true, false, false, false] rfl rfl (any_of HT_.out (by kernel_rfl)) (fun _ _ _ h => h) (Or.inl ⟨by rfl, ?_⟩) ?_ ?_
               rotate_left
               ·intro w'
                go_simp
                with_reducible rfl
               rotate_left
               ·simp only [px_q]
                rfl
               refine take_ (i := 8) (N := some 54) (v := ?_) (a' := ?_) (px_l 10 3) rfl rfl (take_ofW HT_.out HW_.out (by kernel_rfl)) (fun _ _ _ h => h) (Or.inl ⟨by rfl, ?_⟩) hHeld ?_ ?_
               rotate_left
               ·rintro w' ⟨s0, s1, s2, s3, s4, s5, s6, s7, s8, s9⟩
                go_simp
                with_reducible rfl
               rotate_left
               ·simp only [px_q]
                rfl
               refine take_ (i := 10) (N := some 56) (v := ?_) (a' := ?_) (px_l 11 2) rfl rfl (take_ofW HT_.out HW_.out (by kernel_rfl)) (fun _ _ _ h => h) (Or.inl ⟨by rfl, ?_⟩) hHeld ?_ ?_
               rotate_left
               ·rintro w' ⟨s0, s1, s2, s3, s4, s5, s6, s7, s8, s9⟩
                go_simp
                with_reducible rfl
               rotate_left
               ·simp only [px_q]
                rfl
               refine pure_ (i := 11) (N := some 57) (v := ?_) (a' := ?_) (px_l 12 1) rfl rfl (any_of HT_.out (by kernel_rfl)) (fun _ _ _ h => h) (Or.inl ⟨by rfl, ?_⟩) ?_ ?_
               rotate_left
               ·intro w'
                go_simp
                with_reducible rfl
               rotate_left
               ·simp only [px_q]
                rfl
               refine pure_ (i := 12) (N := some 58) (v := ?_) (a' := ?_) (px_l 13 0) rfl rfl (any_of HT_.out (by kernel_rfl)) (fun _ _ _ h => h) (Or.inl ⟨by rfl, ?_⟩) ?_ ?_
               rotate_left
               ·intro w'
                go_simp
                with_reducible rfl
               rotate_left
               ·simp only [px_q]
                rfl
               refine done_ (done_of HT_.out (by kernel_rfl)) ?_
               try go_wp2
               go_ret
               exact ⟨by first | rfl | (simp [errW_none, errW_some] <;> rfl) | (simp [*, errW_none, errW_some] <;> rfl), px_h3 HB.out GE152.out GE153.out GE159.out⟩
             ·rw [if_neg c42] at H
              exact absurd H (by simp)
            ·rw [if_neg c41] at H
             exact absurd H (by simp)
          ·rw [if_neg c29] at H
           exact absurd H (by simp)
         ·rw [if_neg c28] at H
          exact absurd H (by simp)
        ·replace c26 := Bool.eq_false_iff.mpr c26
         subst c26
         have H1 : (spec_DictSame.l0 k2 (wrap64 (x5_2 + 1)) l0_0 l0_1 l1_0 l1_1) = some r := by rw [if_neg (show ¬ (false = true) by decide)] at H; exact H
         clear H
         have H := H1
         clear H1
         have H' := aM H
         clear H
         have hnb64 := NB152_153.out
         have hnc64 := NB153_152.out
         have hcz65_0 : wr.cell? ⟨gb152, 0, none⟩ = some (.slice A0_0 l0_0.length c0_0) := (blk_cell BK152.out 0).trans rfl
         have hcz65_1 : wr.cell? ⟨gb152, 1, none⟩ = some (.slice A0_1 l0_1.length c0_1) := (blk_cell BK152.out 1).trans rfl
         have hfz65_0 := blk_frozen BK152.out 0
         have hfz65_1 := blk_frozen BK152.out 1
         have p158 : 0 ≤ (x5_2 : Int) := px_od
         have q158 : x5_2 < (l0_1.length : Int) := px_od
         obtain ⟨ad158, e158, hx158_0, hx158_1, hx158_2, hx158_3⟩ := at_T38 HR0_1.out x5_2 p158 q158
         (try rw [← Nbq25.out] at hx158_3)
         (try rw [← Nbq25.out] at hw158_3)
         cases e158
         replace hx158_0 := px_hx HB.out hx158_0
         replace hx158_1 := px_hx HB.out hx158_1
         replace hx158_2 := px_hx HB.out hx158_2
         replace hx158_3 := px_hx HB.out hx158_3
         replace p158 := eq_true p158
         replace q158 := eq_true q158
         go_wp2_with (first | ((with_reducible refine gate_dst (N := 6) rfl ?_); refine box_event ?hg (N := 6) ?hd (cs := #[.string (⟨#[]⟩ : ByteArray), .int .i64 0, .int .i64 0, .bool false]) (t := 38) ?hr ?_; (case hd => rfl); (case hg => rfl); (case hr => first | (go_simp; done) | (go_simp; rfl)); intro gb159 hg w66 hbox hb; have n0_ := aM (blk_below (g := gb152) (o := .cells #[.slice A0_0 l0_0.length c0_0, .slice (some ad158) l0_1.length c0_1] 30 (0, 0)) (px_bV BK152.out) hb); have n1_ := aM (blk_below (g := gb153) (o := .cells #[.slice A1_0 l1_0.length c1_0, .slice A1_1 l1_1.length c1_1] 30 (0, 0)) (px_bV BK153.out) hb); have n2_ := aM (below_step (px_h2 HB.out GE152.out GE153.out) hb); have n3_ := aM (hbox); have n4_ := aM ((by rw [hg]; exact (below_size (px_h2 HB.out GE152.out GE153.out)) : w.heap.size ≤ gb159)); have n5_ := aM ((by rw [hg]; exact (below_size (px_h2 HB.out GE152.out GE153.out)) : w.heap.size ≤ gb159)); have n6_ := aM ((by rw [hg]; exact Nat.ne_of_lt (blk_lt (g := gb152) (o := .cells #[.slice A0_0 l0_0.length c0_0, .slice (some ad158) l0_1.length c0_1] 30 (0, 0)) (px_bV BK152.out)) : gb152 ≠ gb159)); have n7_ := aM ((by rw [hg]; exact Nat.ne_of_gt (blk_lt (g := gb152) (o := .cells #[.slice A0_0 l0_0.length c0_0, .slice (some ad158) l0_1.length c0_1] 30 (0, 0)) (px_bV BK152.out)) : gb159 ≠ gb152)); have n8_ := aM ((by rw [hg]; exact Nat.ne_of_lt (blk_lt (g := gb153) (o := .cells #[.slice A1_0 l1_0.length c1_0, .slice A1_1 l1_1.length c1_1] 30 (0, 0)) (px_bV BK153.out)) : gb153 ≠ gb159)); have n9_ := aM ((by rw [hg]; exact Nat.ne_of_gt (blk_lt (g := gb153) (o := .cells #[.slice A1_0 l1_0.length c1_0, .slice A1_1 l1_1.length c1_1] 30 (0, 0)) (px_bV BK153.out)) : gb159 ≠ gb153)); clear BK152; clear BK153; clear HB; have BK152 := n0_; have BK153 := n1_; have HB := n2_; have BK159 := n3_; have GW159 := n4_; have GE159 := n5_; have NB152_159 := n6_; have NB159_152 := n7_; have NB153_159 := n8_; have NB159_153 := n9_; clear n0_ n1_ n2_ n3_ n4_ n5_ n6_ n7_ n8_ n9_; clear hb hbox hg; have hnb67 := NB159_152.out; have hnc67 := NB152_159.out; have hnb68 := NB159_153.out; have hnc68 := NB153_159.out; have hcz69_0 : w66.cell? ⟨gb159, 0, none⟩ = some (.string (⟨#[]⟩ : ByteArray)) := (blk_cell BK159.out 0).trans rfl; have hcz69_1 : w66.cell? ⟨gb159, 1, none⟩ = some (.int .i64 0) := (blk_cell BK159.out 1).trans rfl; have hcz69_2 : w66.cell? ⟨gb159, 2, none⟩ = some (.int .i64 0) := (blk_cell BK159.out 2).trans rfl; have hcz69_3 : w66.cell? ⟨gb159, 3, none⟩ = some (.bool false) := (blk_cell BK159.out 3).trans rfl; have hfz69_0 := blk_frozen BK159.out 0; have hfz69_1 := blk_frozen BK159.out 1; have hfz69_2 := blk_frozen BK159.out 2; have hfz69_3 := blk_frozen BK159.out 3))
         go_roundg k2
         case measure => have := HJ2.out; have := HK2.out; omega
         case rel => exact ⟨(wrap64 (x5_2 + 1)), px_rf, H', ⟨by have := HJ2.out; have := HK2.out; omega⟩, ⟨by (with_reducible repeat (first | refine blk_drewN ?_ _ | refine blk_drew ?_ | refine blk_alloc ?_ _)); refine blk_far ?_ NB152_159.out _; (with_reducible repeat (first | refine blk_drewN ?_ _ | refine blk_drew ?_ | refine blk_alloc ?_ _)); refine blk_far ?_ NB152_159.out _; (with_reducible repeat (first | refine blk_drewN ?_ _ | refine blk_drew ?_ | refine blk_alloc ?_ _)); refine blk_far ?_ NB152_159.out _; (with_reducible repeat (first | refine blk_drewN ?_ _ | refine blk_drew ?_ | refine blk_alloc ?_ _)); refine blk_far ?_ NB152_159.out _; (with_reducible repeat (first | refine blk_drewN ?_ _ | refine blk_drew ?_ | refine blk_alloc ?_ _)); first | exact BK152.out | (rw [← Nbq25.out]; exact BK152.out)⟩, ⟨by (with_reducible repeat (first | refine blk_drewN ?_ _ | refine blk_drew ?_ | refine blk_alloc ?_ _)); refine blk_far ?_ NB153_159.out _; (with_reducible repeat (first | refine blk_drewN ?_ _ | refine blk_drew ?_ | refine blk_alloc ?_ _)); refine blk_far ?_ NB153_159.out _; (with_reducible repeat (first | refine blk_drewN ?_ _ | refine blk_drew ?_ | refine blk_alloc ?_ _)); refine blk_far ?_ NB153_159.out _; (with_reducible repeat (first | refine blk_drewN ?_ _ | refine blk_drew ?_ | refine blk_alloc ?_ _)); refine blk_far ?_ NB153_159.out _; (with_reducible repeat (first | refine blk_drewN ?_ _ | refine blk_drew ?_ | refine blk_alloc ?_ _)); first | exact BK153.out | (rw [← Nbq25.out]; exact BK153.out)⟩, ⟨px_h3 HB.out GE152.out GE153.out GE159.out⟩⟩
       ·rw [if_neg c24] at H
        exact absurd H (by simp)
      ·rw [if_neg c23] at H
       have c23b0 : decide (x5_2 < (l0_1.length : Int)) = false := decide_eq_false c23
       clear c23
       obtain rfl := Option.some.inj H
       have hnb70 := NB152_153.out
       have hnc70 := NB153_152.out
       have hcz71_0 : wr.cell? ⟨gb152, 0, none⟩ = some (.slice A0_0 l0_0.length c0_0) := (blk_cell BK152.out 0).trans rfl
       have hcz71_1 : wr.cell? ⟨gb152, 1, none⟩ = some (.slice A0_1 l0_1.length c0_1) := (blk_cell BK152.out 1).trans rfl
       have hfz71_0 := blk_frozen BK152.out 0
       have hfz71_1 := blk_frozen BK152.out 1
       go_wp2
       go_ret
       exact ⟨by first | rfl | (simp [errW_none, errW_some] <;> rfl) | (simp [*, errW_none, errW_some] <;> rfl), px_h2 HB.out GE152.out GE153.out⟩

end Go.Proofs.Ythocdlaajncmpaa.Q
