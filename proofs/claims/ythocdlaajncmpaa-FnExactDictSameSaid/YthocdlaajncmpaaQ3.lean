-- Printed by a program of this project's own, for this seat.
import Derived.Test.YthocdlaajncmpaaQ0
import Derived.Test.YthocdlaajncmpaaQ2
namespace Go.Proofs.Ythocdlaajncmpaa.Q
open Go.RowKit Go.Proofs.YthocdlaajncmpaaW.PrintWords Go.Proofs.YthocdlaajncmpaaW.PrintLast Go.Proofs.YthocdlaajncmpaaW.PrintMore
attribute [local go_sem] max2_int min2_int max_two min_two max_three min_three max_four min_four   -- for this text's walks alone
set_option linter.unusedVariables false
set_option linter.unusedSimpArgs false

/-! ### spec_validSlots: function 25 -/
mutual
def spec_validSlots.l0 : Nat → List Bool → Int → Int → List Int → List (S38) → Option (Bool)
 | 0, _, _, _, _, _ => none
 | k + 1, x3, x4, x5, x125000, x125001 => if x5 < (x125000.length : Int) then (if 0 ≤ x5 then (if (rd x125000 x5) = (-2) then (spec_validSlots.j1 k x3 (wrap64 (x4 + 1)) x5 (rd x125000 x5) x125000 x125001) else (spec_validSlots.j1 k x3 x4 x5 (rd x125000 x5) x125000 x125001)) else (none)) else (spec_validSlots.l1 k x3 x4 0 x125000 x125001)
def spec_validSlots.j1 : Nat → List Bool → Int → Int → Int → List Int → List (S38) → Option (Bool)
 | 0, _, _, _, _, _, _ => none
 | k + 1, x3, x4, x5, x6, x125000, x125001 => if x6 < (-2) then (spec_validSlots.j2 k x3 x4 x5 x6 true x125000 x125001) else (if x6 ≥ (x125001.length : Int) then (spec_validSlots.j2 k x3 x4 x5 x6 true x125000 x125001) else (if x6 ≥ 0 then (if 0 ≤ x6 then (if x6 < (x3.length : Int) then (if rdOf false x3 x6 = true then (spec_validSlots.j2 k x3 x4 x5 x6 true x125000 x125001) else (if x6 < (x125001.length : Int) then (spec_validSlots.j2 k x3 x4 x5 x6 (!((rd_T38 x125001 x6).f3)) x125000 x125001) else (none))) else (none)) else (none)) else (spec_validSlots.j2 k x3 x4 x5 x6 false x125000 x125001)))
def spec_validSlots.j2 : Nat → List Bool → Int → Int → Int → Bool → List Int → List (S38) → Option (Bool)
 | 0, _, _, _, _, _, _, _ => none
 | k + 1, x3, x4, x5, x6, x55, x125000, x125001 => if x55 = true then (some false) else (if x6 ≥ 0 then (if 0 ≤ x6 then (if x6 < (x3.length : Int) then (spec_validSlots.l0 k (x3.set (x6 : Int).toNat true) x4 (wrap64 (x5 + 1)) x125000 x125001) else (none)) else (none)) else (spec_validSlots.l0 k x3 x4 (wrap64 (x5 + 1)) x125000 x125001))
def spec_validSlots.l1 : Nat → List Bool → Int → Int → List Int → List (S38) → Option (Bool)
 | 0, _, _, _, _, _ => none
 | k + 1, x3, x4, x7, x125000, x125001 => if x7 < (x3.length : Int) then (if 0 ≤ x7 then (if x7 < (x125001.length : Int) then (if ((rdOf false x3 x7) != ((rd_T38 x125001 x7).f3)) = true then (some false) else (spec_validSlots.l1 k x3 x4 (wrap64 (x7 + 1)) x125000 x125001)) else (none)) else (none)) else ((spec_liveEntries.f k x125000 x125001).bind fun t134 => (some (x4 == (wrap64 ((x125001.length : Int) - t134)))))
end
def spec_validSlots.f (k : Nat) (l0_0 : List Int) (l0_1 : List (S38)) : Option (Bool) := if 0 ≤ (l0_1.length : Int) then (if ((l0_1.length : Int) : Int).toNat ≤ 281474976710656 then (spec_validSlots.l0 k (List.replicate ((l0_1.length : Int) : Int).toNat false) 0 0 l0_0 l0_1) else (none)) else (none)
theorem spec_validSlots.mono_l : ∀ k, (∀ y0 y1 y2 y3 y4, LeO (spec_validSlots.l0 k y0 y1 y2 y3 y4) (spec_validSlots.l0 (k + 1) y0 y1 y2 y3 y4)) ∧ (∀ y0 y1 y2 y3 y4 y5, LeO (spec_validSlots.j1 k y0 y1 y2 y3 y4 y5) (spec_validSlots.j1 (k + 1) y0 y1 y2 y3 y4 y5)) ∧ (∀ y0 y1 y2 y3 y4 y5 y6, LeO (spec_validSlots.j2 k y0 y1 y2 y3 y4 y5 y6) (spec_validSlots.j2 (k + 1) y0 y1 y2 y3 y4 y5 y6)) ∧ (∀ y0 y1 y2 y3 y4, LeO (spec_validSlots.l1 k y0 y1 y2 y3 y4) (spec_validSlots.l1 (k + 1) y0 y1 y2 y3 y4))
 | 0 => ⟨fun _ _ _ _ _ r h => by simp [spec_validSlots.l0] at h, fun _ _ _ _ _ _ r h => by simp [spec_validSlots.j1] at h, fun _ _ _ _ _ _ _ r h => by simp [spec_validSlots.j2] at h, fun _ _ _ _ _ r h => by simp [spec_validSlots.l1] at h⟩
 | k + 1 => by
  obtain ⟨ih0, ih1, ih2, ih3⟩ := spec_validSlots.mono_l k
  refine ⟨?_, ?_, ?_, ?_⟩
  ·intro y0 y1 y2 y3 y4
   unfold spec_validSlots.l0
   repeat' first
   | (with_reducible exact ih0 _ _ _ _ _)
   | (with_reducible exact ih1 _ _ _ _ _ _)
   | (with_reducible exact ih2 _ _ _ _ _ _ _)
   | (with_reducible exact ih3 _ _ _ _ _)
   | (with_reducible exact spec_liveEntries.mono _ _ _)
   | (with_reducible exact LeO.refl _)
   | (with_reducible exact LeO.none _)
   | (with_reducible refine LeO.ite ?_ ?_)
   | (with_reducible refine LeO.bind ?_ (fun _ => ?_))
   | exact ih0 _ _ _ _ _
   | exact ih1 _ _ _ _ _ _
   | exact ih2 _ _ _ _ _ _ _
   | exact ih3 _ _ _ _ _
   | exact spec_liveEntries.mono _ _ _
   | exact LeO.none _
   | refine LeO.ite ?_ ?_
   | refine LeO.bind ?_ (fun _ => ?_)
  ·intro y0 y1 y2 y3 y4 y5
   unfold spec_validSlots.j1
   repeat' first
   | (with_reducible exact ih0 _ _ _ _ _)
   | (with_reducible exact ih1 _ _ _ _ _ _)
   | (with_reducible exact ih2 _ _ _ _ _ _ _)
   | (with_reducible exact ih3 _ _ _ _ _)
   | (with_reducible exact spec_liveEntries.mono _ _ _)
   | (with_reducible exact LeO.refl _)
   | (with_reducible exact LeO.none _)
   | (with_reducible refine LeO.ite ?_ ?_)
   | (with_reducible refine LeO.bind ?_ (fun _ => ?_))
   | exact ih0 _ _ _ _ _
   | exact ih1 _ _ _ _ _ _
   | exact ih2 _ _ _ _ _ _ _
   | exact ih3 _ _ _ _ _
   | exact spec_liveEntries.mono _ _ _
   | exact LeO.none _
   | refine LeO.ite ?_ ?_
   | refine LeO.bind ?_ (fun _ => ?_)
  ·intro y0 y1 y2 y3 y4 y5 y6
   unfold spec_validSlots.j2
   repeat' first
   | (with_reducible exact ih0 _ _ _ _ _)
   | (with_reducible exact ih1 _ _ _ _ _ _)
   | (with_reducible exact ih2 _ _ _ _ _ _ _)
   | (with_reducible exact ih3 _ _ _ _ _)
   | (with_reducible exact spec_liveEntries.mono _ _ _)
   | (with_reducible exact LeO.refl _)
   | (with_reducible exact LeO.none _)
   | (with_reducible refine LeO.ite ?_ ?_)
   | (with_reducible refine LeO.bind ?_ (fun _ => ?_))
   | exact ih0 _ _ _ _ _
   | exact ih1 _ _ _ _ _ _
   | exact ih2 _ _ _ _ _ _ _
   | exact ih3 _ _ _ _ _
   | exact spec_liveEntries.mono _ _ _
   | exact LeO.none _
   | refine LeO.ite ?_ ?_
   | refine LeO.bind ?_ (fun _ => ?_)
  ·intro y0 y1 y2 y3 y4
   unfold spec_validSlots.l1
   repeat' first
   | (with_reducible exact ih0 _ _ _ _ _)
   | (with_reducible exact ih1 _ _ _ _ _ _)
   | (with_reducible exact ih2 _ _ _ _ _ _ _)
   | (with_reducible exact ih3 _ _ _ _ _)
   | (with_reducible exact spec_liveEntries.mono _ _ _)
   | (with_reducible exact LeO.refl _)
   | (with_reducible exact LeO.none _)
   | (with_reducible refine LeO.ite ?_ ?_)
   | (with_reducible refine LeO.bind ?_ (fun _ => ?_))
   | exact ih0 _ _ _ _ _
   | exact ih1 _ _ _ _ _ _
   | exact ih2 _ _ _ _ _ _ _
   | exact ih3 _ _ _ _ _
   | exact spec_liveEntries.mono _ _ _
   | exact LeO.none _
   | refine LeO.ite ?_ ?_
   | refine LeO.bind ?_ (fun _ => ?_)
theorem spec_validSlots.mono : ∀ a0 a1 k, LeO (spec_validSlots.f k a0 a1) (spec_validSlots.f (k + 1) a0 a1) := by
 intro a0 a1 k
 obtain ⟨ih0, ih1, ih2, ih3⟩ := spec_validSlots.mono_l k
 unfold spec_validSlots.f
 repeat' first
   | (with_reducible exact ih0 _ _ _ _ _)
   | (with_reducible exact ih1 _ _ _ _ _ _)
   | (with_reducible exact ih2 _ _ _ _ _ _ _)
   | (with_reducible exact ih3 _ _ _ _ _)
   | (with_reducible exact spec_liveEntries.mono _ _ _)
   | (with_reducible exact LeO.refl _)
   | (with_reducible exact LeO.none _)
   | (with_reducible refine LeO.ite ?_ ?_)
   | (with_reducible refine LeO.bind ?_ (fun _ => ?_))
   | exact ih0 _ _ _ _ _
   | exact ih1 _ _ _ _ _ _
   | exact ih2 _ _ _ _ _ _ _
   | exact ih3 _ _ _ _ _
   | exact spec_liveEntries.mono _ _ _
   | exact LeO.none _
   | refine LeO.ite ?_ ?_
   | refine LeO.bind ?_ (fun _ => ?_)
def spec_validSlots.T16 : Bool × List (List Nat × List Nat) := (true, [([], []), ([], []), ([0, 1], [0, 1]), ([2], [2]), ([], []), ([4], [4]), ([], []), ([5, 6], [5, 6]), ([7], [7]), ([8], [8]), ([3, 9], [3, 9])])
def spec_validSlots.B16 : List Nat := [0, 0, 3, 7, 0, 16, 0, 112, 240, 496, 1023]
theorem spec_validSlots.tab16 : rtab .any (opsOf Try.f25 16) = spec_validSlots.T16 := by kernel_rfl
theorem spec_validSlots.bits16 : waitsOk spec_validSlots.T16.2 spec_validSlots.B16 = true := by kernel_rfl
def spec_validSlots.T18 : Bool × List (List Nat × List Nat) := (true, [([], []), ([], []), ([1], [1]), ([2], [2]), ([], []), ([4], [4]), ([3, 5], [3, 5]), ([0, 6], [0, 6]), ([7, 5, 0, 1, 2, 3, 4, 5, 6, 7], [7])])
def spec_validSlots.B18 : List Nat := [0, 0, 2, 6, 0, 16, 62, 127, 255]
theorem spec_validSlots.tab18 : rtab .any (opsOf Try.f25 18) = spec_validSlots.T18 := by kernel_rfl
theorem spec_validSlots.bits18 : waitsOk spec_validSlots.T18.2 spec_validSlots.B18 = true := by kernel_rfl
set_option maxHeartbeats 8000000 in
set_option maxRecDepth 100000 in
theorem spec_validSlots.calls (k : Nat) (A0_0 : Option Addr) (c0_0 : Nat) (l0_0 : List Int) (A0_1 : Option Addr) (c0_1 : Nat) (l0_1 : List (S38)) (r : Bool) (w : World) (hr0_0 : Kd.C (Kd.int .i64) w A0_0 l0_0.length l0_0) (hc0_0 : l0_0.length ≤ c0_0) (hr0_1 : Kd.C k38 w A0_1 l0_1.length l0_1) (hc0_1 : l0_1.length ≤ c0_1) (h : spec_validSlots.f k l0_0 l0_1 = some r) :
  Calls Try.prog 25 #[.agg #[.slice A0_0 l0_0.length c0_0, .slice A0_1 l0_1.length c0_1]] w fun e w' => e = .returned (.bool r) ∧ Below w.heap.size w w' := by
 have hu30 := Try.underlying30
 have HR0_0 := aM hr0_0
 have HC0_0 := aM hc0_0
 clear hr0_0 hc0_0
 have HR0_1 := aM hr0_1
 have HC0_1 := aM hc0_1
 clear hr0_1 hc0_1
 have HB := aM (Below.refl w.heap.size w)
 have H : (if 0 ≤ (l0_1.length : Int) then (if ((l0_1.length : Int) : Int).toNat ≤ 281474976710656 then (spec_validSlots.l0 k (List.replicate ((l0_1.length : Int) : Int).toNat false) 0 0 l0_0 l0_1) else (none)) else (none)) = some r := h
 clear h
 by_cases c2 : 0 ≤ (l0_1.length : Int)
 ·rw [if_pos c2] at H
  have c2b0 := eq_true c2
  have c2b1 : decide (0 ≤ (l0_1.length : Int)) = true := decide_eq_true c2
  clear c2
  by_cases c3 : ((l0_1.length : Int) : Int).toNat ≤ 281474976710656
  ·rw [if_pos c3] at H
   have c3b0 := eq_true c3
   have c3b1 : decide (((l0_1.length : Int) : Int).toNat ≤ 281474976710656) = true := decide_eq_true c3
   clear c3
   obtain ⟨y125, hy125⟩ : ∃ y_ : List Bool, y_ = (List.replicate ((l0_1.length : Int) : Int).toNat false) := ⟨_, rfl⟩
   replace H : (spec_validSlots.l0 k y125 0 0 l0_0 l0_1) = some r := by first | (rw [hy125]; with_reducible exact H) | (have H2_ := (Option.bind_some _ _).symm.trans H; rw [hy125]; with_reducible exact H2_) | (have H2_ := (Option.bind_some _ _).symm.trans H; with_reducible exact H2_) | with_reducible exact H | (rw [hy125]; exact H) | exact H
   have Ny125 := aM hy125
   clear hy125
   have H' := aM H
   clear H
   go_enter Try.func25, Try.ntmps25
   go_wp2_with (first | ((with_reducible refine gate_dst (N := 1) rfl ?_); (try (refine gate_guard (by rfl) ?_; dsimp only)); refine box_event ?hg (N := 1) ?hd (cs := #[.slice A0_0 l0_0.length c0_0, .slice A0_1 l0_1.length c0_1]) (t := 30) ?hr ?_; (case hd => rfl); (case hg => rfl); (case hr => first | (go_simp; done) | (go_simp; rfl)); intro gb124 hg w4 hbox hb; have n0_ := aM (below_step (px_h0 HB.out) hb); have n1_ := aM (hbox); have n2_ := aM ((by rw [hg]; exact (below_size (px_h0 HB.out)) : w.heap.size ≤ gb124)); have n3_ := aM ((by rw [hg]; exact (below_size (px_h0 HB.out)) : w.heap.size ≤ gb124)); clear HB; have HB := n0_; have BK124 := n1_; have GW124 := n2_; have GE124 := n3_; clear n0_ n1_ n2_ n3_; clear hb hbox hg; have hcz5_0 : w4.cell? ⟨gb124, 0, none⟩ = some (.slice A0_0 l0_0.length c0_0) := (blk_cell BK124.out 0).trans rfl; have hcz5_1 : w4.cell? ⟨gb124, 1, none⟩ = some (.slice A0_1 l0_1.length c0_1) := (blk_cell BK124.out 1).trans rfl; have hfz5_0 := blk_frozen BK124.out 0; have hfz5_1 := blk_frozen BK124.out 1) | ((with_reducible refine gate_dst (N := 11) rfl ?_); (try (refine gate_guard (by rfl) ?_; dsimp only)); refine Kd.R_make Kd.bool _ 4 rfl (N := 11) rfl 55 _ _ rfl (l0_1.length : Int) rfl rfl Try.underlying55 (.bool false) 1 info4 rfl (by decide) (by omega) false (ok := fun _ => True) (okp := fun _ => True) rfl (fun _ hk => hk) trivial (px_od) (Nat.le_trans (Nat.mul_le_mul_right _ (px_od : (l0_1.length : Int).toNat ≤ 281474976710656)) (by omega)) (Below.refl _ _) (Nat.le_refl _) ?_; intro v126 w6 ho7 hb hg_ hnew_; clear hg_ hnew_; (first | rw [← Ny125.out] at ho7 | (simp only [Int.reduceToNat] at ho7; rw [← Ny125.out] at ho7)); have n0_ := aM (Kd.R_lower ho7 (below_size (px_h1 HB.out GE124.out))); have n1_ := aM (blk_below (g := gb124) (o := .cells #[.slice A0_0 l0_0.length c0_0, .slice A0_1 l0_1.length c0_1] 30 (0, 0)) (px_bV BK124.out) hb); have n2_ := aM (below_step (px_h1 HB.out GE124.out) hb); clear BK124; clear HB; have HO127 := n0_; have BK124 := n1_; have HB := n2_; clear n0_ n1_ n2_; clear hb ho7))
   go_loopg [4, 5] k (fun kq v4 v5 w' => ∃ (x3_1 : List Bool) (x4_1 : Int) (x5_1 : Int), v4 = .int .i64 x4_1 ∧ v5 = .int .i64 x5_1 ∧ Aside0 (spec_validSlots.l0 kq x3_1 x4_1 x5_1 l0_0 l0_1 = some r) ∧ Aside0 (kq ≤ k) ∧ Aside0 (Kd.R Kd.bool 4 w' w.heap.size (fun _ => True) v126 x3_1) ∧ Aside0 (w'.heap[gb124]? = some (.cells #[(.slice A0_0 l0_0.length c0_0), (.slice A0_1 l0_1.length c0_1)] 30 (0, 0))) ∧ Aside0 (Below w.heap.size w w'))
   case atStart => exact ⟨(y125), (0), (0), px_rf, px_rf, H', ⟨Nat.le_refl _⟩, ⟨px_rV HO127.out⟩, ⟨px_bV BK124.out⟩, ⟨px_h1 HB.out GE124.out⟩⟩
   case round =>
    clear H'
    try clear c2
    try clear c2b0
    try clear c2b1
    try clear p2
    try clear c3
    try clear c3b0
    try clear c3b1
    try clear hcz5_0
    try clear hcz5_1
    try clear hfz5_0
    try clear hfz5_1
    obtain ⟨x3_1, x4_1, x5_1, rfl, rfl, HA, HK1, HO_3, BK124, HB⟩ := hrel
    cases gk with
    | zero => exact absurd HA.out (by simp [spec_validSlots.l0])
    | succ k1 =>
     have H := HA.out
     clear HA
     simp only [spec_validSlots.l0] at H
     by_cases c8 : x5_1 < (l0_0.length : Int)
     ·rw [if_pos c8] at H
      have c8b0 : decide (x5_1 < (l0_0.length : Int)) = true := decide_eq_true c8
      clear c8
      by_cases c9 : 0 ≤ x5_1
      ·rw [if_pos c9] at H
       have c9b0 : decide (0 ≤ x5_1) = true := decide_eq_true c9
       clear c9
       have HC10 := aM H
       clear H
       have hcz11_0 : wr.cell? ⟨gb124, 0, none⟩ = some (.slice A0_0 l0_0.length c0_0) := (blk_cell BK124.out 0).trans rfl
       have hcz11_1 : wr.cell? ⟨gb124, 1, none⟩ = some (.slice A0_1 l0_1.length c0_1) := (blk_cell BK124.out 1).trans rfl
       have hfz11_0 := blk_frozen BK124.out 0
       have hfz11_1 := blk_frozen BK124.out 1
       have p128 : 0 ≤ (x5_1 : Int) := px_od
       have q128 : x5_1 < (l0_0.length : Int) := px_od
       obtain ⟨ad128, e128, hx128_0⟩ := Kd.at_int HR0_0.out x5_1 p128 q128
       cases e128
       replace hx128_0 := px_hx HB.out hx128_0
       replace p128 := eq_true p128
       replace q128 := eq_true q128
       go_upto_if 25 with (fail)
       go_cut [4] (fun v4 wc => ∃ (kq : Nat) (x4_9 : Int), v4 = .int .i64 x4_9 ∧ Aside0 (spec_validSlots.j1 kq x3_1 x4_9 x5_1 (rd l0_0 x5_1) l0_0 l0_1 = some r) ∧ Aside0 (kq ≤ k1) ∧ Aside0 (Kd.R Kd.bool 4 wc w.heap.size (fun _ => True) v126 x3_1) ∧ Aside0 (wc.heap[gb124]? = some (.cells #[(.slice (some ad128) l0_0.length c0_0), (.slice A0_1 l0_1.length c0_1)] 30 (0, 0))) ∧ Aside0 (Below w.heap.size w wc))
       case first =>
        have H := HC10.out
        clear HC10
        by_cases c12 : (rd l0_0 x5_1) = (-2)
        ·rw [if_pos c12] at H
         have c12b0 : ((rd l0_0 x5_1) == (-2)) = true := beq_iff_eq.mpr c12
         have c12b1 : ((rd l0_0 x5_1) != (-2)) = false := bne_eq_false_iff_eq.mpr c12
         clear c12
         (first | rw [c12b0] | (simp only [i64_w, i32_w]; rw [c12b0]) | skip)
         have H' := aM H
         clear H
         go_wp2
         go_meet
         case rel => exact ⟨_, (wrap64 (x4_1 + 1)), px_rf, H', ⟨by have := HK1.out; first | omega | exact Nat.le_refl _⟩, ⟨px_rV HO_3.out⟩, ⟨px_bV BK124.out⟩, ⟨px_h1 HB.out GE124.out⟩⟩
        ·rw [if_neg c12] at H
         have c12b0 : ((rd l0_0 x5_1) == (-2)) = false := beq_eq_false_iff_ne.mpr c12
         have c12b1 : ((rd l0_0 x5_1) != (-2)) = true := bne_iff_ne.mpr c12
         (first | rw [c12b0] | (simp only [i64_w, i32_w]; rw [c12b0]) | skip)
         have H' := aM H
         clear H
         go_wp2
         go_meet
         case rel => exact ⟨_, (x4_1), px_rf, H', ⟨by have := HK1.out; first | omega | exact Nat.le_refl _⟩, ⟨px_rV HO_3.out⟩, ⟨px_bV BK124.out⟩, ⟨px_h1 HB.out GE124.out⟩⟩
       case rest =>
        clear HC10
        try clear c1
        try clear p1
        try clear q1
        try clear hx1
        try clear c2
        try clear c2b0
        try clear c2b1
        try clear p2
        try clear c3
        try clear c3b0
        try clear c3b1
        try clear p6
        try clear c8
        try clear c8b0
        try clear c9
        try clear c9b0
        try clear c12
        try clear c12b0
        try clear c12b1
        try clear p12
        try clear q12
        try clear hx12
        try clear hcz11_0
        try clear hcz11_1
        try clear hcz5_0
        try clear hcz5_1
        try clear hfz11_0
        try clear hfz11_1
        try clear hfz5_0
        try clear hfz5_1
        try clear hx128_0
        try clear p128
        try clear p2
        try clear q128
        obtain ⟨kq, x4_9, rfl, HA, HJ9, HO_3, BK124, HB⟩ := hcut
        cases kq with
        | zero => exact absurd HA.out (by simp [spec_validSlots.j1])
        | succ kj9 =>
         have H := HA.out
         clear HA
         simp only [spec_validSlots.j1] at H
         have HC13 := aM H
         clear H
         go_upto_region 9 with (fail)
         go_cut [55] (fun v55 wc => ∃ (kq : Nat) (x55_12 : Bool), v55 = .bool x55_12 ∧ Aside0 (spec_validSlots.j2 kq x3_1 x4_9 x5_1 (rd l0_0 x5_1) x55_12 l0_0 l0_1 = some r) ∧ Aside0 (kq ≤ kj9) ∧ Aside0 (Kd.R Kd.bool 4 wc w.heap.size (fun _ => True) v126 x3_1) ∧ Aside0 (wc.heap[gb124]? = some (.cells #[(.slice (some ad128) l0_0.length c0_0), (.slice A0_1 l0_1.length c0_1)] 30 (0, 0))) ∧ Aside0 (Below w.heap.size w wc))
         case first =>
          have H := HC13.out
          clear HC13
          by_cases c14 : (rd l0_0 x5_1) < (-2)
          ·rw [if_pos c14] at H
           have c14b0 : decide ((rd l0_0 x5_1) < (-2)) = true := decide_eq_true c14
           clear c14
           (first | rw [c14b0] | (simp only [i64_w, i32_w]; rw [c14b0]) | skip)
           have H' := aM H
           clear H
           go_wp2
           go_meet
           case rel => exact ⟨_, (true), px_rf, H', ⟨by have := HK1.out; have := HJ9.out; first | omega | exact Nat.le_refl _⟩, ⟨px_rV HO_3.out⟩, ⟨px_bV BK124.out⟩, ⟨px_h1 HB.out GE124.out⟩⟩
          ·rw [if_neg c14] at H
           have c14b0 : decide ((rd l0_0 x5_1) < (-2)) = false := decide_eq_false c14
           clear c14
           (first | rw [c14b0] | (simp only [i64_w, i32_w]; rw [c14b0]) | skip)
           by_cases c15 : (rd l0_0 x5_1) ≥ (l0_1.length : Int)
           ·rw [if_pos c15] at H
            have c15b0 : decide ((l0_1.length : Int) ≤ (rd l0_0 x5_1)) = true := decide_eq_true c15
            clear c15
            have H' := aM H
            clear H
            have hcz16_0 : wc.cell? ⟨gb124, 0, none⟩ = some (.slice (some ad128) l0_0.length c0_0) := (blk_cell BK124.out 0).trans rfl
            have hcz16_1 : wc.cell? ⟨gb124, 1, none⟩ = some (.slice A0_1 l0_1.length c0_1) := (blk_cell BK124.out 1).trans rfl
            have hfz16_0 := blk_frozen BK124.out 0
            have hfz16_1 := blk_frozen BK124.out 1
            go_wp2
            go_meet
            case rel => exact ⟨_, (true), px_rf, H', ⟨by have := HK1.out; have := HJ9.out; first | omega | exact Nat.le_refl _⟩, ⟨px_rV HO_3.out⟩, ⟨px_bV BK124.out⟩, ⟨px_h1 HB.out GE124.out⟩⟩
           ·rw [if_neg c15] at H
            have c15b0 : decide ((l0_1.length : Int) ≤ (rd l0_0 x5_1)) = false := decide_eq_false c15
            clear c15
            by_cases c17 : (rd l0_0 x5_1) ≥ 0
            ·rw [if_pos c17] at H
             have c17b0 : decide (0 ≤ (rd l0_0 x5_1)) = true := decide_eq_true c17
             clear c17
             by_cases c18 : 0 ≤ (rd l0_0 x5_1)
             ·rw [if_pos c18] at H
              have c18b0 : decide (0 ≤ (rd l0_0 x5_1)) = true := decide_eq_true c18
              clear c18
              by_cases c19 : (rd l0_0 x5_1) < (x3_1.length : Int)
              ·rw [if_pos c19] at H
               have c19b0 : decide ((rd l0_0 x5_1) < (x3_1.length : Int)) = true := decide_eq_true c19
               clear c19
               obtain ⟨bq20, hbq20⟩ : ∃ b_ : Bool, b_ = (rdOf false x3_1 (rd l0_0 x5_1)) := ⟨_, rfl⟩
               replace H : (if bq20 = true then (spec_validSlots.j2 kj9 x3_1 x4_9 x5_1 (rd l0_0 x5_1) true l0_0 l0_1) else (if (rd l0_0 x5_1) < (l0_1.length : Int) then (spec_validSlots.j2 kj9 x3_1 x4_9 x5_1 (rd l0_0 x5_1) (!((rd_T38 l0_1 (rd l0_0 x5_1)).f3)) l0_0 l0_1) else (none))) = some r := by rw [← hbq20] at H; exact H
               have Nbq20 := aM hbq20
               clear hbq20
               by_cases c21 : bq20 = true
               ·subst c21
                have H1 : (spec_validSlots.j2 kj9 x3_1 x4_9 x5_1 (rd l0_0 x5_1) true l0_0 l0_1) = some r := by rw [if_pos rfl] at H; exact H
                clear H
                have H := H1
                clear H1
                have H' := aM H
                clear H
                have hcz22_0 : wc.cell? ⟨gb124, 0, none⟩ = some (.slice (some ad128) l0_0.length c0_0) := (blk_cell BK124.out 0).trans rfl
                have hcz22_1 : wc.cell? ⟨gb124, 1, none⟩ = some (.slice A0_1 l0_1.length c0_1) := (blk_cell BK124.out 1).trans rfl
                have hfz22_0 := blk_frozen BK124.out 0
                have hfz22_1 := blk_frozen BK124.out 1
                obtain ⟨Ao23, co23, eo23⟩ := Kd.R_slice HO_3.out
                subst eo23
                have p129 : 0 ≤ ((rd l0_0 x5_1) : Int) := px_od
                have q129 : (rd l0_0 x5_1) < (x3_1.length : Int) := px_od
                obtain ⟨ad129, e129, hx129_0⟩ := Kd.at_bool (Kd.R_reads' HO_3.out).2.2 (rd l0_0 x5_1) p129 q129
                (try rw [← Nbq20.out] at hx129_0)
                (try rw [← Nbq20.out] at hw129_0)
                cases e129
                replace p129 := eq_true p129
                replace q129 := eq_true q129
                go_wp2
                go_meet
                case rel => exact ⟨_, (true), px_rf, H', ⟨by have := HK1.out; have := HJ9.out; first | omega | exact Nat.le_refl _⟩, ⟨px_rV HO_3.out⟩, ⟨by first | exact px_bV BK124.out | (rw [← Nbq20.out]; exact px_bV BK124.out)⟩, ⟨px_h1 HB.out GE124.out⟩⟩
               ·replace c21 := Bool.eq_false_iff.mpr c21
                subst c21
                have H1 : (if (rd l0_0 x5_1) < (l0_1.length : Int) then (spec_validSlots.j2 kj9 x3_1 x4_9 x5_1 (rd l0_0 x5_1) (!((rd_T38 l0_1 (rd l0_0 x5_1)).f3)) l0_0 l0_1) else (none)) = some r := by rw [if_neg (show ¬ (false = true) by decide)] at H; exact H
                clear H
                have H := H1
                clear H1
                by_cases c24 : (rd l0_0 x5_1) < (l0_1.length : Int)
                ·rw [if_pos c24] at H
                 have c24b0 : decide ((rd l0_0 x5_1) < (l0_1.length : Int)) = true := decide_eq_true c24
                 clear c24
                 have H' := aM H
                 clear H
                 have hcz25_0 : wc.cell? ⟨gb124, 0, none⟩ = some (.slice (some ad128) l0_0.length c0_0) := (blk_cell BK124.out 0).trans rfl
                 have hcz25_1 : wc.cell? ⟨gb124, 1, none⟩ = some (.slice A0_1 l0_1.length c0_1) := (blk_cell BK124.out 1).trans rfl
                 have hfz25_0 := blk_frozen BK124.out 0
                 have hfz25_1 := blk_frozen BK124.out 1
                 obtain ⟨Ao26, co26, eo26⟩ := Kd.R_slice HO_3.out
                 subst eo26
                 have p129 : 0 ≤ ((rd l0_0 x5_1) : Int) := px_od
                 have q129 : (rd l0_0 x5_1) < (x3_1.length : Int) := px_od
                 obtain ⟨ad129, e129, hx129_0⟩ := Kd.at_bool (Kd.R_reads' HO_3.out).2.2 (rd l0_0 x5_1) p129 q129
                 (try rw [← Nbq20.out] at hx129_0)
                 (try rw [← Nbq20.out] at hw129_0)
                 cases e129
                 replace p129 := eq_true p129
                 replace q129 := eq_true q129
                 have p130 : 0 ≤ ((rd l0_0 x5_1) : Int) := px_od
                 have q130 : (rd l0_0 x5_1) < (l0_1.length : Int) := px_od
                 obtain ⟨ad130, e130, hx130_0, hx130_1, hx130_2, hx130_3⟩ := at_T38 HR0_1.out (rd l0_0 x5_1) p130 q130
                 (try rw [← Nbq20.out] at hx130_3)
                 (try rw [← Nbq20.out] at hw130_3)
                 cases e130
                 replace hx130_0 := px_hx HB.out hx130_0
                 replace hx130_1 := px_hx HB.out hx130_1
                 replace hx130_2 := px_hx HB.out hx130_2
                 replace hx130_3 := px_hx HB.out hx130_3
                 replace p130 := eq_true p130
                 replace q130 := eq_true q130
                 go_wp2
                 go_meet
                 case rel => exact ⟨_, (!((rd_T38 l0_1 (rd l0_0 x5_1)).f3)), px_rf, H', ⟨by have := HK1.out; have := HJ9.out; first | omega | exact Nat.le_refl _⟩, ⟨px_rV HO_3.out⟩, ⟨by first | exact px_bV BK124.out | (rw [← Nbq20.out]; exact px_bV BK124.out)⟩, ⟨px_h1 HB.out GE124.out⟩⟩
                ·rw [if_neg c24] at H
                 exact absurd H (by simp)
              ·rw [if_neg c19] at H
               exact absurd H (by simp)
             ·rw [if_neg c18] at H
              exact absurd H (by simp)
            ·rw [if_neg c17] at H
             have c17b0 : decide (0 ≤ (rd l0_0 x5_1)) = false := decide_eq_false c17
             clear c17
             have H' := aM H
             clear H
             have hcz27_0 : wc.cell? ⟨gb124, 0, none⟩ = some (.slice (some ad128) l0_0.length c0_0) := (blk_cell BK124.out 0).trans rfl
             have hcz27_1 : wc.cell? ⟨gb124, 1, none⟩ = some (.slice A0_1 l0_1.length c0_1) := (blk_cell BK124.out 1).trans rfl
             have hfz27_0 := blk_frozen BK124.out 0
             have hfz27_1 := blk_frozen BK124.out 1
             go_wp2
             go_meet
             case rel => exact ⟨_, (false), px_rf, H', ⟨by have := HK1.out; have := HJ9.out; first | omega | exact Nat.le_refl _⟩, ⟨px_rV HO_3.out⟩, ⟨by first | exact px_bV BK124.out | (rw [← Nbq20.out]; exact px_bV BK124.out)⟩, ⟨px_h1 HB.out GE124.out⟩⟩
         case rest =>
          clear HC13
          try clear c1
          try clear p1
          try clear q1
          try clear hx1
          try clear c2
          try clear c2b0
          try clear c2b1
          try clear p2
          try clear q2
          try clear c3
          try clear c3b0
          try clear c3b1
          try clear p6
          try clear c8
          try clear c8b0
          try clear c9
          try clear c9b0
          try clear c12
          try clear c12b0
          try clear c12b1
          try clear p12
          try clear q12
          try clear hx12
          try clear p13
          try clear q13
          try clear hx13
          try clear c14
          try clear c14b0
          try clear c15
          try clear c15b0
          try clear c17
          try clear c17b0
          try clear c18
          try clear c18b0
          try clear c19
          try clear c19b0
          try clear q20
          try clear c21
          try clear c24
          try clear c24b0
          try clear c25
          try clear hcz11_0
          try clear hcz11_1
          try clear hcz16_0
          try clear hcz16_1
          try clear hcz22_0
          try clear hcz22_1
          try clear hcz25_0
          try clear hcz25_1
          try clear hcz27_0
          try clear hcz27_1
          try clear hcz5_0
          try clear hcz5_1
          try clear hfz11_0
          try clear hfz11_1
          try clear hfz16_0
          try clear hfz16_1
          try clear hfz22_0
          try clear hfz22_1
          try clear hfz25_0
          try clear hfz25_1
          try clear hfz27_0
          try clear hfz27_1
          try clear hfz5_0
          try clear hfz5_1
          try clear hx128_0
          try clear hx129_0
          try clear hx130_0
          try clear hx130_1
          try clear hx130_2
          try clear hx130_3
          try clear p1
          try clear p12
          try clear p128
          try clear p129
          try clear p130
          try clear p2
          try clear p6
          try clear q1
          try clear q12
          try clear q128
          try clear q129
          try clear q130
          obtain ⟨kq, x55_12, rfl, HA, HJ12, HO_3, BK124, HB⟩ := hcut
          cases kq with
          | zero => exact absurd HA.out (by simp [spec_validSlots.j2])
          | succ kj12 =>
           have H := HA.out
           clear HA
           simp only [spec_validSlots.j2] at H
           by_cases c28 : x55_12 = true
           ·subst c28
            have H1 : (some false) = some r := by rw [if_pos rfl] at H; exact H
            clear H
            have H := H1
            clear H1
            obtain rfl := Option.some.inj H
            go_wp2
            go_ret
            exact ⟨by first | rfl | (simp [errW_none, errW_some] <;> rfl) | (simp [*, errW_none, errW_some] <;> rfl), px_h1 HB.out GE124.out⟩
           ·replace c28 := Bool.eq_false_iff.mpr c28
            subst c28
            have H1 : (if (rd l0_0 x5_1) ≥ 0 then (if 0 ≤ (rd l0_0 x5_1) then (if (rd l0_0 x5_1) < (x3_1.length : Int) then (spec_validSlots.l0 kj12 (x3_1.set ((rd l0_0 x5_1) : Int).toNat true) x4_9 (wrap64 (x5_1 + 1)) l0_0 l0_1) else (none)) else (none)) else (spec_validSlots.l0 kj12 x3_1 x4_9 (wrap64 (x5_1 + 1)) l0_0 l0_1)) = some r := by rw [if_neg (show ¬ (false = true) by decide)] at H; exact H
            clear H
            have H := H1
            clear H1
            by_cases c29 : (rd l0_0 x5_1) ≥ 0
            ·rw [if_pos c29] at H
             have c29b0 : decide (0 ≤ (rd l0_0 x5_1)) = true := decide_eq_true c29
             clear c29
             by_cases c30 : 0 ≤ (rd l0_0 x5_1)
             ·rw [if_pos c30] at H
              have c30b0 : decide (0 ≤ (rd l0_0 x5_1)) = true := decide_eq_true c30
              clear c30
              by_cases c31 : (rd l0_0 x5_1) < (x3_1.length : Int)
              ·rw [if_pos c31] at H
               have c31b0 : decide ((rd l0_0 x5_1) < (x3_1.length : Int)) = true := decide_eq_true c31
               clear c31
               obtain ⟨y131, hy131⟩ : ∃ y_ : List Bool, y_ = (x3_1.set ((rd l0_0 x5_1) : Int).toNat true) := ⟨_, rfl⟩
               replace H : (spec_validSlots.l0 kj12 y131 x4_9 (wrap64 (x5_1 + 1)) l0_0 l0_1) = some r := by first | (rw [hy131]; with_reducible exact H) | (have H2_ := (Option.bind_some _ _).symm.trans H; rw [hy131]; with_reducible exact H2_) | (have H2_ := (Option.bind_some _ _).symm.trans H; with_reducible exact H2_) | with_reducible exact H | (rw [hy131]; exact H) | exact H
               have Ny131 := aM hy131
               clear hy131
               have H' := aM H
               clear H
               have p32 : 0 ≤ ((rd l0_0 x5_1) : Int) := px_od
               have q32 : ((rd l0_0 x5_1) : Int) < ((x3_1.length : Int) : Int) := px_od
               obtain ⟨go32, co32, eo32, gb32, gl32, cl32, HG32⟩ := Kd.R_form HO_3.out (by omega)
               (first | cases eo32 | (injection eo32 with ea_ en_ ec_; (first | subst ea_ | (injection ea_ with ea_; subst ea_)); subst ec_; clear en_))
               have GB32 := aM gb32
               have GG32 := aM HG32
               clear gb32 gl32 HG32
               obtain ⟨hx32_0, hf32_0⟩ := Kd.R_celln false HO_3.out ((rd l0_0 x5_1) : Int) p32 q32
               replace p32 := eq_true p32
               replace q32 := eq_true q32
               have HP33 := Kd.R_putg HO_3.out ((rd l0_0 x5_1) : Int) true
               go_wp2_with (first | ((with_reducible refine gate_store (t := 4) (p := 60) rfl ?_); refine store_event (t := 4) (p := 60) (v := ?vo_w34) (w1 := (wc.setCell ⟨go32, ((rd l0_0 x5_1) : Int).toNat, none⟩ (.bool true))) ?hg ?ho ?hn ?hr ?_; (case ho => rfl); (case hg => rfl); (case hn => rfl); (case hr => first | (go_simp; done) | (go_simp; rfl)); intro w34 hw; have hg : wc.grownBy w34 (some go32) := (by rw [hw]; exact HP33.2); have hp_ : Kd.R Kd.bool 4 w34 w.heap.size (fun _ => True) (.slice (some ⟨go32, 0, none⟩) x3_1.length co32) y131 := (by rw [hw, Ny131.out]; exact HP33.1); clear HP33; have n0_ := aM (hp_); have n1_ := aM (blk_grown (g := gb124) (o := .cells #[.slice (some ad128) l0_0.length c0_0, .slice A0_1 l0_1.length c0_1] 30 (0, 0)) (px_bV BK124.out) hg (Kd.R_ne HO_3.out BK124.out (by decide))); have n2_ := aM ((by rw [hw]; exact below_set (HB.out) GB32.out : Below w.heap.size w w34)); clear HO_3; clear BK124; clear HB; have HO_3 := n0_; have BK124 := n1_; have HB := n2_; clear n0_ n1_ n2_; clear hg hw hp_))
               go_roundg kj12
               case measure => have := HK1.out; have := HJ9.out; have := HJ12.out; omega
               case rel => exact ⟨(y131), (x4_9), (wrap64 (x5_1 + 1)), px_rf, px_rf, H', ⟨by have := HK1.out; have := HJ9.out; have := HJ12.out; omega⟩, ⟨px_rV HO_3.out⟩, ⟨by first | exact px_bV BK124.out | (rw [← Nbq20.out]; exact px_bV BK124.out)⟩, ⟨px_h1 HB.out GE124.out⟩⟩
              ·rw [if_neg c31] at H
               exact absurd H (by simp)
             ·rw [if_neg c30] at H
              exact absurd H (by simp)
            ·rw [if_neg c29] at H
             have c29b0 : decide (0 ≤ (rd l0_0 x5_1)) = false := decide_eq_false c29
             clear c29
             have H' := aM H
             clear H
             go_wp2
             go_roundg kj12
             case measure => have := HK1.out; have := HJ9.out; have := HJ12.out; omega
             case rel => exact ⟨(x3_1), (x4_9), (wrap64 (x5_1 + 1)), px_rf, px_rf, H', ⟨by have := HK1.out; have := HJ9.out; have := HJ12.out; omega⟩, ⟨px_rV HO_3.out⟩, ⟨by first | exact px_bV BK124.out | (rw [← Nbq20.out]; exact px_bV BK124.out)⟩, ⟨px_h1 HB.out GE124.out⟩⟩
      ·rw [if_neg c9] at H
       exact absurd H (by simp)
     ·rw [if_neg c8] at H
      have c8b0 : decide (x5_1 < (l0_0.length : Int)) = false := decide_eq_false c8
      clear c8
      have H' := aM H
      clear H
      have hcz35_0 : wr.cell? ⟨gb124, 0, none⟩ = some (.slice A0_0 l0_0.length c0_0) := (blk_cell BK124.out 0).trans rfl
      have hcz35_1 : wr.cell? ⟨gb124, 1, none⟩ = some (.slice A0_1 l0_1.length c0_1) := (blk_cell BK124.out 1).trans rfl
      have hfz35_0 := blk_frozen BK124.out 0
      have hfz35_1 := blk_frozen BK124.out 1
      go_wp2
      go_loopg [7] k1 (fun kq v7 w' => ∃ (x7_2 : Int), v7 = .int .i64 x7_2 ∧ Aside0 (spec_validSlots.l1 kq x3_1 x4_1 x7_2 l0_0 l0_1 = some r) ∧ Aside0 (kq ≤ k1) ∧ Aside0 (Kd.R Kd.bool 4 w' w.heap.size (fun _ => True) v126 x3_1) ∧ Aside0 (w'.heap[gb124]? = some (.cells #[(.slice A0_0 l0_0.length c0_0), (.slice A0_1 l0_1.length c0_1)] 30 (0, 0))) ∧ Aside0 (Below w.heap.size w w'))
      case atStart => exact ⟨(0), px_rf, H', ⟨Nat.le_refl _⟩, ⟨px_rV HO_3.out⟩, ⟨px_bV BK124.out⟩, ⟨px_h1 HB.out GE124.out⟩⟩
      case round =>
       clear H'
       try clear c1
       try clear p1
       try clear q1
       try clear hx1
       try clear c2
       try clear c2b0
       try clear c2b1
       try clear p2
       try clear q2
       try clear c3
       try clear c3b0
       try clear c3b1
       try clear p3
       try clear q3
       try clear hx3
       try clear hf3
       try clear p6
       try clear c8
       try clear c8b0
       try clear c9
       try clear c9b0
       try clear c12
       try clear c12b0
       try clear c12b1
       try clear p12
       try clear q12
       try clear hx12
       try clear p13
       try clear q13
       try clear hx13
       try clear c14
       try clear c14b0
       try clear c15
       try clear c15b0
       try clear c17
       try clear c17b0
       try clear c18
       try clear c18b0
       try clear c19
       try clear c19b0
       try clear q20
       try clear c21
       try clear c24
       try clear c24b0
       try clear c25
       try clear c28
       try clear c29
       try clear c29b0
       try clear c30
       try clear c30b0
       try clear c31
       try clear c31b0
       try clear p32
       try clear q32
       try clear hx32
       try clear hf32
       try clear hcz11_0
       try clear hcz11_1
       try clear hcz16_0
       try clear hcz16_1
       try clear hcz22_0
       try clear hcz22_1
       try clear hcz25_0
       try clear hcz25_1
       try clear hcz27_0
       try clear hcz27_1
       try clear hcz35_0
       try clear hcz35_1
       try clear hcz5_0
       try clear hcz5_1
       try clear hfz11_0
       try clear hfz11_1
       try clear hfz16_0
       try clear hfz16_1
       try clear hfz22_0
       try clear hfz22_1
       try clear hfz25_0
       try clear hfz25_1
       try clear hfz27_0
       try clear hfz27_1
       try clear hfz35_0
       try clear hfz35_1
       try clear hfz5_0
       try clear hfz5_1
       try clear hx128_0
       try clear hx129_0
       try clear hx130_0
       try clear hx130_1
       try clear hx130_2
       try clear hx130_3
       try clear hx32_0
       try clear p1
       try clear p12
       try clear p128
       try clear p129
       try clear p13
       try clear p130
       try clear p2
       try clear p32
       try clear p6
       try clear q1
       try clear q12
       try clear q128
       try clear q129
       try clear q13
       try clear q130
       try clear q2
       try clear q20
       try clear q32
       obtain ⟨x7_2, rfl, HA, HK2, HO_3, BK124, HB⟩ := hrel
       cases gk with
       | zero => exact absurd HA.out (by simp [spec_validSlots.l1])
       | succ k2 =>
        have H := HA.out
        clear HA
        simp only [spec_validSlots.l1] at H
        by_cases c36 : x7_2 < (x3_1.length : Int)
        ·rw [if_pos c36] at H
         have c36b0 : decide (x7_2 < (x3_1.length : Int)) = true := decide_eq_true c36
         clear c36
         by_cases c37 : 0 ≤ x7_2
         ·rw [if_pos c37] at H
          have c37b0 : decide (0 ≤ x7_2) = true := decide_eq_true c37
          clear c37
          by_cases c38 : x7_2 < (l0_1.length : Int)
          ·rw [if_pos c38] at H
           have c38b0 : decide (x7_2 < (l0_1.length : Int)) = true := decide_eq_true c38
           clear c38
           by_cases c39 : ((rdOf false x3_1 x7_2) != ((rd_T38 l0_1 x7_2).f3)) = true
           ·rw [if_pos c39] at H
            have c39b0 : ((rdOf false x3_1 x7_2) != ((rd_T38 l0_1 x7_2).f3)) = true := c39
            (try (have c39b1 : decide ((rdOf false x3_1 x7_2) = ((rd_T38 l0_1 x7_2).f3)) = false := by simpa using c39))
            (try (have c39b2 : ((rdOf false x3_1 x7_2) == ((rd_T38 l0_1 x7_2).f3)) = false := by simpa using c39))
            (try (have c39b3 : ¬ ((rdOf false x3_1 x7_2) = ((rd_T38 l0_1 x7_2).f3)) := by simpa using c39))
            clear c39
            obtain rfl := Option.some.inj H
            obtain ⟨Ao40, co40, eo40⟩ := Kd.R_slice HO_3.out
            subst eo40
            try go_wp2
            have n0_ := aM (Kd.R_drew HO_3.out)
            have n1_ := aM (blk_drew BK124.out)
            have n2_ := aM (below_drew1 HB.out)
            clear HO_3
            clear BK124
            clear HB
            have HO_3 := n0_
            have BK124 := n1_
            have HB := n2_
            clear n0_ n1_ n2_
            have p132 : 0 ≤ (x7_2 : Int) := px_od
            have q132 : x7_2 < (x3_1.length : Int) := px_od
            obtain ⟨ad132, e132, hx132_0⟩ := Kd.at_bool (Kd.R_reads' HO_3.out).2.2 x7_2 p132 q132
            cases e132
            replace p132 := eq_true p132
            replace q132 := eq_true q132
            have p133 : 0 ≤ (x7_2 : Int) := px_od
            have q133 : x7_2 < (l0_1.length : Int) := px_od
            obtain ⟨ad133, e133, hx133_0, hx133_1, hx133_2, hx133_3⟩ := at_T38 HR0_1.out x7_2 p133 q133
            have hw133_3 := hx133_3
            have hw133_2 := hx133_2
            have hw133_1 := hx133_1
            have hw133_0 := hx133_0
            cases e133
            replace hx133_0 := px_hx HB.out hx133_0
            replace hx133_1 := px_hx HB.out hx133_1
            replace hx133_2 := px_hx HB.out hx133_2
            replace hx133_3 := px_hx HB.out hx133_3
            replace p133 := eq_true p133
            replace q133 := eq_true q133
            refine start_ (n := 11) (S := fun w' => w'.cell? ⟨gb124, 0, none⟩ = some (.slice A0_0 l0_0.length c0_0) ∧ w'.cell? ⟨gb124, 1, none⟩ = some (.slice (some ad133) l0_1.length c0_1) ∧ w'.cell? (ad132.add (x7_2).toNat) = some (.bool (rdOf false x3_1 x7_2)) ∧ w'.cell? (ad133.add ((x7_2).toNat * 4)) = some (.string ((rd_T38 l0_1 x7_2).f0)) ∧ w'.cell? ⟨(ad133.add ((x7_2).toNat * 4)).block, (ad133.add ((x7_2).toNat * 4)).off + 1, none⟩ = some (.int .i64 ((rd_T38 l0_1 x7_2).f1)) ∧ w'.cell? ⟨(ad133.add ((x7_2).toNat * 4)).block, (ad133.add ((x7_2).toNat * 4)).off + 2, none⟩ = some (.int .i64 ((rd_T38 l0_1 x7_2).f2)) ∧ w'.cell? ⟨(ad133.add ((x7_2).toNat * 4)).block, (ad133.add ((x7_2).toNat * 4)).off + 3, none⟩ = some (.bool ((rd_T38 l0_1 x7_2).f3))) (ds := []) (px_l 0 11) (by kernel_rfl) rfl rfl ⟨(blk_cell BK124.out 0).trans rfl, (blk_cell BK124.out 1).trans rfl, hx132_0, ((HB.out.cell (World.block_lt_of_cell? w _ hw133_0)).trans hw133_0), ((HB.out.cell (World.block_lt_of_cell? w _ hw133_1)).trans hw133_1), ((HB.out.cell (World.block_lt_of_cell? w _ hw133_2)).trans hw133_2), ((HB.out.cell (World.block_lt_of_cell? w _ hw133_3)).trans hw133_3)⟩ (fun hHeld => ?_); refine with_tabW spec_validSlots.tab16 spec_validSlots.bits16 (fun HT_ HW_ => ?_)
            generalize wr.drew = w41 at HO_3 BK124 HB hx132_0 hx133_0 hx133_1 hx133_2 hx133_3 hHeld ⊢
            refine pure_ (i := 0) (N := some 67) (v := ?_) (a' := ?_) (px_l 1 10) rfl rfl (any_of HT_.out (by kernel_rfl)) (fun _ _ _ h => h) (Or.inl ⟨by rfl, ?_⟩) ?_ ?_
            rotate_left
            ·intro w'
             go_simp
             with_reducible rfl
            rotate_left
            ·simp only [px_q]
             rfl
            refine pure_ (i := 1) (N := some 68) (v := ?_) (a' := ?_) (px_l 2 9) rfl rfl (any_of HT_.out (by kernel_rfl)) (fun _ _ _ h => h) (Or.inl ⟨by rfl, ?_⟩) ?_ ?_
            rotate_left
            ·intro w'
             go_simp
             with_reducible rfl
            rotate_left
            ·simp only [px_q]
             rfl
            refine pure_ (i := 2) (N := some 69) (v := ?_) (a' := ?_) (px_l 3 8) rfl rfl (any_of HT_.out (by kernel_rfl)) (fun _ _ _ h => h) (Or.inl ⟨by rfl, ?_⟩) ?_ ?_
            rotate_left
            ·intro w'
             go_simp
             with_reducible rfl
            rotate_left
            ·simp only [px_q]
             rfl
            refine pure_ (i := 4) (N := some 71) (v := ?_) (a' := ?_) #[true, true, true, false, true, false, false, false, false, false, false] rfl rfl (any_of HT_.out (by kernel_rfl)) (fun _ _ _ h => h) (Or.inl ⟨by rfl, ?_⟩) ?_ ?_
            rotate_left
            ·intro w'
             go_simp
             with_reducible rfl
            rotate_left
            ·simp only [px_q]
             rfl
            refine pure_ (i := 6) (N := some 73) (v := ?_) (a' := ?_) #[true, true, true, false, true, false, true, false, false, false, false] rfl rfl (any_of HT_.out (by kernel_rfl)) (fun _ _ _ h => h) (Or.inl ⟨by rfl, ?_⟩) ?_ ?_
            rotate_left
            ·intro w'
             go_simp
             with_reducible rfl
            rotate_left
            ·simp only [px_q]
             rfl
            refine take_ (i := 3) (N := some 70) (v := ?_) (a' := ?_) #[true, true, true, true, true, false, true, false, false, false, false] rfl rfl (take_ofW HT_.out HW_.out (by kernel_rfl)) (fun _ _ _ h => h) (Or.inl ⟨by rfl, ?_⟩) hHeld ?_ ?_
            rotate_left
            ·rintro w' ⟨s0, s1, s2, s3, s4, s5, s6⟩
             go_simp
             with_reducible rfl
            rotate_left
            ·simp only [px_q]
             rfl
            refine take_ (i := 5) (N := some 72) (v := ?_) (a' := ?_) (px_l 7 4) rfl rfl (take_ofW HT_.out HW_.out (by kernel_rfl)) (fun _ _ _ h => h) (Or.inl ⟨by rfl, ?_⟩) hHeld ?_ ?_
            rotate_left
            ·rintro w' ⟨s0, s1, s2, s3, s4, s5, s6⟩
             go_simp
             with_reducible rfl
            rotate_left
            ·simp only [px_q]
             rfl
            refine pure_ (i := 7) (N := some 74) (v := ?_) (a' := ?_) (px_l 8 3) rfl rfl (any_of HT_.out (by kernel_rfl)) (fun _ _ _ h => h) (Or.inl ⟨by rfl, ?_⟩) ?_ ?_
            rotate_left
            ·intro w'
             go_simp
             with_reducible rfl
            rotate_left
            ·simp only [px_q]
             rfl
            refine pure_ (i := 8) (N := some 75) (v := ?_) (a' := ?_) (px_l 9 2) rfl rfl (any_of HT_.out (by kernel_rfl)) (fun _ _ _ h => h) (Or.inl ⟨by rfl, ?_⟩) ?_ ?_
            rotate_left
            ·intro w'
             go_simp
             with_reducible rfl
            rotate_left
            ·simp only [px_q]
             rfl
            refine take_ (i := 9) (N := some 76) (v := ?_) (a' := ?_) (px_l 10 1) rfl rfl (take_ofW HT_.out HW_.out (by kernel_rfl)) (fun _ _ _ h => h) (Or.inl ⟨by rfl, ?_⟩) hHeld ?_ ?_
            rotate_left
            ·rintro w' ⟨s0, s1, s2, s3, s4, s5, s6⟩
             go_simp
             with_reducible rfl
            rotate_left
            ·simp only [px_q]
             rfl
            refine pure_ (i := 10) (N := some 77) (v := ?_) (a' := ?_) (px_l 11 0) rfl rfl (any_of HT_.out (by kernel_rfl)) (fun _ _ _ h => h) (Or.inl ⟨by rfl, ?_⟩) ?_ ?_
            rotate_left
            ·intro w'
             go_simp
             with_reducible rfl
            rotate_left
            ·simp only [px_q]
             rfl
            refine done_ (done_of HT_.out (by kernel_rfl)) ?_
            try go_wp2
            go_ret
            exact ⟨by first | rfl | (simp [errW_none, errW_some] <;> rfl) | (simp [*, errW_none, errW_some] <;> rfl), px_h1 HB.out GE124.out⟩
           ·rw [if_neg c39] at H
            have c39b0 : ((rdOf false x3_1 x7_2) != ((rd_T38 l0_1 x7_2).f3)) = false := by simpa using c39
            (try (have c39b1 : decide ((rdOf false x3_1 x7_2) = ((rd_T38 l0_1 x7_2).f3)) = true := by simpa using c39))
            (try (have c39b2 : ((rdOf false x3_1 x7_2) == ((rd_T38 l0_1 x7_2).f3)) = true := by simpa using c39))
            clear c39
            have H' := aM H
            clear H
            obtain ⟨Ao42, co42, eo42⟩ := Kd.R_slice HO_3.out
            subst eo42
            try go_wp2
            have n0_ := aM (Kd.R_drew HO_3.out)
            have n1_ := aM (blk_drew BK124.out)
            have n2_ := aM (below_drew1 HB.out)
            clear HO_3
            clear BK124
            clear HB
            have HO_3 := n0_
            have BK124 := n1_
            have HB := n2_
            clear n0_ n1_ n2_
            have p132 : 0 ≤ (x7_2 : Int) := px_od
            have q132 : x7_2 < (x3_1.length : Int) := px_od
            obtain ⟨ad132, e132, hx132_0⟩ := Kd.at_bool (Kd.R_reads' HO_3.out).2.2 x7_2 p132 q132
            cases e132
            replace p132 := eq_true p132
            replace q132 := eq_true q132
            have p133 : 0 ≤ (x7_2 : Int) := px_od
            have q133 : x7_2 < (l0_1.length : Int) := px_od
            obtain ⟨ad133, e133, hx133_0, hx133_1, hx133_2, hx133_3⟩ := at_T38 HR0_1.out x7_2 p133 q133
            have hw133_3 := hx133_3
            have hw133_2 := hx133_2
            have hw133_1 := hx133_1
            have hw133_0 := hx133_0
            cases e133
            replace hx133_0 := px_hx HB.out hx133_0
            replace hx133_1 := px_hx HB.out hx133_1
            replace hx133_2 := px_hx HB.out hx133_2
            replace hx133_3 := px_hx HB.out hx133_3
            replace p133 := eq_true p133
            replace q133 := eq_true q133
            refine start_ (n := 11) (S := fun w' => w'.cell? ⟨gb124, 0, none⟩ = some (.slice A0_0 l0_0.length c0_0) ∧ w'.cell? ⟨gb124, 1, none⟩ = some (.slice (some ad133) l0_1.length c0_1) ∧ w'.cell? (ad132.add (x7_2).toNat) = some (.bool (rdOf false x3_1 x7_2)) ∧ w'.cell? (ad133.add ((x7_2).toNat * 4)) = some (.string ((rd_T38 l0_1 x7_2).f0)) ∧ w'.cell? ⟨(ad133.add ((x7_2).toNat * 4)).block, (ad133.add ((x7_2).toNat * 4)).off + 1, none⟩ = some (.int .i64 ((rd_T38 l0_1 x7_2).f1)) ∧ w'.cell? ⟨(ad133.add ((x7_2).toNat * 4)).block, (ad133.add ((x7_2).toNat * 4)).off + 2, none⟩ = some (.int .i64 ((rd_T38 l0_1 x7_2).f2)) ∧ w'.cell? ⟨(ad133.add ((x7_2).toNat * 4)).block, (ad133.add ((x7_2).toNat * 4)).off + 3, none⟩ = some (.bool ((rd_T38 l0_1 x7_2).f3))) (ds := []) (px_l 0 11) (by kernel_rfl) rfl rfl ⟨(blk_cell BK124.out 0).trans rfl, (blk_cell BK124.out 1).trans rfl, hx132_0, ((HB.out.cell (World.block_lt_of_cell? w _ hw133_0)).trans hw133_0), ((HB.out.cell (World.block_lt_of_cell? w _ hw133_1)).trans hw133_1), ((HB.out.cell (World.block_lt_of_cell? w _ hw133_2)).trans hw133_2), ((HB.out.cell (World.block_lt_of_cell? w _ hw133_3)).trans hw133_3)⟩ (fun hHeld => ?_); refine with_tabW spec_validSlots.tab16 spec_validSlots.bits16 (fun HT_ HW_ => ?_)
            generalize wr.drew = w43 at HO_3 BK124 HB hx132_0 hx133_0 hx133_1 hx133_2 hx133_3 hHeld ⊢
            refine pure_ (i := 0) (N := some 67) (v := ?_) (a' := ?_) (px_l 1 10) rfl rfl (any_of HT_.out (by kernel_rfl)) (fun _ _ _ h => h) (Or.inl ⟨by rfl, ?_⟩) ?_ ?_
            rotate_left
            ·intro w'
             go_simp
             with_reducible rfl
            rotate_left
            ·simp only [px_q]
             rfl
            refine pure_ (i := 1) (N := some 68) (v := ?_) (a' := ?_) (px_l 2 9) rfl rfl (any_of HT_.out (by kernel_rfl)) (fun _ _ _ h => h) (Or.inl ⟨by rfl, ?_⟩) ?_ ?_
            rotate_left
            ·intro w'
             go_simp
             with_reducible rfl
            rotate_left
            ·simp only [px_q]
             rfl
            refine pure_ (i := 2) (N := some 69) (v := ?_) (a' := ?_) (px_l 3 8) rfl rfl (any_of HT_.out (by kernel_rfl)) (fun _ _ _ h => h) (Or.inl ⟨by rfl, ?_⟩) ?_ ?_
            rotate_left
            ·intro w'
             go_simp
             with_reducible rfl
            rotate_left
            ·simp only [px_q]
             rfl
            refine pure_ (i := 4) (N := some 71) (v := ?_) (a' := ?_) #[true, true, true, false, true, false, false, false, false, false, false] rfl rfl (any_of HT_.out (by kernel_rfl)) (fun _ _ _ h => h) (Or.inl ⟨by rfl, ?_⟩) ?_ ?_
            rotate_left
            ·intro w'
             go_simp
             with_reducible rfl
            rotate_left
            ·simp only [px_q]
             rfl
            refine pure_ (i := 6) (N := some 73) (v := ?_) (a' := ?_) #[true, true, true, false, true, false, true, false, false, false, false] rfl rfl (any_of HT_.out (by kernel_rfl)) (fun _ _ _ h => h) (Or.inl ⟨by rfl, ?_⟩) ?_ ?_
            rotate_left
            ·intro w'
             go_simp
             with_reducible rfl
            rotate_left
            ·simp only [px_q]
             rfl
            refine take_ (i := 3) (N := some 70) (v := ?_) (a' := ?_) #[true, true, true, true, true, false, true, false, false, false, false] rfl rfl (take_ofW HT_.out HW_.out (by kernel_rfl)) (fun _ _ _ h => h) (Or.inl ⟨by rfl, ?_⟩) hHeld ?_ ?_
            rotate_left
            ·rintro w' ⟨s0, s1, s2, s3, s4, s5, s6⟩
             go_simp
             with_reducible rfl
            rotate_left
            ·simp only [px_q]
             rfl
            refine take_ (i := 5) (N := some 72) (v := ?_) (a' := ?_) (px_l 7 4) rfl rfl (take_ofW HT_.out HW_.out (by kernel_rfl)) (fun _ _ _ h => h) (Or.inl ⟨by rfl, ?_⟩) hHeld ?_ ?_
            rotate_left
            ·rintro w' ⟨s0, s1, s2, s3, s4, s5, s6⟩
             go_simp
             with_reducible rfl
            rotate_left
            ·simp only [px_q]
             rfl
            refine pure_ (i := 7) (N := some 74) (v := ?_) (a' := ?_) (px_l 8 3) rfl rfl (any_of HT_.out (by kernel_rfl)) (fun _ _ _ h => h) (Or.inl ⟨by rfl, ?_⟩) ?_ ?_
            rotate_left
            ·intro w'
             go_simp
             with_reducible rfl
            rotate_left
            ·simp only [px_q]
             rfl
            refine pure_ (i := 8) (N := some 75) (v := ?_) (a' := ?_) (px_l 9 2) rfl rfl (any_of HT_.out (by kernel_rfl)) (fun _ _ _ h => h) (Or.inl ⟨by rfl, ?_⟩) ?_ ?_
            rotate_left
            ·intro w'
             go_simp
             with_reducible rfl
            rotate_left
            ·simp only [px_q]
             rfl
            refine take_ (i := 9) (N := some 76) (v := ?_) (a' := ?_) (px_l 10 1) rfl rfl (take_ofW HT_.out HW_.out (by kernel_rfl)) (fun _ _ _ h => h) (Or.inl ⟨by rfl, ?_⟩) hHeld ?_ ?_
            rotate_left
            ·rintro w' ⟨s0, s1, s2, s3, s4, s5, s6⟩
             go_simp
             with_reducible rfl
            rotate_left
            ·simp only [px_q]
             rfl
            refine pure_ (i := 10) (N := some 77) (v := ?_) (a' := ?_) (px_l 11 0) rfl rfl (any_of HT_.out (by kernel_rfl)) (fun _ _ _ h => h) (Or.inl ⟨by rfl, ?_⟩) ?_ ?_
            rotate_left
            ·intro w'
             go_simp
             with_reducible rfl
            rotate_left
            ·simp only [px_q]
             rfl
            refine done_ (done_of HT_.out (by kernel_rfl)) ?_
            try go_wp2
            go_roundg k2
            case measure => have := HK1.out; have := HK2.out; omega
            case rel => exact ⟨(wrap64 (x7_2 + 1)), px_rf, H', ⟨by have := HK1.out; have := HK2.out; omega⟩, ⟨px_rV HO_3.out⟩, ⟨by first | exact px_bV BK124.out | (rw [← Nbq20.out]; exact px_bV BK124.out)⟩, ⟨px_h1 HB.out GE124.out⟩⟩
          ·rw [if_neg c38] at H
           exact absurd H (by simp)
         ·rw [if_neg c37] at H
          exact absurd H (by simp)
        ·rw [if_neg c36] at H
         have c36b0 : decide (x7_2 < (x3_1.length : Int)) = false := decide_eq_false c36
         clear c36
         replace H := Option.bind_eq_some_iff.mp H
         obtain ⟨t134, A440, H⟩ := H
         replace H : (some (x4_1 == (wrap64 ((l0_1.length : Int) - t134)))) = some r := H
         have A44 := aM A440
         clear A440
         obtain rfl := Option.some.inj H
         obtain ⟨Ao45, co45, eo45⟩ := Kd.R_slice HO_3.out
         subst eo45
         try go_wp2
         have n0_ := aM (Kd.R_drew HO_3.out)
         have n1_ := aM (blk_drew BK124.out)
         have n2_ := aM (below_drew1 HB.out)
         clear HO_3
         clear BK124
         clear HB
         have HO_3 := n0_
         have BK124 := n1_
         have HB := n2_
         clear n0_ n1_ n2_
         refine start_ (n := 9) (S := fun w' => w'.cell? ⟨gb124, 0, none⟩ = some (.slice A0_0 l0_0.length c0_0) ∧ w'.cell? ⟨gb124, 1, none⟩ = some (.slice A0_1 l0_1.length c0_1)) (ds := []) (px_l 0 9) (by kernel_rfl) rfl rfl ⟨(blk_cell BK124.out 0).trans rfl, (blk_cell BK124.out 1).trans rfl⟩ (fun hHeld => ?_); refine with_tabW spec_validSlots.tab18 spec_validSlots.bits18 (fun HT_ HW_ => ?_)
         generalize wr.drew = w46 at HO_3 BK124 HB hHeld ⊢
         refine pure_ (i := 0) (N := some 78) (v := ?_) (a' := ?_) (px_l 1 8) rfl rfl (any_of HT_.out (by kernel_rfl)) (fun _ _ _ h => h) (Or.inl ⟨by rfl, ?_⟩) ?_ ?_
         rotate_left
         ·intro w'
          go_simp
          with_reducible rfl
         rotate_left
         ·simp only [px_q]
          rfl
         refine pure_ (i := 1) (N := some 79) (v := ?_) (a' := ?_) (px_l 2 7) rfl rfl (any_of HT_.out (by kernel_rfl)) (fun _ _ _ h => h) (Or.inl ⟨by rfl, ?_⟩) ?_ ?_
         rotate_left
         ·intro w'
          go_simp
          with_reducible rfl
         rotate_left
         ·simp only [px_q]
          rfl
         refine take_ (i := 2) (N := some 80) (v := ?_) (a' := ?_) (px_l 3 6) rfl rfl (take_ofW HT_.out HW_.out (by kernel_rfl)) (fun _ _ _ h => h) (Or.inl ⟨by rfl, ?_⟩) hHeld ?_ ?_
         rotate_left
         ·rintro w' ⟨s0, s1⟩
          go_simp
          with_reducible rfl
         rotate_left
         ·simp only [px_q]
          rfl
         refine pure_ (i := 3) (N := some 81) (v := ?_) (a' := ?_) (px_l 4 5) rfl rfl (any_of HT_.out (by kernel_rfl)) (fun _ _ _ h => h) (Or.inl ⟨by rfl, ?_⟩) ?_ ?_
         rotate_left
         ·intro w'
          go_simp
          with_reducible rfl
         rotate_left
         ·simp only [px_q]
          rfl
         refine take_ (i := 4) (N := some 82) (v := ?_) (a' := ?_) (px_l 5 4) rfl rfl (take_ofW HT_.out HW_.out (by kernel_rfl)) (fun _ _ _ h => h) (Or.inl ⟨by rfl, ?_⟩) hHeld ?_ ?_
         rotate_left
         ·rintro w' ⟨s0, s1⟩
          go_simp
          with_reducible rfl
         rotate_left
         ·simp only [px_q]
          rfl
         refine one_ (i := 5) (N := some 83) (px_l 6 3) rfl rfl (one_of HT_.out (by kernel_rfl)) (by decide) (fun K hK => ?_)
         refine goes_ Try.func12 (by kernel_rfl) rfl #[.agg #[.slice A0_0 l0_0.length c0_0, .slice A0_1 l0_1.length c0_1]] (by rfl) rfl rfl px_dn ?_
         with_reducible refine (spec_liveEntries.calls k2 _ _ l0_0 _ _ l0_1 t134 _ ?side1 ?side2 ?side3 ?side4 A44.out).mono ?_
         (case side1 => exact px_cV ((Kd.C_below HR0_0.out HB.out)))
         (case side2 => exact HC0_0.out)
         (case side3 => exact px_cV ((Kd.C_below HR0_1.out HB.out)))
         (case side4 => exact HC0_1.out)
         rintro e w47 ⟨rfl, hb⟩
         refine ⟨_, rfl, ?_⟩
         have n0_ := aM (Kd.R_below (px_rV HO_3.out) hb)
         have n1_ := aM (blk_below (g := gb124) (o := .cells #[.slice A0_0 l0_0.length c0_0, .slice A0_1 l0_1.length c0_1] 30 (0, 0)) (px_bV BK124.out) hb)
         have n2_ := aM (below_step (px_h1 HB.out GE124.out) hb)
         clear HO_3
         clear BK124
         clear HB
         have HO_3 := n0_
         have BK124 := n1_
         have HB := n2_
         clear n0_ n1_ n2_
         (try clear hb)
         (try clear hb2)
         (try clear hk)
         (try clear hi)
         refine hK.out _ _ ⟨(blk_cell BK124.out 0).trans rfl, (blk_cell BK124.out 1).trans rfl⟩ (fun hHeld => ?_)
         clear hK K
         refine norm_ (a' := ?_) ?_ ?_
         rotate_left
         ·show Act.put _ (some 83) _ = _
          simp only [px_q]
          rfl
         refine pure_ (i := 6) (N := some 84) (v := ?_) (a' := ?_) (px_l 7 2) rfl rfl (any_of HT_.out (by kernel_rfl)) (fun _ _ _ h => h) (Or.inl ⟨by rfl, ?_⟩) ?_ ?_
         rotate_left
         ·intro w'
          go_simp
          with_reducible rfl
         rotate_left
         ·simp only [px_q]
          rfl
         refine pure_ (i := 7) (N := some 85) (v := ?_) (a' := ?_) (px_l 8 1) rfl rfl (any_of HT_.out (by kernel_rfl)) (fun _ _ _ h => h) (Or.inl ⟨by rfl, ?_⟩) ?_ ?_
         rotate_left
         ·intro w'
          go_simp
          with_reducible rfl
         rotate_left
         ·simp only [px_q]
          rfl
         refine pure_ (i := 8) (N := some 2) (v := ?_) (a' := ?_) (px_l 9 0) rfl rfl (any_of HT_.out (by kernel_rfl)) (fun _ _ _ h => h) (Or.inl ⟨by rfl, ?_⟩) ?_ ?_
         rotate_left
         ·intro w'
          go_simp
          with_reducible rfl
         rotate_left
         ·simp only [px_q]
          rfl
         refine done_ (done_of HT_.out (by kernel_rfl)) ?_
         try go_wp2
         go_ret
         exact ⟨by first | rfl | (simp [errW_none, errW_some] <;> rfl) | (simp [*, errW_none, errW_some] <;> rfl), px_h1 HB.out GE124.out⟩
  ·rw [if_neg c3] at H
   exact absurd H (by simp)
 ·rw [if_neg c2] at H
  exact absurd H (by simp)

end Go.Proofs.Ythocdlaajncmpaa.Q
