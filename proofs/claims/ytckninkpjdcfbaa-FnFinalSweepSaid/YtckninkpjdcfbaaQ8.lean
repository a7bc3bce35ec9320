-- Printed by a program of this project's own, for this seat.
import Derived.Test.YtckninkpjdcfbaaQ0
import Derived.Test.YtckninkpjdcfbaaQ2
namespace Go.Proofs.Ytckninkpjdcfbaa.Q
open Go.RowKit Go.Proofs.YtckninkpjdcfbaaW.PrintWords Go.Proofs.YtckninkpjdcfbaaW.PrintLast Go.Proofs.YtckninkpjdcfbaaW.PrintMore
attribute [local go_sem] max2_int min2_int max_two min_two max_three min_three max_four min_four   -- for this text's walks alone
set_option linter.unusedVariables false
set_option linter.unusedSimpArgs false

/-! ### spec_validFinals: function 69 -/
mutual
def spec_validFinals.l0 : Nat → List (S64) → Int → Int → Option (Bool)
  | 0, _, _, _ => none
  | k + 1, x0, x1, x5 => if x5 < (x0.length : Int) then (if 0 ≤ x5 then ((spec_inRange.f ((rd_T64 x0 x5).f0) 0 (wrap64 (x1 - 1))).bind fun t772 => (if t772 = true then ((spec_inRange.f ((rd_T64 x0 x5).f1) (-1) (wrap64 (x1 - 1))).bind fun t773 => (spec_validFinals.j1 k x0 x1 x5 (!t773) ((rd_T64 x0 x5).f0) ((rd_T64 x0 x5).f1) ((rd_T64 x0 x5).f2))) else (spec_validFinals.j1 k x0 x1 x5 true ((rd_T64 x0 x5).f0) ((rd_T64 x0 x5).f1) ((rd_T64 x0 x5).f2)))) else (none)) else (some (decide ((x0.length : Int) ≤ 12)))
def spec_validFinals.j1 : Nat → List (S64) → Int → Int → Bool → Int → Int → Bool → Option (Bool)
  | 0, _, _, _, _, _, _, _ => none
  | k + 1, x0, x1, x5, x31, x772000, x772001, x772002 => if x31 = true then (some false) else (spec_validFinals.l1 k x0 x1 x5 0 x772000 x772001 x772002)
def spec_validFinals.l1 : Nat → List (S64) → Int → Int → Int → Int → Int → Bool → Option (Bool)
  | 0, _, _, _, _, _, _, _ => none
  | k + 1, x0, x1, x5, x7, x772000, x772001, x772002 => if x7 < x5 then (if 0 ≤ x7 then (if x7 < (x0.length : Int) then (if ((rd_T64 x0 x7).f0) = x772000 then (some false) else (spec_validFinals.l1 k x0 x1 x5 (wrap64 (x7 + 1)) x772000 x772001 x772002)) else (none)) else (none)) else (spec_validFinals.l0 k x0 x1 (wrap64 (x5 + 1)))
end
def spec_validFinals.f (k : Nat) (l0 : List (S64)) (a1 : Int) : Option (Bool) := spec_validFinals.l0 k l0 a1 0
theorem spec_validFinals.mono_l : ∀ k, (∀ y0 y1 y2, LeO (spec_validFinals.l0 k y0 y1 y2) (spec_validFinals.l0 (k + 1) y0 y1 y2)) ∧ (∀ y0 y1 y2 y3 y4 y5 y6, LeO (spec_validFinals.j1 k y0 y1 y2 y3 y4 y5 y6) (spec_validFinals.j1 (k + 1) y0 y1 y2 y3 y4 y5 y6)) ∧ (∀ y0 y1 y2 y3 y4 y5 y6, LeO (spec_validFinals.l1 k y0 y1 y2 y3 y4 y5 y6) (spec_validFinals.l1 (k + 1) y0 y1 y2 y3 y4 y5 y6))
  | 0 => ⟨fun _ _ _ r h => by simp [spec_validFinals.l0] at h, fun _ _ _ _ _ _ _ r h => by simp [spec_validFinals.j1] at h, fun _ _ _ _ _ _ _ r h => by simp [spec_validFinals.l1] at h⟩
  | k + 1 => by
    obtain ⟨ih0, ih1, ih2⟩ := spec_validFinals.mono_l k
    refine ⟨?_, ?_, ?_⟩
    · intro y0 y1 y2
      unfold spec_validFinals.l0
      repeat' first
      | (with_reducible exact ih0 _ _ _)
      | (with_reducible exact ih1 _ _ _ _ _ _ _)
      | (with_reducible exact ih2 _ _ _ _ _ _ _)
      | (with_reducible exact LeO.refl _)
      | (with_reducible exact LeO.none _)
      | (with_reducible refine LeO.ite ?_ ?_)
      | (with_reducible refine LeO.bind ?_ (fun _ => ?_))
      | exact ih0 _ _ _
      | exact ih1 _ _ _ _ _ _ _
      | exact ih2 _ _ _ _ _ _ _
      | exact LeO.none _
      | refine LeO.ite ?_ ?_
      | refine LeO.bind ?_ (fun _ => ?_)
    · intro y0 y1 y2 y3 y4 y5 y6
      unfold spec_validFinals.j1
      repeat' first
      | (with_reducible exact ih0 _ _ _)
      | (with_reducible exact ih1 _ _ _ _ _ _ _)
      | (with_reducible exact ih2 _ _ _ _ _ _ _)
      | (with_reducible exact LeO.refl _)
      | (with_reducible exact LeO.none _)
      | (with_reducible refine LeO.ite ?_ ?_)
      | (with_reducible refine LeO.bind ?_ (fun _ => ?_))
      | exact ih0 _ _ _
      | exact ih1 _ _ _ _ _ _ _
      | exact ih2 _ _ _ _ _ _ _
      | exact LeO.none _
      | refine LeO.ite ?_ ?_
      | refine LeO.bind ?_ (fun _ => ?_)
    · intro y0 y1 y2 y3 y4 y5 y6
      unfold spec_validFinals.l1
      repeat' first
      | (with_reducible exact ih0 _ _ _)
      | (with_reducible exact ih1 _ _ _ _ _ _ _)
      | (with_reducible exact ih2 _ _ _ _ _ _ _)
      | (with_reducible exact LeO.refl _)
      | (with_reducible exact LeO.none _)
      | (with_reducible refine LeO.ite ?_ ?_)
      | (with_reducible refine LeO.bind ?_ (fun _ => ?_))
      | exact ih0 _ _ _
      | exact ih1 _ _ _ _ _ _ _
      | exact ih2 _ _ _ _ _ _ _
      | exact LeO.none _
      | refine LeO.ite ?_ ?_
      | refine LeO.bind ?_ (fun _ => ?_)
theorem spec_validFinals.mono : ∀ a0 a1 k, LeO (spec_validFinals.f k a0 a1) (spec_validFinals.f (k + 1) a0 a1) := by
  intro a0 a1 k
  obtain ⟨ih0, ih1, ih2⟩ := spec_validFinals.mono_l k
  unfold spec_validFinals.f
  repeat' first
      | (with_reducible exact ih0 _ _ _)
      | (with_reducible exact ih1 _ _ _ _ _ _ _)
      | (with_reducible exact ih2 _ _ _ _ _ _ _)
      | (with_reducible exact LeO.refl _)
      | (with_reducible exact LeO.none _)
      | (with_reducible refine LeO.ite ?_ ?_)
      | (with_reducible refine LeO.bind ?_ (fun _ => ?_))
      | exact ih0 _ _ _
      | exact ih1 _ _ _ _ _ _ _
      | exact ih2 _ _ _ _ _ _ _
      | exact LeO.none _
      | refine LeO.ite ?_ ?_
      | refine LeO.bind ?_ (fun _ => ?_)
set_option maxHeartbeats 8000000 in
set_option maxRecDepth 100000 in
theorem spec_validFinals.calls (k : Nat) (A0 : Option Addr) (c0 : Nat) (l0 : List (S64)) (a1 : Int) (r : Bool) (w : World) (hr0 : Kd.C k64 w A0 l0.length l0) (hc0 : l0.length ≤ c0) (h : spec_validFinals.f k l0 a1 = some r) :
    Calls Try.prog 69 #[.slice A0 l0.length c0, .int .i64 a1] w fun e w' => e = .returned (.bool r) ∧ Below w.heap.size w w' := by
  have hu64 := Try.underlying64
  have HR0 := Aside0.mk hr0
  have HC0 := Aside0.mk hc0
  clear hr0 hc0
  have HB := Aside0.mk (Below.refl w.heap.size w)
  have H : (spec_validFinals.l0 k l0 a1 0) = some r := h
  clear h
  have H' := Aside0.mk H
  clear H
  go_enter Try.func69, Try.ntmps69
  go_wp2
  repeat (go_quiet (fail); try go_wp2)
  go_loopg [5] k (fun kq v5 w' => ∃ (x5_1 : Int), v5 = .int .i64 x5_1 ∧ Aside0 (spec_validFinals.l0 kq l0 a1 x5_1 = some r) ∧ Aside0 (kq ≤ k) ∧ Aside0 (Below w.heap.size w w'))
  case atStart => exact ⟨(0), (by first | rfl | (simp; done) | (simp [*]; done)), H', ⟨Nat.le_refl _⟩, ⟨by repeat (first | (with_reducible first | exact HB.out | apply below_alloc | apply pw_below_drewN | apply below_drew1) | exact HB.out)⟩⟩
  case round =>
    clear H'
    try clear p2
    obtain ⟨x5_1, rfl, HA, HK1, HB⟩ := hrel
    cases gk with
    | zero => exact absurd HA.out (by simp [spec_validFinals.l0])
    | succ k1 =>
      have H := HA.out
      clear HA
      simp only [spec_validFinals.l0] at H
      by_cases c3 : x5_1 < (l0.length : Int)
      · rw [if_pos c3] at H
        have c3b0 : decide (x5_1 < (l0.length : Int)) = true := decide_eq_true c3
        clear c3
        by_cases c4 : 0 ≤ x5_1
        · rw [if_pos c4] at H
          have c4b0 : decide (0 ≤ x5_1) = true := decide_eq_true c4
          clear c4
          have HC5 := Aside0.mk H
          clear H
          have p770 : 0 ≤ (x5_1 : Int) := of_decide_eq_true (by first | (with_reducible assumption) | assumption)
          have q770 : x5_1 < (l0.length : Int) := of_decide_eq_true (by first | (with_reducible assumption) | assumption)
          obtain ⟨ad770, e770, hx770_0, hx770_1, hx770_2⟩ := at_T64 HR0.out x5_1 p770 q770
          cases e770
          replace hx770_0 := (HB.out.cell (World.block_lt_of_cell? w _ hx770_0)).trans hx770_0
          replace hx770_1 := (HB.out.cell (World.block_lt_of_cell? w _ hx770_1)).trans hx770_1
          replace hx770_2 := (HB.out.cell (World.block_lt_of_cell? w _ hx770_2)).trans hx770_2
          replace p770 := eq_true p770
          replace q770 := eq_true q770
          go_upto_region 5 with (first | ((with_reducible refine gate_dst (N := 6) rfl ?_); refine box_event ?hg (N := 6) ?hd (cs := #[.int .i64 0, .int .i64 0, .bool false]) (t := 64) ?hr ?_; (case hd => rfl); (case hg => rfl); (case hr => first | (go_simp; done) | (go_simp; rfl)); intro gb771 hg w6 hbox hb; have n0_ := Aside0.mk (below_step (by repeat (first | (with_reducible first | exact HB.out | apply below_alloc | apply pw_below_drewN | apply below_drew1) | exact HB.out)) hb); have n1_ := Aside0.mk (hbox); have n2_ := Aside0.mk ((by rw [hg]; exact (below_size (by repeat (first | (with_reducible first | exact HB.out | apply below_alloc | apply pw_below_drewN | apply below_drew1) | exact HB.out))) : w.heap.size ≤ gb771)); have n3_ := Aside0.mk ((by rw [hg]; exact (below_size (by repeat (first | (with_reducible first | exact HB.out | apply below_alloc | apply pw_below_drewN | apply below_drew1) | exact HB.out))) : w.heap.size ≤ gb771)); clear HB; have HB := n0_; have BK771 := n1_; have GW771 := n2_; have GE771 := n3_; clear n0_ n1_ n2_ n3_; clear hb hbox hg; have hcz7_0 : w6.cell? ⟨gb771, 0, none⟩ = some (.int .i64 0) := (blk_cell BK771.out 0).trans rfl; have hcz7_1 : w6.cell? ⟨gb771, 1, none⟩ = some (.int .i64 0) := (blk_cell BK771.out 1).trans rfl; have hcz7_2 : w6.cell? ⟨gb771, 2, none⟩ = some (.bool false) := (blk_cell BK771.out 2).trans rfl; have hfz7_0 := blk_frozen BK771.out 0; have hfz7_1 := blk_frozen BK771.out 1; have hfz7_2 := blk_frozen BK771.out 2))
          repeat (go_quiet (first | ((with_reducible refine gate_dst (N := 6) rfl ?_); refine box_event ?hg (N := 6) ?hd (cs := #[.int .i64 0, .int .i64 0, .bool false]) (t := 64) ?hr ?_; (case hd => rfl); (case hg => rfl); (case hr => first | (go_simp; done) | (go_simp; rfl)); intro gb771 hg w6 hbox hb; have n0_ := Aside0.mk (below_step (by repeat (first | (with_reducible first | exact HB.out | apply below_alloc | apply pw_below_drewN | apply below_drew1) | exact HB.out)) hb); have n1_ := Aside0.mk (hbox); have n2_ := Aside0.mk ((by rw [hg]; exact (below_size (by repeat (first | (with_reducible first | exact HB.out | apply below_alloc | apply pw_below_drewN | apply below_drew1) | exact HB.out))) : w.heap.size ≤ gb771)); have n3_ := Aside0.mk ((by rw [hg]; exact (below_size (by repeat (first | (with_reducible first | exact HB.out | apply below_alloc | apply pw_below_drewN | apply below_drew1) | exact HB.out))) : w.heap.size ≤ gb771)); clear HB; have HB := n0_; have BK771 := n1_; have GW771 := n2_; have GE771 := n3_; clear n0_ n1_ n2_ n3_; clear hb hbox hg; have hcz7_0 : w6.cell? ⟨gb771, 0, none⟩ = some (.int .i64 0) := (blk_cell BK771.out 0).trans rfl; have hcz7_1 : w6.cell? ⟨gb771, 1, none⟩ = some (.int .i64 0) := (blk_cell BK771.out 1).trans rfl; have hcz7_2 : w6.cell? ⟨gb771, 2, none⟩ = some (.bool false) := (blk_cell BK771.out 2).trans rfl; have hfz7_0 := blk_frozen BK771.out 0; have hfz7_1 := blk_frozen BK771.out 1; have hfz7_2 := blk_frozen BK771.out 2)); go_upto_region 5 with (first | ((with_reducible refine gate_dst (N := 6) rfl ?_); refine box_event ?hg (N := 6) ?hd (cs := #[.int .i64 0, .int .i64 0, .bool false]) (t := 64) ?hr ?_; (case hd => rfl); (case hg => rfl); (case hr => first | (go_simp; done) | (go_simp; rfl)); intro gb771 hg w6 hbox hb; have n0_ := Aside0.mk (below_step (by repeat (first | (with_reducible first | exact HB.out | apply below_alloc | apply pw_below_drewN | apply below_drew1) | exact HB.out)) hb); have n1_ := Aside0.mk (hbox); have n2_ := Aside0.mk ((by rw [hg]; exact (below_size (by repeat (first | (with_reducible first | exact HB.out | apply below_alloc | apply pw_below_drewN | apply below_drew1) | exact HB.out))) : w.heap.size ≤ gb771)); have n3_ := Aside0.mk ((by rw [hg]; exact (below_size (by repeat (first | (with_reducible first | exact HB.out | apply below_alloc | apply pw_below_drewN | apply below_drew1) | exact HB.out))) : w.heap.size ≤ gb771)); clear HB; have HB := n0_; have BK771 := n1_; have GW771 := n2_; have GE771 := n3_; clear n0_ n1_ n2_ n3_; clear hb hbox hg; have hcz7_0 : w6.cell? ⟨gb771, 0, none⟩ = some (.int .i64 0) := (blk_cell BK771.out 0).trans rfl; have hcz7_1 : w6.cell? ⟨gb771, 1, none⟩ = some (.int .i64 0) := (blk_cell BK771.out 1).trans rfl; have hcz7_2 : w6.cell? ⟨gb771, 2, none⟩ = some (.bool false) := (blk_cell BK771.out 2).trans rfl; have hfz7_0 := blk_frozen BK771.out 0; have hfz7_1 := blk_frozen BK771.out 1; have hfz7_2 := blk_frozen BK771.out 2)))
          (try simp only [Act.put, List.setIfInBounds_toArray, List.set_cons_zero, List.set_cons_succ])
          go_cut [31] (fun v31 wc => ∃ (kq : Nat) (x31_4 : Bool), v31 = .bool x31_4 ∧ Aside0 (spec_validFinals.j1 kq l0 a1 x5_1 x31_4 ((rd_T64 l0 x5_1).f0) ((rd_T64 l0 x5_1).f1) ((rd_T64 l0 x5_1).f2) = some r) ∧ Aside0 (kq ≤ k1) ∧ Aside0 (wc.heap[gb771]? = some (.cells #[.int .i64 ((rd_T64 l0 x5_1).f0), .int .i64 ((rd_T64 l0 x5_1).f1), .bool ((rd_T64 l0 x5_1).f2)] 64 (0, 0))) ∧ Aside0 (Below w.heap.size w wc))
          case first =>
            have H := HC5.out
            clear HC5
            replace H := Option.bind_eq_some_iff.mp H
            obtain ⟨t772, A80, H⟩ := H
            replace H : (if t772 = true then ((spec_inRange.f ((rd_T64 l0 x5_1).f1) (-1) (wrap64 (a1 - 1))).bind fun t773 => (spec_validFinals.j1 k1 l0 a1 x5_1 (!t773) ((rd_T64 l0 x5_1).f0) ((rd_T64 l0 x5_1).f1) ((rd_T64 l0 x5_1).f2))) else (spec_validFinals.j1 k1 l0 a1 x5_1 true ((rd_T64 l0 x5_1).f0) ((rd_T64 l0 x5_1).f1) ((rd_T64 l0 x5_1).f2))) = some r := H
            have A8 := Aside0.mk A80
            clear A80
            by_cases c9 : t772 = true
            · subst c9
              have H1 : ((spec_inRange.f ((rd_T64 l0 x5_1).f1) (-1) (wrap64 (a1 - 1))).bind fun t773 => (spec_validFinals.j1 k1 l0 a1 x5_1 (!t773) ((rd_T64 l0 x5_1).f0) ((rd_T64 l0 x5_1).f1) ((rd_T64 l0 x5_1).f2))) = some r := by rw [if_pos rfl] at H; exact H
              clear H
              have H := H1
              clear H1
              replace H := Option.bind_eq_some_iff.mp H
              obtain ⟨t773, A100, H⟩ := H
              replace H : (spec_validFinals.j1 k1 l0 a1 x5_1 (!t773) ((rd_T64 l0 x5_1).f0) ((rd_T64 l0 x5_1).f1) ((rd_T64 l0 x5_1).f2)) = some r := H
              have A10 := Aside0.mk A100
              clear A100
              have H' := Aside0.mk H
              clear H
              have hcz11_0 : w6.cell? ⟨gb771, 0, none⟩ = some (.int .i64 0) := (blk_cell BK771.out 0).trans rfl
              have hcz11_1 : w6.cell? ⟨gb771, 1, none⟩ = some (.int .i64 0) := (blk_cell BK771.out 1).trans rfl
              have hcz11_2 : w6.cell? ⟨gb771, 2, none⟩ = some (.bool false) := (blk_cell BK771.out 2).trans rfl
              have hfz11_0 := blk_frozen BK771.out 0
              have hfz11_1 := blk_frozen BK771.out 1
              have hfz11_2 := blk_frozen BK771.out 2
              go_wp2_with (first | (go_at_call 64; (first | with_reducible refine (spec_inRange.calls ((rd_T64 l0 x5_1).f0) 0 (wrap64 (a1 - 1)) true _ A8.out).mono ?_ | (simp only [i64_w]; with_reducible refine (spec_inRange.calls ((rd_T64 l0 x5_1).f0) 0 (wrap64 (a1 - 1)) true _ A8.out).mono ?_)); rintro e w' ⟨rfl, ⟨nd, rfl⟩⟩; (try first | exact ⟨rfl, _, World.drewN_drewN _ _ _⟩ | exact ⟨rfl, _, Eq.trans (World.drewN_drewN _ _ _) (congrArg (World.drewN _) (Nat.add_assoc _ _ _))⟩)) | (go_at_call 64; (first | with_reducible refine (spec_inRange.calls ((rd_T64 l0 x5_1).f1) (-1) (wrap64 (a1 - 1)) t773 _ A10.out).mono ?_ | (simp only [i64_w]; with_reducible refine (spec_inRange.calls ((rd_T64 l0 x5_1).f1) (-1) (wrap64 (a1 - 1)) t773 _ A10.out).mono ?_)); rintro e w' ⟨rfl, ⟨nd, rfl⟩⟩; (try first | exact ⟨rfl, _, World.drewN_drewN _ _ _⟩ | exact ⟨rfl, _, Eq.trans (World.drewN_drewN _ _ _) (congrArg (World.drewN _) (Nat.add_assoc _ _ _))⟩)))
              repeat (go_quiet (first | (go_at_call 64; (first | with_reducible refine (spec_inRange.calls ((rd_T64 l0 x5_1).f0) 0 (wrap64 (a1 - 1)) true _ A8.out).mono ?_ | (simp only [i64_w]; with_reducible refine (spec_inRange.calls ((rd_T64 l0 x5_1).f0) 0 (wrap64 (a1 - 1)) true _ A8.out).mono ?_)); rintro e w' ⟨rfl, ⟨nd, rfl⟩⟩; (try first | exact ⟨rfl, _, World.drewN_drewN _ _ _⟩ | exact ⟨rfl, _, Eq.trans (World.drewN_drewN _ _ _) (congrArg (World.drewN _) (Nat.add_assoc _ _ _))⟩)) | (go_at_call 64; (first | with_reducible refine (spec_inRange.calls ((rd_T64 l0 x5_1).f1) (-1) (wrap64 (a1 - 1)) t773 _ A10.out).mono ?_ | (simp only [i64_w]; with_reducible refine (spec_inRange.calls ((rd_T64 l0 x5_1).f1) (-1) (wrap64 (a1 - 1)) t773 _ A10.out).mono ?_)); rintro e w' ⟨rfl, ⟨nd, rfl⟩⟩; (try first | exact ⟨rfl, _, World.drewN_drewN _ _ _⟩ | exact ⟨rfl, _, Eq.trans (World.drewN_drewN _ _ _) (congrArg (World.drewN _) (Nat.add_assoc _ _ _))⟩))); try go_wp2_with (first | (go_at_call 64; (first | with_reducible refine (spec_inRange.calls ((rd_T64 l0 x5_1).f0) 0 (wrap64 (a1 - 1)) true _ A8.out).mono ?_ | (simp only [i64_w]; with_reducible refine (spec_inRange.calls ((rd_T64 l0 x5_1).f0) 0 (wrap64 (a1 - 1)) true _ A8.out).mono ?_)); rintro e w' ⟨rfl, ⟨nd, rfl⟩⟩; (try first | exact ⟨rfl, _, World.drewN_drewN _ _ _⟩ | exact ⟨rfl, _, Eq.trans (World.drewN_drewN _ _ _) (congrArg (World.drewN _) (Nat.add_assoc _ _ _))⟩)) | (go_at_call 64; (first | with_reducible refine (spec_inRange.calls ((rd_T64 l0 x5_1).f1) (-1) (wrap64 (a1 - 1)) t773 _ A10.out).mono ?_ | (simp only [i64_w]; with_reducible refine (spec_inRange.calls ((rd_T64 l0 x5_1).f1) (-1) (wrap64 (a1 - 1)) t773 _ A10.out).mono ?_)); rintro e w' ⟨rfl, ⟨nd, rfl⟩⟩; (try first | exact ⟨rfl, _, World.drewN_drewN _ _ _⟩ | exact ⟨rfl, _, Eq.trans (World.drewN_drewN _ _ _) (congrArg (World.drewN _) (Nat.add_assoc _ _ _))⟩))))
              go_meet
              case rel => exact ⟨_, (!t773), (by first | rfl | (simp; done) | (simp [*]; done)), H', ⟨by have := HK1.out; first | omega | exact Nat.le_refl _⟩, ⟨by (with_reducible repeat (first | refine blk_drewN ?_ _ | refine blk_drew ?_ | refine blk_alloc ?_ _)); refine blk_put (cs := #[.int .i64 ((rd_T64 l0 x5_1).f0), .int .i64 ((rd_T64 l0 x5_1).f1), .bool false]) ?_ 2 _ rfl; (with_reducible repeat (first | refine blk_drewN ?_ _ | refine blk_drew ?_ | refine blk_alloc ?_ _)); refine blk_put (cs := #[.int .i64 ((rd_T64 l0 x5_1).f0), .int .i64 0, .bool false]) ?_ 1 _ rfl; (with_reducible repeat (first | refine blk_drewN ?_ _ | refine blk_drew ?_ | refine blk_alloc ?_ _)); refine blk_put (cs := #[.int .i64 0, .int .i64 0, .bool false]) ?_ 0 _ rfl; (with_reducible repeat (first | refine blk_drewN ?_ _ | refine blk_drew ?_ | refine blk_alloc ?_ _)); exact BK771.out⟩, ⟨by repeat (first | (with_reducible first | exact HB.out | apply below_alloc | apply pw_below_drewN | apply below_drew1 | refine below_set ?_ GE771.out) | exact HB.out)⟩⟩
            · replace c9 := Bool.eq_false_iff.mpr c9
              subst c9
              have H1 : (spec_validFinals.j1 k1 l0 a1 x5_1 true ((rd_T64 l0 x5_1).f0) ((rd_T64 l0 x5_1).f1) ((rd_T64 l0 x5_1).f2)) = some r := by rw [if_neg (show ¬ (false = true) by decide)] at H; exact H
              clear H
              have H := H1
              clear H1
              have H' := Aside0.mk H
              clear H
              have hcz12_0 : w6.cell? ⟨gb771, 0, none⟩ = some (.int .i64 0) := (blk_cell BK771.out 0).trans rfl
              have hcz12_1 : w6.cell? ⟨gb771, 1, none⟩ = some (.int .i64 0) := (blk_cell BK771.out 1).trans rfl
              have hcz12_2 : w6.cell? ⟨gb771, 2, none⟩ = some (.bool false) := (blk_cell BK771.out 2).trans rfl
              have hfz12_0 := blk_frozen BK771.out 0
              have hfz12_1 := blk_frozen BK771.out 1
              have hfz12_2 := blk_frozen BK771.out 2
              go_wp2_with (first | (go_at_call 64; (first | with_reducible refine (spec_inRange.calls ((rd_T64 l0 x5_1).f0) 0 (wrap64 (a1 - 1)) false _ A8.out).mono ?_ | (simp only [i64_w]; with_reducible refine (spec_inRange.calls ((rd_T64 l0 x5_1).f0) 0 (wrap64 (a1 - 1)) false _ A8.out).mono ?_)); rintro e w' ⟨rfl, ⟨nd, rfl⟩⟩; (try first | exact ⟨rfl, _, World.drewN_drewN _ _ _⟩ | exact ⟨rfl, _, Eq.trans (World.drewN_drewN _ _ _) (congrArg (World.drewN _) (Nat.add_assoc _ _ _))⟩)))
              repeat (go_quiet (first | (go_at_call 64; (first | with_reducible refine (spec_inRange.calls ((rd_T64 l0 x5_1).f0) 0 (wrap64 (a1 - 1)) false _ A8.out).mono ?_ | (simp only [i64_w]; with_reducible refine (spec_inRange.calls ((rd_T64 l0 x5_1).f0) 0 (wrap64 (a1 - 1)) false _ A8.out).mono ?_)); rintro e w' ⟨rfl, ⟨nd, rfl⟩⟩; (try first | exact ⟨rfl, _, World.drewN_drewN _ _ _⟩ | exact ⟨rfl, _, Eq.trans (World.drewN_drewN _ _ _) (congrArg (World.drewN _) (Nat.add_assoc _ _ _))⟩))); try go_wp2_with (first | (go_at_call 64; (first | with_reducible refine (spec_inRange.calls ((rd_T64 l0 x5_1).f0) 0 (wrap64 (a1 - 1)) false _ A8.out).mono ?_ | (simp only [i64_w]; with_reducible refine (spec_inRange.calls ((rd_T64 l0 x5_1).f0) 0 (wrap64 (a1 - 1)) false _ A8.out).mono ?_)); rintro e w' ⟨rfl, ⟨nd, rfl⟩⟩; (try first | exact ⟨rfl, _, World.drewN_drewN _ _ _⟩ | exact ⟨rfl, _, Eq.trans (World.drewN_drewN _ _ _) (congrArg (World.drewN _) (Nat.add_assoc _ _ _))⟩))))
              go_meet
              case rel => exact ⟨_, (true), (by first | rfl | (simp; done) | (simp [*]; done)), H', ⟨by have := HK1.out; first | omega | exact Nat.le_refl _⟩, ⟨by (with_reducible repeat (first | refine blk_drewN ?_ _ | refine blk_drew ?_ | refine blk_alloc ?_ _)); refine blk_put (cs := #[.int .i64 ((rd_T64 l0 x5_1).f0), .int .i64 ((rd_T64 l0 x5_1).f1), .bool false]) ?_ 2 _ rfl; (with_reducible repeat (first | refine blk_drewN ?_ _ | refine blk_drew ?_ | refine blk_alloc ?_ _)); refine blk_put (cs := #[.int .i64 ((rd_T64 l0 x5_1).f0), .int .i64 0, .bool false]) ?_ 1 _ rfl; (with_reducible repeat (first | refine blk_drewN ?_ _ | refine blk_drew ?_ | refine blk_alloc ?_ _)); refine blk_put (cs := #[.int .i64 0, .int .i64 0, .bool false]) ?_ 0 _ rfl; (with_reducible repeat (first | refine blk_drewN ?_ _ | refine blk_drew ?_ | refine blk_alloc ?_ _)); exact BK771.out⟩, ⟨by repeat (first | (with_reducible first | exact HB.out | apply below_alloc | apply pw_below_drewN | apply below_drew1 | refine below_set ?_ GE771.out) | exact HB.out)⟩⟩
          case rest =>
            clear HC5
            try clear p2
            try clear c3
            try clear c3b0
            try clear c4
            try clear c4b0
            try clear c6
            try clear p6
            try clear p7
            try clear q7
            try clear hx7
            try clear c9
            try clear hcz11_0
            try clear hcz11_1
            try clear hcz11_2
            try clear hcz12_0
            try clear hcz12_1
            try clear hcz12_2
            try clear hcz7_0
            try clear hcz7_1
            try clear hcz7_2
            try clear hfz11_0
            try clear hfz11_1
            try clear hfz11_2
            try clear hfz12_0
            try clear hfz12_1
            try clear hfz12_2
            try clear hfz7_0
            try clear hfz7_1
            try clear hfz7_2
            try clear hx770_0
            try clear hx770_1
            try clear hx770_2
            try clear p2
            try clear p770
            try clear q770
            obtain ⟨kq, x31_4, rfl, HA, HJ4, BK771, HB⟩ := hcut
            cases kq with
            | zero => exact absurd HA.out (by simp [spec_validFinals.j1])
            | succ kj4 =>
              have H := HA.out
              clear HA
              simp only [spec_validFinals.j1] at H
              by_cases c13 : x31_4 = true
              · subst c13
                have H1 : (some false) = some r := by rw [if_pos rfl] at H; exact H
                clear H
                have H := H1
                clear H1
                obtain rfl := Option.some.inj H
                go_wp2
                repeat (go_quiet (fail); try go_wp2)
                go_ret
                exact ⟨by first | rfl | (simp [errW_none, errW_some] <;> rfl) | (simp [*, errW_none, errW_some] <;> rfl), by repeat (first | (with_reducible first | exact HB.out | apply below_alloc | apply pw_below_drewN | apply below_drew1 | refine below_set ?_ GE771.out) | exact HB.out)⟩
              · replace c13 := Bool.eq_false_iff.mpr c13
                subst c13
                have H1 : (spec_validFinals.l1 kj4 l0 a1 x5_1 0 ((rd_T64 l0 x5_1).f0) ((rd_T64 l0 x5_1).f1) ((rd_T64 l0 x5_1).f2)) = some r := by rw [if_neg (show ¬ (false = true) by decide)] at H; exact H
                clear H
                have H := H1
                clear H1
                have H' := Aside0.mk H
                clear H
                go_wp2
                repeat (go_quiet (fail); try go_wp2)
                go_loopg [7] kj4 (fun kq v7 w' => ∃ (x7_3 : Int), v7 = .int .i64 x7_3 ∧ Aside0 (spec_validFinals.l1 kq l0 a1 x5_1 x7_3 ((rd_T64 l0 x5_1).f0) ((rd_T64 l0 x5_1).f1) ((rd_T64 l0 x5_1).f2) = some r) ∧ Aside0 (kq ≤ kj4) ∧ Aside0 (w'.heap[gb771]? = some (.cells #[.int .i64 ((rd_T64 l0 x5_1).f0), .int .i64 ((rd_T64 l0 x5_1).f1), .bool ((rd_T64 l0 x5_1).f2)] 64 (0, 0))) ∧ Aside0 (Below w.heap.size w w'))
                case atStart => exact ⟨(0), (by first | rfl | (simp; done) | (simp [*]; done)), H', ⟨Nat.le_refl _⟩, ⟨by (with_reducible repeat (first | refine blk_drewN ?_ _ | refine blk_drew ?_ | refine blk_alloc ?_ _)); exact BK771.out⟩, ⟨by repeat (first | (with_reducible first | exact HB.out | apply below_alloc | apply pw_below_drewN | apply below_drew1 | refine below_set ?_ GE771.out) | exact HB.out)⟩⟩
                case round =>
                  clear H'
                  try clear c1
                  try clear p2
                  try clear c3
                  try clear c3b0
                  try clear c4
                  try clear c4b0
                  try clear c6
                  try clear p6
                  try clear p7
                  try clear q7
                  try clear hx7
                  try clear c9
                  try clear c13
                  try clear hcz11_0
                  try clear hcz11_1
                  try clear hcz11_2
                  try clear hcz12_0
                  try clear hcz12_1
                  try clear hcz12_2
                  try clear hcz7_0
                  try clear hcz7_1
                  try clear hcz7_2
                  try clear hfz11_0
                  try clear hfz11_1
                  try clear hfz11_2
                  try clear hfz12_0
                  try clear hfz12_1
                  try clear hfz12_2
                  try clear hfz7_0
                  try clear hfz7_1
                  try clear hfz7_2
                  try clear hx770_0
                  try clear hx770_1
                  try clear hx770_2
                  try clear p2
                  try clear p6
                  try clear p7
                  try clear p770
                  try clear q7
                  try clear q770
                  obtain ⟨x7_3, rfl, HA, HK3, BK771, HB⟩ := hrel
                  cases gk with
                  | zero => exact absurd HA.out (by simp [spec_validFinals.l1])
                  | succ k3 =>
                    have H := HA.out
                    clear HA
                    simp only [spec_validFinals.l1] at H
                    by_cases c14 : x7_3 < x5_1
                    · rw [if_pos c14] at H
                      have c14b0 : decide (x7_3 < x5_1) = true := decide_eq_true c14
                      clear c14
                      by_cases c15 : 0 ≤ x7_3
                      · rw [if_pos c15] at H
                        have c15b0 : decide (0 ≤ x7_3) = true := decide_eq_true c15
                        clear c15
                        by_cases c16 : x7_3 < (l0.length : Int)
                        · rw [if_pos c16] at H
                          have c16b0 : decide (x7_3 < (l0.length : Int)) = true := decide_eq_true c16
                          clear c16
                          by_cases c17 : ((rd_T64 l0 x7_3).f0) = ((rd_T64 l0 x5_1).f0)
                          · rw [if_pos c17] at H
                            have c17b0 : (((rd_T64 l0 x7_3).f0) == ((rd_T64 l0 x5_1).f0)) = true := beq_iff_eq.mpr c17
                            have c17b1 : (((rd_T64 l0 x7_3).f0) != ((rd_T64 l0 x5_1).f0)) = false := bne_eq_false_iff_eq.mpr c17
                            clear c17
                            obtain rfl := Option.some.inj H
                            have p774 : 0 ≤ (x7_3 : Int) := of_decide_eq_true (by first | (with_reducible assumption) | assumption)
                            have q774 : x7_3 < (l0.length : Int) := of_decide_eq_true (by first | (with_reducible assumption) | assumption)
                            obtain ⟨ad774, e774, hx774_0, hx774_1, hx774_2⟩ := at_T64 HR0.out x7_3 p774 q774
                            obtain rfl : ad770 = ad774 := (by injection e774)
                            replace hx774_0 := (HB.out.cell (World.block_lt_of_cell? w _ hx774_0)).trans hx774_0
                            replace hx774_1 := (HB.out.cell (World.block_lt_of_cell? w _ hx774_1)).trans hx774_1
                            replace hx774_2 := (HB.out.cell (World.block_lt_of_cell? w _ hx774_2)).trans hx774_2
                            replace p774 := eq_true p774
                            replace q774 := eq_true q774
                            have hcz18_0 : wr.cell? ⟨gb771, 0, none⟩ = some (.int .i64 ((rd_T64 l0 x5_1).f0)) := (blk_cell BK771.out 0).trans rfl
                            have hcz18_1 : wr.cell? ⟨gb771, 1, none⟩ = some (.int .i64 ((rd_T64 l0 x5_1).f1)) := (blk_cell BK771.out 1).trans rfl
                            have hcz18_2 : wr.cell? ⟨gb771, 2, none⟩ = some (.bool ((rd_T64 l0 x5_1).f2)) := (blk_cell BK771.out 2).trans rfl
                            have hfz18_0 := blk_frozen BK771.out 0
                            have hfz18_1 := blk_frozen BK771.out 1
                            have hfz18_2 := blk_frozen BK771.out 2
                            go_wp2
                            repeat (go_quiet (fail); try go_wp2)
                            go_ret
                            exact ⟨by first | rfl | (simp [errW_none, errW_some] <;> rfl) | (simp [*, errW_none, errW_some] <;> rfl), by repeat (first | (with_reducible first | exact HB.out | apply below_alloc | apply pw_below_drewN | apply below_drew1 | refine below_set ?_ GE771.out) | exact HB.out)⟩
                          · rw [if_neg c17] at H
                            have c17b0 : (((rd_T64 l0 x7_3).f0) == ((rd_T64 l0 x5_1).f0)) = false := beq_eq_false_iff_ne.mpr c17
                            have c17b1 : (((rd_T64 l0 x7_3).f0) != ((rd_T64 l0 x5_1).f0)) = true := bne_iff_ne.mpr c17
                            have H' := Aside0.mk H
                            clear H
                            have p774 : 0 ≤ (x7_3 : Int) := of_decide_eq_true (by first | (with_reducible assumption) | assumption)
                            have q774 : x7_3 < (l0.length : Int) := of_decide_eq_true (by first | (with_reducible assumption) | assumption)
                            obtain ⟨ad774, e774, hx774_0, hx774_1, hx774_2⟩ := at_T64 HR0.out x7_3 p774 q774
                            obtain rfl : ad770 = ad774 := (by injection e774)
                            replace hx774_0 := (HB.out.cell (World.block_lt_of_cell? w _ hx774_0)).trans hx774_0
                            replace hx774_1 := (HB.out.cell (World.block_lt_of_cell? w _ hx774_1)).trans hx774_1
                            replace hx774_2 := (HB.out.cell (World.block_lt_of_cell? w _ hx774_2)).trans hx774_2
                            replace p774 := eq_true p774
                            replace q774 := eq_true q774
                            have hcz19_0 : wr.cell? ⟨gb771, 0, none⟩ = some (.int .i64 ((rd_T64 l0 x5_1).f0)) := (blk_cell BK771.out 0).trans rfl
                            have hcz19_1 : wr.cell? ⟨gb771, 1, none⟩ = some (.int .i64 ((rd_T64 l0 x5_1).f1)) := (blk_cell BK771.out 1).trans rfl
                            have hcz19_2 : wr.cell? ⟨gb771, 2, none⟩ = some (.bool ((rd_T64 l0 x5_1).f2)) := (blk_cell BK771.out 2).trans rfl
                            have hfz19_0 := blk_frozen BK771.out 0
                            have hfz19_1 := blk_frozen BK771.out 1
                            have hfz19_2 := blk_frozen BK771.out 2
                            go_wp2
                            repeat (go_quiet (fail); try go_wp2)
                            go_roundg k3
                            case measure => have := HK1.out; have := HJ4.out; have := HK3.out; omega
                            case rel => exact ⟨(wrap64 (x7_3 + 1)), (by first | rfl | (simp; done) | (simp [*]; done)), H', ⟨by have := HK1.out; have := HJ4.out; have := HK3.out; omega⟩, ⟨by (with_reducible repeat (first | refine blk_drewN ?_ _ | refine blk_drew ?_ | refine blk_alloc ?_ _)); exact BK771.out⟩, ⟨by repeat (first | (with_reducible first | exact HB.out | apply below_alloc | apply pw_below_drewN | apply below_drew1 | refine below_set ?_ GE771.out) | exact HB.out)⟩⟩
                        · rw [if_neg c16] at H
                          exact absurd H (by simp)
                      · rw [if_neg c15] at H
                        exact absurd H (by simp)
                    · rw [if_neg c14] at H
                      have c14b0 : decide (x7_3 < x5_1) = false := decide_eq_false c14
                      clear c14
                      have H' := Aside0.mk H
                      clear H
                      go_wp2
                      repeat (go_quiet (fail); try go_wp2)
                      go_roundg k3
                      case measure => have := HK1.out; have := HJ4.out; have := HK3.out; omega
                      case rel => exact ⟨(wrap64 (x5_1 + 1)), (by first | rfl | (simp; done) | (simp [*]; done)), H', ⟨by have := HK1.out; have := HJ4.out; have := HK3.out; omega⟩, ⟨by repeat (first | (with_reducible first | exact HB.out | apply below_alloc | apply pw_below_drewN | apply below_drew1 | refine below_set ?_ GE771.out) | exact HB.out)⟩⟩
        · rw [if_neg c4] at H
          exact absurd H (by simp)
      · rw [if_neg c3] at H
        have c3b0 : decide (x5_1 < (l0.length : Int)) = false := decide_eq_false c3
        clear c3
        obtain rfl := Option.some.inj H
        go_wp2
        repeat (go_quiet (fail); try go_wp2)
        go_ret
        exact ⟨by first | rfl | (simp [errW_none, errW_some] <;> rfl) | (simp [*, errW_none, errW_some] <;> rfl), by repeat (first | (with_reducible first | exact HB.out | apply below_alloc | apply pw_below_drewN | apply below_drew1) | exact HB.out)⟩

end Go.Proofs.Ytckninkpjdcfbaa.Q
