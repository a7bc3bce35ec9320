-- Printed by a program of this project's own, for this seat.
import Derived.Test.YtdhjkfoijaifcaaQ0
import Derived.Test.YtdhjkfoijaifcaaQ2
namespace Go.Proofs.Ytdhjkfoijaifcaa.Q
open Go.RowKit Go.Proofs.YtdhjkfoijaifcaaW.PrintWords Go.Proofs.YtdhjkfoijaifcaaW.PrintLast Go.Proofs.YtdhjkfoijaifcaaW.PrintMore
attribute [local go_sem] max2_int min2_int max_two min_two max_three min_three max_four min_four   -- for this text's walks alone
set_option linter.unusedVariables false
set_option linter.unusedSimpArgs false

/-! ### impl_Final_66: function 66 -/
def impl_Final_66.f (l0 : List (S69)) : Option ((List (S69))) := (some (([] : List (S69)) : List (S69))).bind fun y692 => (if y692.length + l0.length < 5864062014805 then (some (y692 ++ l0)) else (none))
set_option maxHeartbeats 8000000 in
set_option maxRecDepth 100000 in
theorem impl_Final_66.calls (A0 : Option Addr) (c0 : Nat) (l0 : List (S69)) (r : List (S69)) (w : World) (hr0 : Kd.C k69 w A0 l0.length l0) (hc0 : l0.length ≤ c0) (h : impl_Final_66.f l0 = some r) :
    Calls Try.prog 66 #[.slice A0 l0.length c0] w fun e w' => ∃ v0_ : Value, e = .returned (v0_) ∧ Kd.R k69 69 w' w.heap.size (fun _ => True) v0_ r ∧ Below w.heap.size w w' := by
  cases A0 with
  | none =>
    obtain rfl : l0 = [] := by
      rcases Nat.eq_zero_or_pos l0.length with h0 | h0
      · exact List.length_eq_zero_iff.1 h0
      · obtain ⟨_, e, _⟩ := hr0.2.2 h0
        cases e
    obtain rfl : r = [] := by simpa [impl_Final_66.f] using h.symm
    have hq_ := fun (W : World) (n c : Nat) => run_eql_slice_nil (P := Try.prog) W 43 69 none n c Try.underlying43
    clear hr0 hc0 h
    go_enter Try.func66, Try.ntmps66
    go_wp2
    go_ret
    exact ⟨_, rfl, Kd.R_nil _ _ _ _ _, Below.refl _ _⟩
  | some ad_ =>
    have HR0 := Aside0.mk hr0
    have HC0 := Aside0.mk hc0
    clear hr0 hc0
    have HB := Aside0.mk (Below.refl w.heap.size w)
    have H : ((some (([] : List (S69)) : List (S69))).bind fun y692 => (if y692.length + l0.length < 5864062014805 then (some (y692 ++ l0)) else (none))) = some r := h
    clear h
    obtain ⟨y692, hy692⟩ : ∃ y_ : List (S69), y_ = (([] : List (S69))) := ⟨_, rfl⟩
    replace H : (if y692.length + l0.length < 5864062014805 then (some (y692 ++ l0)) else (none)) = some r := by first | (rw [hy692]; with_reducible exact H) | (have H2_ := (Option.bind_some _ _).symm.trans H; rw [hy692]; with_reducible exact H2_) | (have H2_ := (Option.bind_some _ _).symm.trans H; with_reducible exact H2_) | with_reducible exact H | (rw [hy692]; exact H) | exact H
    have Ny692 := Aside0.mk hy692
    clear hy692
    by_cases c2 : y692.length + l0.length < 5864062014805
    · rw [if_pos c2] at H
      have LMc2 := Aside0.mk c2
      clear c2
      obtain ⟨y695, hy695⟩ : ∃ y_ : List (S69), y_ = (y692 ++ l0) := ⟨_, rfl⟩
      replace H : (some y695) = some r := by first | (rw [hy695]; with_reducible exact H) | (have H2_ := (Option.bind_some _ _).symm.trans H; rw [hy695]; with_reducible exact H2_) | (have H2_ := (Option.bind_some _ _).symm.trans H; with_reducible exact H2_) | with_reducible exact H | (rw [hy695]; exact H) | exact H
      have Ny695 := Aside0.mk hy695
      clear hy695
      obtain rfl := Option.some.inj H
      have hq_ := fun (W : World) (n c : Nat) => run_eql_slice_nil (P := Try.prog) W 43 69 (some ad_) n c Try.underlying43
      go_enter Try.func66, Try.ntmps66
      go_wp2_with (first | ((with_reducible refine gate_dst (N := 5) rfl ?_); refine Kd.R_lit k69 _ 69 ?hg (N := 5) ?hd (xs := ([] : List (S69))) (inner := []) (ok := fun _ => True) (okp := fun _ => True) ?hr ?hp (fun _ hk => hk) trivial (Below.refl _ _) (Nat.le_refl _) (by simp) ?_; (case hd => rfl); (case hg => rfl); (case hr => first | (go_simp; done) | (go_simp; rfl)); (case hp => exact (Reps.none _ _)); intro v693 w3 ho4 hb hg_ hnew_; clear hg_ hnew_; (first | rw [← Ny692.out] at ho4 | (simp only [Int.reduceToNat] at ho4; rw [← Ny692.out] at ho4)); have n0_ := Aside0.mk (Kd.R_lower ho4 (below_size (by repeat (first | (with_reducible first | exact HB.out | apply below_alloc | apply pw_below_drewN | apply below_drew1) | exact HB.out)))); have n1_ := Aside0.mk (below_step (by repeat (first | (with_reducible first | exact HB.out | apply below_alloc | apply pw_below_drewN | apply below_drew1) | exact HB.out)) hb); clear HB; have HO694 := n0_; have HB := n1_; clear n0_ n1_; clear hb ho4) | ((with_reducible refine gate_builtin (b := .append) (xs := #[.tmp 5, .tmp 6]) rfl ?_); at_builtin; refine Kd.R_append_rows k69 (w0 := w) w.heap.size rfl (.tmp 5) (.tmp 6) 43 69 (.agg #[(.int .i64 0), (.int .i64 0), (.bool false)]) 24 rfl Try.underlying43 info69 rfl (by decide) (by omega) v693 y692 l0 _ _ _ (fun _ => True) (fun _ => False) rfl rfl ?aO ?aR (fun _ _ h => h) (fun _ h => h.elim) ?aF ?aB ?aS ?aL ?_; (case aR => repeat (first | exact (Kd.C_below HR0.out HB.out) | (with_reducible refine Kd.C_alloc ?_ _) | (with_reducible refine Kd.C_drewN ?_ _) | (with_reducible refine Kd.C_drew ?_))); (case aB => exact (by repeat (first | (with_reducible first | exact HB.out | apply below_alloc | apply pw_below_drewN | apply below_drew1) | exact HB.out))); (case aF => exact (fun _ _ => trivial)); (case aO => exact (by (with_reducible repeat (first | apply Kd.R_alloc | apply Kd.R_drewN | apply Kd.R_drew)); exact HO694.out)); (case aS => exact (below_size (by repeat (first | (with_reducible first | exact HB.out | apply below_alloc | apply pw_below_drewN | apply below_drew1) | exact HB.out)))); (case aL => have := LMc2.out; omega); intro v696 w5 ho hb hg hat; rw [← Ny695.out] at ho; have n0_ := Aside0.mk (hb); have n1_ := Aside0.mk (ho); clear HB; clear HO694; have HB := n0_; have HO697 := n1_; clear n0_ n1_; clear ho hb hg hat))
      go_ret
      exact ⟨_, by first | rfl | (simp [errW_none, errW_some] <;> rfl) | (simp [*, errW_none, errW_some] <;> rfl), by (with_reducible repeat (first | apply Kd.R_alloc | apply Kd.R_drewN | apply Kd.R_drew)); exact HO697.out, by repeat (first | (with_reducible first | exact HB.out | apply below_alloc | apply pw_below_drewN | apply below_drew1) | exact HB.out)⟩
    · rw [if_neg c2] at H
      exact absurd H (by simp)

/-! ### spec_validFinals: function 64 -/
mutual
def spec_validFinals.l0 : Nat → List (S69) → Int → Int → Option (Bool)
  | 0, _, _, _ => none
  | k + 1, x0, x1, x5 => if x5 < (x0.length : Int) then (if 0 ≤ x5 then ((spec_inRange.f ((rd_T69 x0 x5).f0) 0 (wrap64 (x1 - 1))).bind fun t703 => (if t703 = true then ((spec_inRange.f ((rd_T69 x0 x5).f1) (-1) (wrap64 (x1 - 1))).bind fun t704 => (spec_validFinals.j1 k x0 x1 x5 (!t704) ((rd_T69 x0 x5).f0) ((rd_T69 x0 x5).f1) ((rd_T69 x0 x5).f2))) else (spec_validFinals.j1 k x0 x1 x5 true ((rd_T69 x0 x5).f0) ((rd_T69 x0 x5).f1) ((rd_T69 x0 x5).f2)))) else (none)) else (some (decide ((x0.length : Int) ≤ 12)))
def spec_validFinals.j1 : Nat → List (S69) → Int → Int → Bool → Int → Int → Bool → Option (Bool)
  | 0, _, _, _, _, _, _, _ => none
  | k + 1, x0, x1, x5, x31, x703000, x703001, x703002 => if x31 = true then (some false) else (spec_validFinals.l1 k x0 x1 x5 0 x703000 x703001 x703002)
def spec_validFinals.l1 : Nat → List (S69) → Int → Int → Int → Int → Int → Bool → Option (Bool)
  | 0, _, _, _, _, _, _, _ => none
  | k + 1, x0, x1, x5, x7, x703000, x703001, x703002 => if x7 < x5 then (if 0 ≤ x7 then (if x7 < (x0.length : Int) then (if ((rd_T69 x0 x7).f0) = x703000 then (some false) else (spec_validFinals.l1 k x0 x1 x5 (wrap64 (x7 + 1)) x703000 x703001 x703002)) else (none)) else (none)) else (spec_validFinals.l0 k x0 x1 (wrap64 (x5 + 1)))
end
def spec_validFinals.f (k : Nat) (l0 : List (S69)) (a1 : Int) : Option (Bool) := spec_validFinals.l0 k l0 a1 0
theorem spec_validFinals.mono_l : ∀ k, (∀ y0 y1 y2, LeO (spec_validFinals.l0 k y0 y1 y2) (spec_validFinals.l0 (k + 1) y0 y1 y2)) ∧ (∀ y0 y1 y2 y3 y4 y5 y6, LeO (spec_validFinals.j1 k y0 y1 y2 y3 y4 y5 y6) (spec_validFinals.j1 (k + 1) y0 y1 y2 y3 y4 y5 y6)) ∧ (∀ y0 y1 y2 y3 y4 y5 y6, LeO (spec_validFinals.l1 k y0 y1 y2 y3 y4 y5 y6) (spec_validFinals.l1 (k + 1) y0 y1 y2 y3 y4 y5 y6))
  | 0 => ⟨fun _ _ _ r h => by simp [spec_validFinals.l0] at h, fun _ _ _ _ _ _ _ r h => by simp [spec_validFinals.j1] at h, fun _ _ _ _ _ _ _ r h => by simp [spec_validFinals.l1] at h⟩
  | k + 1 => by
    obtain ⟨ih0, ih1, ih2⟩ := spec_validFinals.mono_l k
    refine ⟨?_, ?_, ?_⟩
    · intro y0 y1 y2
      unfold spec_validFinals.l0
      repeat' first
      | (with_reducible exact ih0 _ _ _)
      | (with_reducible exact ih1 _ _ _ _ _ _ _)
      | (with_reducible exact ih2 _ _ _ _ _ _ _)
      | (with_reducible exact LeO.refl _)
      | (with_reducible exact LeO.none _)
      | (with_reducible refine LeO.ite ?_ ?_)
      | (with_reducible refine LeO.bind ?_ (fun _ => ?_))
      | exact ih0 _ _ _
      | exact ih1 _ _ _ _ _ _ _
      | exact ih2 _ _ _ _ _ _ _
      | exact LeO.none _
      | refine LeO.ite ?_ ?_
      | refine LeO.bind ?_ (fun _ => ?_)
    · intro y0 y1 y2 y3 y4 y5 y6
      unfold spec_validFinals.j1
      repeat' first
      | (with_reducible exact ih0 _ _ _)
      | (with_reducible exact ih1 _ _ _ _ _ _ _)
      | (with_reducible exact ih2 _ _ _ _ _ _ _)
      | (with_reducible exact LeO.refl _)
      | (with_reducible exact LeO.none _)
      | (with_reducible refine LeO.ite ?_ ?_)
      | (with_reducible refine LeO.bind ?_ (fun _ => ?_))
      | exact ih0 _ _ _
      | exact ih1 _ _ _ _ _ _ _
      | exact ih2 _ _ _ _ _ _ _
      | exact LeO.none _
      | refine LeO.ite ?_ ?_
      | refine LeO.bind ?_ (fun _ => ?_)
    · intro y0 y1 y2 y3 y4 y5 y6
      unfold spec_validFinals.l1
      repeat' first
      | (with_reducible exact ih0 _ _ _)
      | (with_reducible exact ih1 _ _ _ _ _ _ _)
      | (with_reducible exact ih2 _ _ _ _ _ _ _)
      | (with_reducible exact LeO.refl _)
      | (with_reducible exact LeO.none _)
      | (with_reducible refine LeO.ite ?_ ?_)
      | (with_reducible refine LeO.bind ?_ (fun _ => ?_))
      | exact ih0 _ _ _
      | exact ih1 _ _ _ _ _ _ _
      | exact ih2 _ _ _ _ _ _ _
      | exact LeO.none _
      | refine LeO.ite ?_ ?_
      | refine LeO.bind ?_ (fun _ => ?_)
theorem spec_validFinals.mono : ∀ a0 a1 k, LeO (spec_validFinals.f k a0 a1) (spec_validFinals.f (k + 1) a0 a1) := by
  intro a0 a1 k
  obtain ⟨ih0, ih1, ih2⟩ := spec_validFinals.mono_l k
  unfold spec_validFinals.f
  repeat' first
      | (with_reducible exact ih0 _ _ _)
      | (with_reducible exact ih1 _ _ _ _ _ _ _)
      | (with_reducible exact ih2 _ _ _ _ _ _ _)
      | (with_reducible exact LeO.refl _)
      | (with_reducible exact LeO.none _)
      | (with_reducible refine LeO.ite ?_ ?_)
      | (with_reducible refine LeO.bind ?_ (fun _ => ?_))
      | exact ih0 _ _ _
      | exact ih1 _ _ _ _ _ _ _
      | exact ih2 _ _ _ _ _ _ _
      | exact LeO.none _
      | refine LeO.ite ?_ ?_
      | refine LeO.bind ?_ (fun _ => ?_)
set_option maxHeartbeats 8000000 in
set_option maxRecDepth 100000 in
theorem spec_validFinals.calls (k : Nat) (A0 : Option Addr) (c0 : Nat) (l0 : List (S69)) (a1 : Int) (r : Bool) (w : World) (hr0 : Kd.C k69 w A0 l0.length l0) (hc0 : l0.length ≤ c0) (h : spec_validFinals.f k l0 a1 = some r) :
    Calls Try.prog 64 #[.slice A0 l0.length c0, .int .i64 a1] w fun e w' => e = .returned (.bool r) ∧ Below w.heap.size w w' := by
  have hu69 := Try.underlying69
  have HR0 := Aside0.mk hr0
  have HC0 := Aside0.mk hc0
  clear hr0 hc0
  have HB := Aside0.mk (Below.refl w.heap.size w)
  have H : (spec_validFinals.l0 k l0 a1 0) = some r := h
  clear h
  have H' := Aside0.mk H
  clear H
  go_enter Try.func64, Try.ntmps64
  go_wp2
  repeat (go_quiet (fail); try go_wp2)
  go_loopg [5] k (fun kq v5 w' => ∃ (x5_1 : Int), v5 = .int .i64 x5_1 ∧ Aside0 (spec_validFinals.l0 kq l0 a1 x5_1 = some r) ∧ Aside0 (kq ≤ k) ∧ Aside0 (Below w.heap.size w w'))
  case atStart => exact ⟨(0), (by first | rfl | (simp; done) | (simp [*]; done)), H', ⟨Nat.le_refl _⟩, ⟨by repeat (first | (with_reducible first | exact HB.out | apply below_alloc | apply pw_below_drewN | apply below_drew1) | exact HB.out)⟩⟩
  case round =>
    clear H'
    try clear p2
    obtain ⟨x5_1, rfl, HA, HK1, HB⟩ := hrel
    cases gk with
    | zero => exact absurd HA.out (by simp [spec_validFinals.l0])
    | succ k1 =>
      have H := HA.out
      clear HA
      simp only [spec_validFinals.l0] at H
      by_cases c3 : x5_1 < (l0.length : Int)
      · rw [if_pos c3] at H
        have c3b0 : decide (x5_1 < (l0.length : Int)) = true := decide_eq_true c3
        clear c3
        by_cases c4 : 0 ≤ x5_1
        · rw [if_pos c4] at H
          have c4b0 : decide (0 ≤ x5_1) = true := decide_eq_true c4
          clear c4
          have HC5 := Aside0.mk H
          clear H
          have p701 : 0 ≤ (x5_1 : Int) := of_decide_eq_true (by first | (with_reducible assumption) | assumption)
          have q701 : x5_1 < (l0.length : Int) := of_decide_eq_true (by first | (with_reducible assumption) | assumption)
          obtain ⟨ad701, e701, hx701_0, hx701_1, hx701_2⟩ := at_T69 HR0.out x5_1 p701 q701
          cases e701
          replace hx701_0 := (HB.out.cell (World.block_lt_of_cell? w _ hx701_0)).trans hx701_0
          replace hx701_1 := (HB.out.cell (World.block_lt_of_cell? w _ hx701_1)).trans hx701_1
          replace hx701_2 := (HB.out.cell (World.block_lt_of_cell? w _ hx701_2)).trans hx701_2
          replace p701 := eq_true p701
          replace q701 := eq_true q701
          go_upto_region 5 with (first | ((with_reducible refine gate_dst (N := 6) rfl ?_); refine box_event ?hg (N := 6) ?hd (cs := #[.int .i64 0, .int .i64 0, .bool false]) (t := 69) ?hr ?_; (case hd => rfl); (case hg => rfl); (case hr => first | (go_simp; done) | (go_simp; rfl)); intro gb702 hg w6 hbox hb; have n0_ := Aside0.mk (below_step (by repeat (first | (with_reducible first | exact HB.out | apply below_alloc | apply pw_below_drewN | apply below_drew1) | exact HB.out)) hb); have n1_ := Aside0.mk (hbox); have n2_ := Aside0.mk ((by rw [hg]; exact (below_size (by repeat (first | (with_reducible first | exact HB.out | apply below_alloc | apply pw_below_drewN | apply below_drew1) | exact HB.out))) : w.heap.size ≤ gb702)); have n3_ := Aside0.mk ((by rw [hg]; exact (below_size (by repeat (first | (with_reducible first | exact HB.out | apply below_alloc | apply pw_below_drewN | apply below_drew1) | exact HB.out))) : w.heap.size ≤ gb702)); clear HB; have HB := n0_; have BK702 := n1_; have GW702 := n2_; have GE702 := n3_; clear n0_ n1_ n2_ n3_; clear hb hbox hg; have hcz7_0 : w6.cell? ⟨gb702, 0, none⟩ = some (.int .i64 0) := (blk_cell BK702.out 0).trans rfl; have hcz7_1 : w6.cell? ⟨gb702, 1, none⟩ = some (.int .i64 0) := (blk_cell BK702.out 1).trans rfl; have hcz7_2 : w6.cell? ⟨gb702, 2, none⟩ = some (.bool false) := (blk_cell BK702.out 2).trans rfl; have hfz7_0 := blk_frozen BK702.out 0; have hfz7_1 := blk_frozen BK702.out 1; have hfz7_2 := blk_frozen BK702.out 2))
          repeat (go_quiet (first | ((with_reducible refine gate_dst (N := 6) rfl ?_); refine box_event ?hg (N := 6) ?hd (cs := #[.int .i64 0, .int .i64 0, .bool false]) (t := 69) ?hr ?_; (case hd => rfl); (case hg => rfl); (case hr => first | (go_simp; done) | (go_simp; rfl)); intro gb702 hg w6 hbox hb; have n0_ := Aside0.mk (below_step (by repeat (first | (with_reducible first | exact HB.out | apply below_alloc | apply pw_below_drewN | apply below_drew1) | exact HB.out)) hb); have n1_ := Aside0.mk (hbox); have n2_ := Aside0.mk ((by rw [hg]; exact (below_size (by repeat (first | (with_reducible first | exact HB.out | apply below_alloc | apply pw_below_drewN | apply below_drew1) | exact HB.out))) : w.heap.size ≤ gb702)); have n3_ := Aside0.mk ((by rw [hg]; exact (below_size (by repeat (first | (with_reducible first | exact HB.out | apply below_alloc | apply pw_below_drewN | apply below_drew1) | exact HB.out))) : w.heap.size ≤ gb702)); clear HB; have HB := n0_; have BK702 := n1_; have GW702 := n2_; have GE702 := n3_; clear n0_ n1_ n2_ n3_; clear hb hbox hg; have hcz7_0 : w6.cell? ⟨gb702, 0, none⟩ = some (.int .i64 0) := (blk_cell BK702.out 0).trans rfl; have hcz7_1 : w6.cell? ⟨gb702, 1, none⟩ = some (.int .i64 0) := (blk_cell BK702.out 1).trans rfl; have hcz7_2 : w6.cell? ⟨gb702, 2, none⟩ = some (.bool false) := (blk_cell BK702.out 2).trans rfl; have hfz7_0 := blk_frozen BK702.out 0; have hfz7_1 := blk_frozen BK702.out 1; have hfz7_2 := blk_frozen BK702.out 2)); go_upto_region 5 with (first | ((with_reducible refine gate_dst (N := 6) rfl ?_); refine box_event ?hg (N := 6) ?hd (cs := #[.int .i64 0, .int .i64 0, .bool false]) (t := 69) ?hr ?_; (case hd => rfl); (case hg => rfl); (case hr => first | (go_simp; done) | (go_simp; rfl)); intro gb702 hg w6 hbox hb; have n0_ := Aside0.mk (below_step (by repeat (first | (with_reducible first | exact HB.out | apply below_alloc | apply pw_below_drewN | apply below_drew1) | exact HB.out)) hb); have n1_ := Aside0.mk (hbox); have n2_ := Aside0.mk ((by rw [hg]; exact (below_size (by repeat (first | (with_reducible first | exact HB.out | apply below_alloc | apply pw_below_drewN | apply below_drew1) | exact HB.out))) : w.heap.size ≤ gb702)); have n3_ := Aside0.mk ((by rw [hg]; exact (below_size (by repeat (first | (with_reducible first | exact HB.out | apply below_alloc | apply pw_below_drewN | apply below_drew1) | exact HB.out))) : w.heap.size ≤ gb702)); clear HB; have HB := n0_; have BK702 := n1_; have GW702 := n2_; have GE702 := n3_; clear n0_ n1_ n2_ n3_; clear hb hbox hg; have hcz7_0 : w6.cell? ⟨gb702, 0, none⟩ = some (.int .i64 0) := (blk_cell BK702.out 0).trans rfl; have hcz7_1 : w6.cell? ⟨gb702, 1, none⟩ = some (.int .i64 0) := (blk_cell BK702.out 1).trans rfl; have hcz7_2 : w6.cell? ⟨gb702, 2, none⟩ = some (.bool false) := (blk_cell BK702.out 2).trans rfl; have hfz7_0 := blk_frozen BK702.out 0; have hfz7_1 := blk_frozen BK702.out 1; have hfz7_2 := blk_frozen BK702.out 2)))
          (try simp only [Act.put, List.setIfInBounds_toArray, List.set_cons_zero, List.set_cons_succ])
          go_cut [31] (fun v31 wc => ∃ (kq : Nat) (x31_4 : Bool), v31 = .bool x31_4 ∧ Aside0 (spec_validFinals.j1 kq l0 a1 x5_1 x31_4 ((rd_T69 l0 x5_1).f0) ((rd_T69 l0 x5_1).f1) ((rd_T69 l0 x5_1).f2) = some r) ∧ Aside0 (kq ≤ k1) ∧ Aside0 (wc.heap[gb702]? = some (.cells #[.int .i64 ((rd_T69 l0 x5_1).f0), .int .i64 ((rd_T69 l0 x5_1).f1), .bool ((rd_T69 l0 x5_1).f2)] 69 (0, 0))) ∧ Aside0 (Below w.heap.size w wc))
          case first =>
            have H := HC5.out
            clear HC5
            replace H := Option.bind_eq_some_iff.mp H
            obtain ⟨t703, A80, H⟩ := H
            replace H : (if t703 = true then ((spec_inRange.f ((rd_T69 l0 x5_1).f1) (-1) (wrap64 (a1 - 1))).bind fun t704 => (spec_validFinals.j1 k1 l0 a1 x5_1 (!t704) ((rd_T69 l0 x5_1).f0) ((rd_T69 l0 x5_1).f1) ((rd_T69 l0 x5_1).f2))) else (spec_validFinals.j1 k1 l0 a1 x5_1 true ((rd_T69 l0 x5_1).f0) ((rd_T69 l0 x5_1).f1) ((rd_T69 l0 x5_1).f2))) = some r := H
            have A8 := Aside0.mk A80
            clear A80
            by_cases c9 : t703 = true
            · subst c9
              have H1 : ((spec_inRange.f ((rd_T69 l0 x5_1).f1) (-1) (wrap64 (a1 - 1))).bind fun t704 => (spec_validFinals.j1 k1 l0 a1 x5_1 (!t704) ((rd_T69 l0 x5_1).f0) ((rd_T69 l0 x5_1).f1) ((rd_T69 l0 x5_1).f2))) = some r := by rw [if_pos rfl] at H; exact H
              clear H
              have H := H1
              clear H1
              replace H := Option.bind_eq_some_iff.mp H
              obtain ⟨t704, A100, H⟩ := H
              replace H : (spec_validFinals.j1 k1 l0 a1 x5_1 (!t704) ((rd_T69 l0 x5_1).f0) ((rd_T69 l0 x5_1).f1) ((rd_T69 l0 x5_1).f2)) = some r := H
              have A10 := Aside0.mk A100
              clear A100
              have H' := Aside0.mk H
              clear H
              have hcz11_0 : w6.cell? ⟨gb702, 0, none⟩ = some (.int .i64 0) := (blk_cell BK702.out 0).trans rfl
              have hcz11_1 : w6.cell? ⟨gb702, 1, none⟩ = some (.int .i64 0) := (blk_cell BK702.out 1).trans rfl
              have hcz11_2 : w6.cell? ⟨gb702, 2, none⟩ = some (.bool false) := (blk_cell BK702.out 2).trans rfl
              have hfz11_0 := blk_frozen BK702.out 0
              have hfz11_1 := blk_frozen BK702.out 1
              have hfz11_2 := blk_frozen BK702.out 2
              go_wp2_with (first | (go_at_call 52; (first | with_reducible refine (spec_inRange.calls ((rd_T69 l0 x5_1).f0) 0 (wrap64 (a1 - 1)) true _ A8.out).mono ?_ | (simp only [i64_w]; with_reducible refine (spec_inRange.calls ((rd_T69 l0 x5_1).f0) 0 (wrap64 (a1 - 1)) true _ A8.out).mono ?_)); rintro e w' ⟨rfl, ⟨nd, rfl⟩⟩; (try first | exact ⟨rfl, _, World.drewN_drewN _ _ _⟩ | exact ⟨rfl, _, Eq.trans (World.drewN_drewN _ _ _) (congrArg (World.drewN _) (Nat.add_assoc _ _ _))⟩)) | (go_at_call 52; (first | with_reducible refine (spec_inRange.calls ((rd_T69 l0 x5_1).f1) (-1) (wrap64 (a1 - 1)) t704 _ A10.out).mono ?_ | (simp only [i64_w]; with_reducible refine (spec_inRange.calls ((rd_T69 l0 x5_1).f1) (-1) (wrap64 (a1 - 1)) t704 _ A10.out).mono ?_)); rintro e w' ⟨rfl, ⟨nd, rfl⟩⟩; (try first | exact ⟨rfl, _, World.drewN_drewN _ _ _⟩ | exact ⟨rfl, _, Eq.trans (World.drewN_drewN _ _ _) (congrArg (World.drewN _) (Nat.add_assoc _ _ _))⟩)))
              repeat (go_quiet (first | (go_at_call 52; (first | with_reducible refine (spec_inRange.calls ((rd_T69 l0 x5_1).f0) 0 (wrap64 (a1 - 1)) true _ A8.out).mono ?_ | (simp only [i64_w]; with_reducible refine (spec_inRange.calls ((rd_T69 l0 x5_1).f0) 0 (wrap64 (a1 - 1)) true _ A8.out).mono ?_)); rintro e w' ⟨rfl, ⟨nd, rfl⟩⟩; (try first | exact ⟨rfl, _, World.drewN_drewN _ _ _⟩ | exact ⟨rfl, _, Eq.trans (World.drewN_drewN _ _ _) (congrArg (World.drewN _) (Nat.add_assoc _ _ _))⟩)) | (go_at_call 52; (first | with_reducible refine (spec_inRange.calls ((rd_T69 l0 x5_1).f1) (-1) (wrap64 (a1 - 1)) t704 _ A10.out).mono ?_ | (simp only [i64_w]; with_reducible refine (spec_inRange.calls ((rd_T69 l0 x5_1).f1) (-1) (wrap64 (a1 - 1)) t704 _ A10.out).mono ?_)); rintro e w' ⟨rfl, ⟨nd, rfl⟩⟩; (try first | exact ⟨rfl, _, World.drewN_drewN _ _ _⟩ | exact ⟨rfl, _, Eq.trans (World.drewN_drewN _ _ _) (congrArg (World.drewN _) (Nat.add_assoc _ _ _))⟩))); try go_wp2_with (first | (go_at_call 52; (first | with_reducible refine (spec_inRange.calls ((rd_T69 l0 x5_1).f0) 0 (wrap64 (a1 - 1)) true _ A8.out).mono ?_ | (simp only [i64_w]; with_reducible refine (spec_inRange.calls ((rd_T69 l0 x5_1).f0) 0 (wrap64 (a1 - 1)) true _ A8.out).mono ?_)); rintro e w' ⟨rfl, ⟨nd, rfl⟩⟩; (try first | exact ⟨rfl, _, World.drewN_drewN _ _ _⟩ | exact ⟨rfl, _, Eq.trans (World.drewN_drewN _ _ _) (congrArg (World.drewN _) (Nat.add_assoc _ _ _))⟩)) | (go_at_call 52; (first | with_reducible refine (spec_inRange.calls ((rd_T69 l0 x5_1).f1) (-1) (wrap64 (a1 - 1)) t704 _ A10.out).mono ?_ | (simp only [i64_w]; with_reducible refine (spec_inRange.calls ((rd_T69 l0 x5_1).f1) (-1) (wrap64 (a1 - 1)) t704 _ A10.out).mono ?_)); rintro e w' ⟨rfl, ⟨nd, rfl⟩⟩; (try first | exact ⟨rfl, _, World.drewN_drewN _ _ _⟩ | exact ⟨rfl, _, Eq.trans (World.drewN_drewN _ _ _) (congrArg (World.drewN _) (Nat.add_assoc _ _ _))⟩))))
              go_meet
              case rel => exact ⟨_, (!t704), (by first | rfl | (simp; done) | (simp [*]; done)), H', ⟨by have := HK1.out; first | omega | exact Nat.le_refl _⟩, ⟨by (with_reducible repeat (first | refine blk_drewN ?_ _ | refine blk_drew ?_ | refine blk_alloc ?_ _)); refine blk_put (cs := #[.int .i64 ((rd_T69 l0 x5_1).f0), .int .i64 ((rd_T69 l0 x5_1).f1), .bool false]) ?_ 2 _ rfl; (with_reducible repeat (first | refine blk_drewN ?_ _ | refine blk_drew ?_ | refine blk_alloc ?_ _)); refine blk_put (cs := #[.int .i64 ((rd_T69 l0 x5_1).f0), .int .i64 0, .bool false]) ?_ 1 _ rfl; (with_reducible repeat (first | refine blk_drewN ?_ _ | refine blk_drew ?_ | refine blk_alloc ?_ _)); refine blk_put (cs := #[.int .i64 0, .int .i64 0, .bool false]) ?_ 0 _ rfl; (with_reducible repeat (first | refine blk_drewN ?_ _ | refine blk_drew ?_ | refine blk_alloc ?_ _)); exact BK702.out⟩, ⟨by repeat (first | (with_reducible first | exact HB.out | apply below_alloc | apply pw_below_drewN | apply below_drew1 | refine below_set ?_ GE702.out) | exact HB.out)⟩⟩
            · replace c9 := Bool.eq_false_iff.mpr c9
              subst c9
              have H1 : (spec_validFinals.j1 k1 l0 a1 x5_1 true ((rd_T69 l0 x5_1).f0) ((rd_T69 l0 x5_1).f1) ((rd_T69 l0 x5_1).f2)) = some r := by rw [if_neg (show ¬ (false = true) by decide)] at H; exact H
              clear H
              have H := H1
              clear H1
              have H' := Aside0.mk H
              clear H
              have hcz12_0 : w6.cell? ⟨gb702, 0, none⟩ = some (.int .i64 0) := (blk_cell BK702.out 0).trans rfl
              have hcz12_1 : w6.cell? ⟨gb702, 1, none⟩ = some (.int .i64 0) := (blk_cell BK702.out 1).trans rfl
              have hcz12_2 : w6.cell? ⟨gb702, 2, none⟩ = some (.bool false) := (blk_cell BK702.out 2).trans rfl
              have hfz12_0 := blk_frozen BK702.out 0
              have hfz12_1 := blk_frozen BK702.out 1
              have hfz12_2 := blk_frozen BK702.out 2
              go_wp2_with (first | (go_at_call 52; (first | with_reducible refine (spec_inRange.calls ((rd_T69 l0 x5_1).f0) 0 (wrap64 (a1 - 1)) false _ A8.out).mono ?_ | (simp only [i64_w]; with_reducible refine (spec_inRange.calls ((rd_T69 l0 x5_1).f0) 0 (wrap64 (a1 - 1)) false _ A8.out).mono ?_)); rintro e w' ⟨rfl, ⟨nd, rfl⟩⟩; (try first | exact ⟨rfl, _, World.drewN_drewN _ _ _⟩ | exact ⟨rfl, _, Eq.trans (World.drewN_drewN _ _ _) (congrArg (World.drewN _) (Nat.add_assoc _ _ _))⟩)))
              repeat (go_quiet (first | (go_at_call 52; (first | with_reducible refine (spec_inRange.calls ((rd_T69 l0 x5_1).f0) 0 (wrap64 (a1 - 1)) false _ A8.out).mono ?_ | (simp only [i64_w]; with_reducible refine (spec_inRange.calls ((rd_T69 l0 x5_1).f0) 0 (wrap64 (a1 - 1)) false _ A8.out).mono ?_)); rintro e w' ⟨rfl, ⟨nd, rfl⟩⟩; (try first | exact ⟨rfl, _, World.drewN_drewN _ _ _⟩ | exact ⟨rfl, _, Eq.trans (World.drewN_drewN _ _ _) (congrArg (World.drewN _) (Nat.add_assoc _ _ _))⟩))); try go_wp2_with (first | (go_at_call 52; (first | with_reducible refine (spec_inRange.calls ((rd_T69 l0 x5_1).f0) 0 (wrap64 (a1 - 1)) false _ A8.out).mono ?_ | (simp only [i64_w]; with_reducible refine (spec_inRange.calls ((rd_T69 l0 x5_1).f0) 0 (wrap64 (a1 - 1)) false _ A8.out).mono ?_)); rintro e w' ⟨rfl, ⟨nd, rfl⟩⟩; (try first | exact ⟨rfl, _, World.drewN_drewN _ _ _⟩ | exact ⟨rfl, _, Eq.trans (World.drewN_drewN _ _ _) (congrArg (World.drewN _) (Nat.add_assoc _ _ _))⟩))))
              go_meet
              case rel => exact ⟨_, (true), (by first | rfl | (simp; done) | (simp [*]; done)), H', ⟨by have := HK1.out; first | omega | exact Nat.le_refl _⟩, ⟨by (with_reducible repeat (first | refine blk_drewN ?_ _ | refine blk_drew ?_ | refine blk_alloc ?_ _)); refine blk_put (cs := #[.int .i64 ((rd_T69 l0 x5_1).f0), .int .i64 ((rd_T69 l0 x5_1).f1), .bool false]) ?_ 2 _ rfl; (with_reducible repeat (first | refine blk_drewN ?_ _ | refine blk_drew ?_ | refine blk_alloc ?_ _)); refine blk_put (cs := #[.int .i64 ((rd_T69 l0 x5_1).f0), .int .i64 0, .bool false]) ?_ 1 _ rfl; (with_reducible repeat (first | refine blk_drewN ?_ _ | refine blk_drew ?_ | refine blk_alloc ?_ _)); refine blk_put (cs := #[.int .i64 0, .int .i64 0, .bool false]) ?_ 0 _ rfl; (with_reducible repeat (first | refine blk_drewN ?_ _ | refine blk_drew ?_ | refine blk_alloc ?_ _)); exact BK702.out⟩, ⟨by repeat (first | (with_reducible first | exact HB.out | apply below_alloc | apply pw_below_drewN | apply below_drew1 | refine below_set ?_ GE702.out) | exact HB.out)⟩⟩
          case rest =>
            clear HC5
            try clear p2
            try clear c3
            try clear c3b0
            try clear c4
            try clear c4b0
            try clear c6
            try clear p6
            try clear p7
            try clear q7
            try clear hx7
            try clear c9
            try clear hcz11_0
            try clear hcz11_1
            try clear hcz11_2
            try clear hcz12_0
            try clear hcz12_1
            try clear hcz12_2
            try clear hcz7_0
            try clear hcz7_1
            try clear hcz7_2
            try clear hfz11_0
            try clear hfz11_1
            try clear hfz11_2
            try clear hfz12_0
            try clear hfz12_1
            try clear hfz12_2
            try clear hfz7_0
            try clear hfz7_1
            try clear hfz7_2
            try clear hx701_0
            try clear hx701_1
            try clear hx701_2
            try clear p2
            try clear p701
            try clear q701
            obtain ⟨kq, x31_4, rfl, HA, HJ4, BK702, HB⟩ := hcut
            cases kq with
            | zero => exact absurd HA.out (by simp [spec_validFinals.j1])
            | succ kj4 =>
              have H := HA.out
              clear HA
              simp only [spec_validFinals.j1] at H
              by_cases c13 : x31_4 = true
              · subst c13
                have H1 : (some false) = some r := by rw [if_pos rfl] at H; exact H
                clear H
                have H := H1
                clear H1
                obtain rfl := Option.some.inj H
                go_wp2
                repeat (go_quiet (fail); try go_wp2)
                go_ret
                exact ⟨by first | rfl | (simp [errW_none, errW_some] <;> rfl) | (simp [*, errW_none, errW_some] <;> rfl), by repeat (first | (with_reducible first | exact HB.out | apply below_alloc | apply pw_below_drewN | apply below_drew1 | refine below_set ?_ GE702.out) | exact HB.out)⟩
              · replace c13 := Bool.eq_false_iff.mpr c13
                subst c13
                have H1 : (spec_validFinals.l1 kj4 l0 a1 x5_1 0 ((rd_T69 l0 x5_1).f0) ((rd_T69 l0 x5_1).f1) ((rd_T69 l0 x5_1).f2)) = some r := by rw [if_neg (show ¬ (false = true) by decide)] at H; exact H
                clear H
                have H := H1
                clear H1
                have H' := Aside0.mk H
                clear H
                go_wp2
                repeat (go_quiet (fail); try go_wp2)
                go_loopg [7] kj4 (fun kq v7 w' => ∃ (x7_3 : Int), v7 = .int .i64 x7_3 ∧ Aside0 (spec_validFinals.l1 kq l0 a1 x5_1 x7_3 ((rd_T69 l0 x5_1).f0) ((rd_T69 l0 x5_1).f1) ((rd_T69 l0 x5_1).f2) = some r) ∧ Aside0 (kq ≤ kj4) ∧ Aside0 (w'.heap[gb702]? = some (.cells #[.int .i64 ((rd_T69 l0 x5_1).f0), .int .i64 ((rd_T69 l0 x5_1).f1), .bool ((rd_T69 l0 x5_1).f2)] 69 (0, 0))) ∧ Aside0 (Below w.heap.size w w'))
                case atStart => exact ⟨(0), (by first | rfl | (simp; done) | (simp [*]; done)), H', ⟨Nat.le_refl _⟩, ⟨by (with_reducible repeat (first | refine blk_drewN ?_ _ | refine blk_drew ?_ | refine blk_alloc ?_ _)); exact BK702.out⟩, ⟨by repeat (first | (with_reducible first | exact HB.out | apply below_alloc | apply pw_below_drewN | apply below_drew1 | refine below_set ?_ GE702.out) | exact HB.out)⟩⟩
                case round =>
                  clear H'
                  try clear c1
                  try clear p2
                  try clear c3
                  try clear c3b0
                  try clear c4
                  try clear c4b0
                  try clear c6
                  try clear p6
                  try clear p7
                  try clear q7
                  try clear hx7
                  try clear c9
                  try clear c13
                  try clear hcz11_0
                  try clear hcz11_1
                  try clear hcz11_2
                  try clear hcz12_0
                  try clear hcz12_1
                  try clear hcz12_2
                  try clear hcz7_0
                  try clear hcz7_1
                  try clear hcz7_2
                  try clear hfz11_0
                  try clear hfz11_1
                  try clear hfz11_2
                  try clear hfz12_0
                  try clear hfz12_1
                  try clear hfz12_2
                  try clear hfz7_0
                  try clear hfz7_1
                  try clear hfz7_2
                  try clear hx701_0
                  try clear hx701_1
                  try clear hx701_2
                  try clear p2
                  try clear p6
                  try clear p7
                  try clear p701
                  try clear q7
                  try clear q701
                  obtain ⟨x7_3, rfl, HA, HK3, BK702, HB⟩ := hrel
                  cases gk with
                  | zero => exact absurd HA.out (by simp [spec_validFinals.l1])
                  | succ k3 =>
                    have H := HA.out
                    clear HA
                    simp only [spec_validFinals.l1] at H
                    by_cases c14 : x7_3 < x5_1
                    · rw [if_pos c14] at H
                      have c14b0 : decide (x7_3 < x5_1) = true := decide_eq_true c14
                      clear c14
                      by_cases c15 : 0 ≤ x7_3
                      · rw [if_pos c15] at H
                        have c15b0 : decide (0 ≤ x7_3) = true := decide_eq_true c15
                        clear c15
                        by_cases c16 : x7_3 < (l0.length : Int)
                        · rw [if_pos c16] at H
                          have c16b0 : decide (x7_3 < (l0.length : Int)) = true := decide_eq_true c16
                          clear c16
                          by_cases c17 : ((rd_T69 l0 x7_3).f0) = ((rd_T69 l0 x5_1).f0)
                          · rw [if_pos c17] at H
                            have c17b0 : (((rd_T69 l0 x7_3).f0) == ((rd_T69 l0 x5_1).f0)) = true := beq_iff_eq.mpr c17
                            have c17b1 : (((rd_T69 l0 x7_3).f0) != ((rd_T69 l0 x5_1).f0)) = false := bne_eq_false_iff_eq.mpr c17
                            clear c17
                            obtain rfl := Option.some.inj H
                            have p705 : 0 ≤ (x7_3 : Int) := of_decide_eq_true (by first | (with_reducible assumption) | assumption)
                            have q705 : x7_3 < (l0.length : Int) := of_decide_eq_true (by first | (with_reducible assumption) | assumption)
                            obtain ⟨ad705, e705, hx705_0, hx705_1, hx705_2⟩ := at_T69 HR0.out x7_3 p705 q705
                            obtain rfl : ad701 = ad705 := (by injection e705)
                            replace hx705_0 := (HB.out.cell (World.block_lt_of_cell? w _ hx705_0)).trans hx705_0
                            replace hx705_1 := (HB.out.cell (World.block_lt_of_cell? w _ hx705_1)).trans hx705_1
                            replace hx705_2 := (HB.out.cell (World.block_lt_of_cell? w _ hx705_2)).trans hx705_2
                            replace p705 := eq_true p705
                            replace q705 := eq_true q705
                            have hcz18_0 : wr.cell? ⟨gb702, 0, none⟩ = some (.int .i64 ((rd_T69 l0 x5_1).f0)) := (blk_cell BK702.out 0).trans rfl
                            have hcz18_1 : wr.cell? ⟨gb702, 1, none⟩ = some (.int .i64 ((rd_T69 l0 x5_1).f1)) := (blk_cell BK702.out 1).trans rfl
                            have hcz18_2 : wr.cell? ⟨gb702, 2, none⟩ = some (.bool ((rd_T69 l0 x5_1).f2)) := (blk_cell BK702.out 2).trans rfl
                            have hfz18_0 := blk_frozen BK702.out 0
                            have hfz18_1 := blk_frozen BK702.out 1
                            have hfz18_2 := blk_frozen BK702.out 2
                            go_wp2
                            repeat (go_quiet (fail); try go_wp2)
                            go_ret
                            exact ⟨by first | rfl | (simp [errW_none, errW_some] <;> rfl) | (simp [*, errW_none, errW_some] <;> rfl), by repeat (first | (with_reducible first | exact HB.out | apply below_alloc | apply pw_below_drewN | apply below_drew1 | refine below_set ?_ GE702.out) | exact HB.out)⟩
                          · rw [if_neg c17] at H
                            have c17b0 : (((rd_T69 l0 x7_3).f0) == ((rd_T69 l0 x5_1).f0)) = false := beq_eq_false_iff_ne.mpr c17
                            have c17b1 : (((rd_T69 l0 x7_3).f0) != ((rd_T69 l0 x5_1).f0)) = true := bne_iff_ne.mpr c17
                            have H' := Aside0.mk H
                            clear H
                            have p705 : 0 ≤ (x7_3 : Int) := of_decide_eq_true (by first | (with_reducible assumption) | assumption)
                            have q705 : x7_3 < (l0.length : Int) := of_decide_eq_true (by first | (with_reducible assumption) | assumption)
                            obtain ⟨ad705, e705, hx705_0, hx705_1, hx705_2⟩ := at_T69 HR0.out x7_3 p705 q705
                            obtain rfl : ad701 = ad705 := (by injection e705)
                            replace hx705_0 := (HB.out.cell (World.block_lt_of_cell? w _ hx705_0)).trans hx705_0
                            replace hx705_1 := (HB.out.cell (World.block_lt_of_cell? w _ hx705_1)).trans hx705_1
                            replace hx705_2 := (HB.out.cell (World.block_lt_of_cell? w _ hx705_2)).trans hx705_2
                            replace p705 := eq_true p705
                            replace q705 := eq_true q705
                            have hcz19_0 : wr.cell? ⟨gb702, 0, none⟩ = some (.int .i64 ((rd_T69 l0 x5_1).f0)) := (blk_cell BK702.out 0).trans rfl
                            have hcz19_1 : wr.cell? ⟨gb702, 1, none⟩ = some (.int .i64 ((rd_T69 l0 x5_1).f1)) := (blk_cell BK702.out 1).trans rfl
                            have hcz19_2 : wr.cell? ⟨gb702, 2, none⟩ = some (.bool ((rd_T69 l0 x5_1).f2)) := (blk_cell BK702.out 2).trans rfl
                            have hfz19_0 := blk_frozen BK702.out 0
                            have hfz19_1 := blk_frozen BK702.out 1
                            have hfz19_2 := blk_frozen BK702.out 2
                            go_wp2
                            repeat (go_quiet (fail); try go_wp2)
                            go_roundg k3
                            case measure => have := HK1.out; have := HJ4.out; have := HK3.out; omega
                            case rel => exact ⟨(wrap64 (x7_3 + 1)), (by first | rfl | (simp; done) | (simp [*]; done)), H', ⟨by have := HK1.out; have := HJ4.out; have := HK3.out; omega⟩, ⟨by (with_reducible repeat (first | refine blk_drewN ?_ _ | refine blk_drew ?_ | refine blk_alloc ?_ _)); exact BK702.out⟩, ⟨by repeat (first | (with_reducible first | exact HB.out | apply below_alloc | apply pw_below_drewN | apply below_drew1 | refine below_set ?_ GE702.out) | exact HB.out)⟩⟩
                        · rw [if_neg c16] at H
                          exact absurd H (by simp)
                      · rw [if_neg c15] at H
                        exact absurd H (by simp)
                    · rw [if_neg c14] at H
                      have c14b0 : decide (x7_3 < x5_1) = false := decide_eq_false c14
                      clear c14
                      have H' := Aside0.mk H
                      clear H
                      go_wp2
                      repeat (go_quiet (fail); try go_wp2)
                      go_roundg k3
                      case measure => have := HK1.out; have := HJ4.out; have := HK3.out; omega
                      case rel => exact ⟨(wrap64 (x5_1 + 1)), (by first | rfl | (simp; done) | (simp [*]; done)), H', ⟨by have := HK1.out; have := HJ4.out; have := HK3.out; omega⟩, ⟨by repeat (first | (with_reducible first | exact HB.out | apply below_alloc | apply pw_below_drewN | apply below_drew1 | refine below_set ?_ GE702.out) | exact HB.out)⟩⟩
        · rw [if_neg c4] at H
          exact absurd H (by simp)
      · rw [if_neg c3] at H
        have c3b0 : decide (x5_1 < (l0.length : Int)) = false := decide_eq_false c3
        clear c3
        obtain rfl := Option.some.inj H
        go_wp2
        repeat (go_quiet (fail); try go_wp2)
        go_ret
        exact ⟨by first | rfl | (simp [errW_none, errW_some] <;> rfl) | (simp [*, errW_none, errW_some] <;> rfl), by repeat (first | (with_reducible first | exact HB.out | apply below_alloc | apply pw_below_drewN | apply below_drew1) | exact HB.out)⟩

/-! ### spec_indices: function 79 -/
def spec_indices.l0 : Nat → List Bool → Bool → List Int → Int → Option (List Int)
  | 0, _, _, _, _ => none
  | k + 1, x0, x1, x5, x6 => if x6 < (x0.length : Int) then (if 0 ≤ x6 then (if ((rdOf false x0 x6) == x1) = true then (if x5.length < 17592186044416 then (spec_indices.l0 k x0 x1 (x5 ++ [x6]) (wrap64 (x6 + 1))) else (none)) else (spec_indices.l0 k x0 x1 x5 (wrap64 (x6 + 1)))) else (none)) else (some x5)
def spec_indices.f (k : Nat) (l0 : List Bool) (a1 : Bool) : Option (List Int) := spec_indices.l0 k l0 a1 (([] : List Int)) 0
theorem spec_indices.mono_l : ∀ k, (∀ y0 y1 y2 y3, LeO (spec_indices.l0 k y0 y1 y2 y3) (spec_indices.l0 (k + 1) y0 y1 y2 y3))
  | 0 => fun _ _ _ _ r h => by simp [spec_indices.l0] at h
  | k + 1 => by
    have ih0 := spec_indices.mono_l k
    · intro y0 y1 y2 y3
      unfold spec_indices.l0
      repeat' first
      | (with_reducible exact ih0 _ _ _ _)
      | (with_reducible exact LeO.refl _)
      | (with_reducible exact LeO.none _)
      | (with_reducible refine LeO.ite ?_ ?_)
      | (with_reducible refine LeO.bind ?_ (fun _ => ?_))
      | exact ih0 _ _ _ _
      | exact LeO.none _
      | refine LeO.ite ?_ ?_
      | refine LeO.bind ?_ (fun _ => ?_)
theorem spec_indices.mono : ∀ a0 a1 k, LeO (spec_indices.f k a0 a1) (spec_indices.f (k + 1) a0 a1) := by
  intro a0 a1 k
  have ih0 := spec_indices.mono_l k
  unfold spec_indices.f
  repeat' first
      | (with_reducible exact ih0 _ _ _ _)
      | (with_reducible exact LeO.refl _)
      | (with_reducible exact LeO.none _)
      | (with_reducible refine LeO.ite ?_ ?_)
      | (with_reducible refine LeO.bind ?_ (fun _ => ?_))
      | exact ih0 _ _ _ _
      | exact LeO.none _
      | refine LeO.ite ?_ ?_
      | refine LeO.bind ?_ (fun _ => ?_)
set_option maxHeartbeats 8000000 in
set_option maxRecDepth 100000 in
theorem spec_indices.calls (k : Nat) (A0 : Option Addr) (c0 : Nat) (l0 : List Bool) (a1 : Bool) (r : List Int) (w : World) (hr0 : Kd.C Kd.bool w A0 l0.length l0) (hc0 : l0.length ≤ c0) (h : spec_indices.f k l0 a1 = some r) :
    Calls Try.prog 79 #[.slice A0 l0.length c0, .bool a1] w fun e w' => ∃ v0_ : Value, e = .returned (v0_) ∧ Kd.R (Kd.int .i64) 3 w' w.heap.size (fun _ => True) v0_ r ∧ Below w.heap.size w w' := by
  have HR0 := Aside0.mk hr0
  have HC0 := Aside0.mk hc0
  clear hr0 hc0
  have HB := Aside0.mk (Below.refl w.heap.size w)
  have H : (spec_indices.l0 k l0 a1 (([] : List Int)) 0) = some r := h
  clear h
  obtain ⟨y706, hy706⟩ : ∃ y_ : List Int, y_ = (([] : List Int)) := ⟨_, rfl⟩
  replace H : (spec_indices.l0 k l0 a1 y706 0) = some r := by first | (rw [hy706]; with_reducible exact H) | (have H2_ := (Option.bind_some _ _).symm.trans H; rw [hy706]; with_reducible exact H2_) | (have H2_ := (Option.bind_some _ _).symm.trans H; with_reducible exact H2_) | with_reducible exact H | (rw [hy706]; exact H) | exact H
  have Ny706 := Aside0.mk hy706
  clear hy706
  have H' := Aside0.mk H
  clear H
  go_enter Try.func79, Try.ntmps79
  go_wp2_with (first | ((with_reducible refine gate_dst (N := 7) rfl ?_); refine Kd.R_lit (Kd.int .i64) _ 3 ?hg (N := 7) ?hd (xs := ([] : List Int)) (inner := []) (ok := fun _ => True) (okp := fun _ => True) ?hr ?hp (fun _ hk => hk) trivial (Below.refl _ _) (Nat.le_refl _) (by simp) ?_; (case hd => rfl); (case hg => rfl); (case hr => first | (go_simp; done) | (go_simp; rfl)); (case hp => exact (Reps.none _ _)); intro v707 w3 ho4 hb hg_ hnew_; clear hg_ hnew_; (first | rw [← Ny706.out] at ho4 | (simp only [Int.reduceToNat] at ho4; rw [← Ny706.out] at ho4)); have n0_ := Aside0.mk (Kd.R_lower ho4 (below_size (by repeat (first | (with_reducible first | exact HB.out | apply below_alloc | apply pw_below_drewN | apply below_drew1) | exact HB.out)))); have n1_ := Aside0.mk (below_step (by repeat (first | (with_reducible first | exact HB.out | apply below_alloc | apply pw_below_drewN | apply below_drew1) | exact HB.out)) hb); clear HB; have HO708 := n0_; have HB := n1_; clear n0_ n1_; clear hb ho4))
  go_loopg [5, 6] k (fun kq v5 v6 w' => ∃ (x5_1 : List Int) (x6_1 : Int), v6 = .int .i64 x6_1 ∧ Aside0 (spec_indices.l0 kq l0 a1 x5_1 x6_1 = some r) ∧ Aside0 (kq ≤ k) ∧ Aside0 (Kd.R (Kd.int .i64) 3 w' w.heap.size (fun _ => True) v5 x5_1) ∧ Aside0 (Below w.heap.size w w'))
  case atStart => exact ⟨(y706), (0), (by first | rfl | (simp; done) | (simp [*]; done)), H', ⟨Nat.le_refl _⟩, ⟨by (with_reducible repeat (first | apply Kd.R_alloc | apply Kd.R_drewN | apply Kd.R_drew)); exact HO708.out⟩, ⟨by repeat (first | (with_reducible first | exact HB.out | apply below_alloc | apply pw_below_drewN | apply below_drew1) | exact HB.out)⟩⟩
  case round =>
    clear H'
    try clear p2
    obtain ⟨x5_1, x6_1, rfl, HA, HK1, HO_5, HB⟩ := hrel
    cases gk with
    | zero => exact absurd HA.out (by simp [spec_indices.l0])
    | succ k1 =>
      have H := HA.out
      clear HA
      simp only [spec_indices.l0] at H
      by_cases c5 : x6_1 < (l0.length : Int)
      · rw [if_pos c5] at H
        have c5b0 : decide (x6_1 < (l0.length : Int)) = true := decide_eq_true c5
        clear c5
        by_cases c6 : 0 ≤ x6_1
        · rw [if_pos c6] at H
          have c6b0 : decide (0 ≤ x6_1) = true := decide_eq_true c6
          clear c6
          by_cases c7 : ((rdOf false l0 x6_1) == a1) = true
          · rw [if_pos c7] at H
            have c7b0 : ((rdOf false l0 x6_1) == a1) = true := c7
            (try (have c7b1 : decide ((rdOf false l0 x6_1) = a1) = true := by simpa using c7))
            (try (have c7b2 : ((rdOf false l0 x6_1) == a1) = true := by simpa using c7))
            clear c7
            by_cases c8 : x5_1.length < 17592186044416
            · rw [if_pos c8] at H
              have LMc8 := Aside0.mk c8
              clear c8
              obtain ⟨y710, hy710⟩ : ∃ y_ : List Int, y_ = (x5_1 ++ [x6_1]) := ⟨_, rfl⟩
              replace H : (spec_indices.l0 k1 l0 a1 y710 (wrap64 (x6_1 + 1))) = some r := by first | (rw [hy710]; with_reducible exact H) | (have H2_ := (Option.bind_some _ _).symm.trans H; rw [hy710]; with_reducible exact H2_) | (have H2_ := (Option.bind_some _ _).symm.trans H; with_reducible exact H2_) | with_reducible exact H | (rw [hy710]; exact H) | exact H
              have Ny710 := Aside0.mk hy710
              clear hy710
              have H' := Aside0.mk H
              clear H
              have p709 : 0 ≤ (x6_1 : Int) := of_decide_eq_true (by first | (with_reducible assumption) | assumption)
              have q709 : x6_1 < (l0.length : Int) := of_decide_eq_true (by first | (with_reducible assumption) | assumption)
              obtain ⟨ad709, e709, hx709_0⟩ := Kd.at_bool HR0.out x6_1 p709 q709
              cases e709
              replace hx709_0 := (HB.out.cell (World.block_lt_of_cell? w _ hx709_0)).trans hx709_0
              replace p709 := eq_true p709
              replace q709 := eq_true q709
              go_wp2_with (first | ((with_reducible refine gate_builtin (b := .append) (xs := #[.tmp 20, .tmp 22]) rfl ?_); at_builtin; refine Kd.R_append (Kd.int .i64) (w0 := w) w.heap.size rfl (.tmp 20) (.tmp 22) 24 3 (.int .i64 0) 8 rfl Try.underlying24 info3 rfl (by decide) (by omega) u5 x5_1 x6_1 [.int .i64 x6_1] (fun _ => True) (fun _ => False) rfl rfl ?aP (fun _ hk => hk.elim) ?aF ?aO ?aB ?aS ?aL ?_; (case aP => exact rfl); (case aB => exact (by repeat (first | (with_reducible first | exact HB.out | apply below_alloc | apply pw_below_drewN | apply below_drew1) | exact HB.out))); (case aF => exact (fun _ _ => trivial)); (case aO => exact (by (with_reducible repeat (first | apply Kd.R_alloc | apply Kd.R_drewN | apply Kd.R_drew)); exact HO_5.out)); (case aS => exact (below_size (by repeat (first | (with_reducible first | exact HB.out | apply below_alloc | apply pw_below_drewN | apply below_drew1) | exact HB.out)))); (case aL => have := LMc8.out; omega); intro v711 w9 ho hb hg hat; rw [← Ny710.out] at ho; have n0_ := Aside0.mk (hb); have n1_ := Aside0.mk (ho); clear HB; clear HO_5; have HB := n0_; have HO712 := n1_; clear n0_ n1_; clear ho hb hg hat))
              go_roundg k1
              case measure => have := HK1.out; omega
              case rel => exact ⟨(y710), (wrap64 (x6_1 + 1)), (by first | rfl | (simp; done) | (simp [*]; done)), H', ⟨by have := HK1.out; omega⟩, ⟨by (with_reducible repeat (first | apply Kd.R_alloc | apply Kd.R_drewN | apply Kd.R_drew)); exact HO712.out⟩, ⟨by repeat (first | (with_reducible first | exact HB.out | apply below_alloc | apply pw_below_drewN | apply below_drew1) | exact HB.out)⟩⟩
            · rw [if_neg c8] at H
              exact absurd H (by simp)
          · rw [if_neg c7] at H
            have c7b0 : ((rdOf false l0 x6_1) == a1) = false := by simpa using c7
            (try (have c7b1 : decide ((rdOf false l0 x6_1) = a1) = false := by simpa using c7))
            (try (have c7b2 : ((rdOf false l0 x6_1) == a1) = false := by simpa using c7))
            (try (have c7b3 : ¬ ((rdOf false l0 x6_1) = a1) := by simpa using c7))
            clear c7
            have H' := Aside0.mk H
            clear H
            have p709 : 0 ≤ (x6_1 : Int) := of_decide_eq_true (by first | (with_reducible assumption) | assumption)
            have q709 : x6_1 < (l0.length : Int) := of_decide_eq_true (by first | (with_reducible assumption) | assumption)
            obtain ⟨ad709, e709, hx709_0⟩ := Kd.at_bool HR0.out x6_1 p709 q709
            cases e709
            replace hx709_0 := (HB.out.cell (World.block_lt_of_cell? w _ hx709_0)).trans hx709_0
            replace p709 := eq_true p709
            replace q709 := eq_true q709
            go_wp2
            go_roundg k1
            case measure => have := HK1.out; omega
            case rel => exact ⟨(x5_1), (wrap64 (x6_1 + 1)), (by first | rfl | (simp; done) | (simp [*]; done)), H', ⟨by have := HK1.out; omega⟩, ⟨by (with_reducible repeat (first | apply Kd.R_alloc | apply Kd.R_drewN | apply Kd.R_drew)); exact HO_5.out⟩, ⟨by repeat (first | (with_reducible first | exact HB.out | apply below_alloc | apply pw_below_drewN | apply below_drew1) | exact HB.out)⟩⟩
        · rw [if_neg c6] at H
          exact absurd H (by simp)
      · rw [if_neg c5] at H
        have c5b0 : decide (x6_1 < (l0.length : Int)) = false := decide_eq_false c5
        clear c5
        obtain rfl := Option.some.inj H
        go_wp2
        go_ret
        exact ⟨_, by first | rfl | (simp [errW_none, errW_some] <;> rfl) | (simp [*, errW_none, errW_some] <;> rfl), by (with_reducible repeat (first | apply Kd.R_alloc | apply Kd.R_drewN | apply Kd.R_drew)); exact HO_5.out, by repeat (first | (with_reducible first | exact HB.out | apply below_alloc | apply pw_below_drewN | apply below_drew1) | exact HB.out)⟩

end Go.Proofs.Ytdhjkfoijaifcaa.Q
