-- Printed by a program of this project's own, for this seat.
import Derived.Test.YtljieofkagmdaaaQ0
namespace Go.Proofs.Ytljieofkagmdaaa.Q
open Go.RowKit Go.Proofs.YtljieofkagmdaaaW.PrintWords Go.Proofs.YtljieofkagmdaaaW.PrintLast Go.Proofs.YtljieofkagmdaaaW.PrintMore
attribute [local go_sem] max2_int min2_int max_two min_two max_three min_three max_four min_four   -- for this text's walks alone
set_option linter.unusedVariables false
set_option linter.unusedSimpArgs false

/-! ### spec_released: function 67 -/
mutual
def spec_released.l0 : Nat → List (List Int) → List Int → List Int → List Int → Option (List Int × List Int)
  | 0, _, _, _, _ => none
  | k + 1, x0, x1, x7, x8 => if (x8.length : Int) > 0 then (if 0 ≤ (wrap64 ((x8.length : Int) - 1)) then (if (wrap64 ((x8.length : Int) - 1)) < (x8.length : Int) then ((some (([] : List Int) : List Int)).bind fun y512 => (if (wrap64 ((x8.length : Int) - 1)) ≤ (x8.length : Int) then ((some (x8.take ((wrap64 ((x8.length : Int) - 1)) : Int).toNat : List Int)).bind fun y515 => (if y512.length + y515.length < 17592186044416 then (if x7.length < 17592186044416 then (spec_released.l1 k x0 x1 (x7 ++ [rd x8 (wrap64 ((x8.length : Int) - 1))]) (y512 ++ y515) (rd x8 (wrap64 ((x8.length : Int) - 1))) 0) else (none)) else (none))) else (none))) else (none)) else (none)) else (some (x7, x1))
def spec_released.l1 : Nat → List (List Int) → List Int → List Int → List Int → Int → Int → Option (List Int × List Int)
  | 0, _, _, _, _, _, _ => none
  | k + 1, x0, x1, x7, x8, x9, x10 => if 0 ≤ x9 then (if x9 < (x0.length : Int) then (if x10 < ((rd_L2 x0 x9).length : Int) then (if 0 ≤ x10 then (if 0 ≤ (rd (rd_L2 x0 x9) x10) then (if (rd (rd_L2 x0 x9) x10) < (x1.length : Int) then ((some (x1.set ((rd (rd_L2 x0 x9) x10) : Int).toNat (wrap64 ((rd x1 (rd (rd_L2 x0 x9) x10)) - 1)) : List Int)).bind fun y529 => (if (rd y529 (rd (rd_L2 x0 x9) x10)) = 0 then (if x8.length < 17592186044416 then (spec_released.l1 k x0 y529 x7 (x8 ++ [rd (rd_L2 x0 x9) x10]) x9 (wrap64 (x10 + 1))) else (none)) else (spec_released.l1 k x0 y529 x7 x8 x9 (wrap64 (x10 + 1))))) else (none)) else (none)) else (none)) else (spec_released.l0 k x0 x1 x7 x8)) else (none)) else (none)
end
def spec_released.f (k : Nat) (l0 : List (List Int)) (l1 : List Int) (l2 : List Int) : Option (List Int × List Int) := (some (([] : List Int) : List Int)).bind fun y505 => (if y505.length + l2.length < 17592186044416 then (spec_released.l0 k l0 l1 (([] : List Int)) (y505 ++ l2)) else (none))
theorem spec_released.mono_l : ∀ k, (∀ y0 y1 y2 y3, LeO (spec_released.l0 k y0 y1 y2 y3) (spec_released.l0 (k + 1) y0 y1 y2 y3)) ∧ (∀ y0 y1 y2 y3 y4 y5, LeO (spec_released.l1 k y0 y1 y2 y3 y4 y5) (spec_released.l1 (k + 1) y0 y1 y2 y3 y4 y5))
  | 0 => ⟨fun _ _ _ _ r h => by simp [spec_released.l0] at h, fun _ _ _ _ _ _ r h => by simp [spec_released.l1] at h⟩
  | k + 1 => by
    obtain ⟨ih0, ih1⟩ := spec_released.mono_l k
    refine ⟨?_, ?_⟩
    · intro y0 y1 y2 y3
      unfold spec_released.l0
      repeat' first
      | (with_reducible exact ih0 _ _ _ _)
      | (with_reducible exact ih1 _ _ _ _ _ _)
      | (with_reducible exact LeO.refl _)
      | (with_reducible exact LeO.none _)
      | (with_reducible refine LeO.ite ?_ ?_)
      | (with_reducible refine LeO.bind ?_ (fun _ => ?_))
      | exact ih0 _ _ _ _
      | exact ih1 _ _ _ _ _ _
      | exact LeO.none _
      | refine LeO.ite ?_ ?_
      | refine LeO.bind ?_ (fun _ => ?_)
    · intro y0 y1 y2 y3 y4 y5
      unfold spec_released.l1
      repeat' first
      | (with_reducible exact ih0 _ _ _ _)
      | (with_reducible exact ih1 _ _ _ _ _ _)
      | (with_reducible exact LeO.refl _)
      | (with_reducible exact LeO.none _)
      | (with_reducible refine LeO.ite ?_ ?_)
      | (with_reducible refine LeO.bind ?_ (fun _ => ?_))
      | exact ih0 _ _ _ _
      | exact ih1 _ _ _ _ _ _
      | exact LeO.none _
      | refine LeO.ite ?_ ?_
      | refine LeO.bind ?_ (fun _ => ?_)
theorem spec_released.mono : ∀ a0 a1 a2 k, LeO (spec_released.f k a0 a1 a2) (spec_released.f (k + 1) a0 a1 a2) := by
  intro a0 a1 a2 k
  obtain ⟨ih0, ih1⟩ := spec_released.mono_l k
  unfold spec_released.f
  repeat' first
      | (with_reducible exact ih0 _ _ _ _)
      | (with_reducible exact ih1 _ _ _ _ _ _)
      | (with_reducible exact LeO.refl _)
      | (with_reducible exact LeO.none _)
      | (with_reducible refine LeO.ite ?_ ?_)
      | (with_reducible refine LeO.bind ?_ (fun _ => ?_))
      | exact ih0 _ _ _ _
      | exact ih1 _ _ _ _ _ _
      | exact LeO.none _
      | refine LeO.ite ?_ ?_
      | refine LeO.bind ?_ (fun _ => ?_)
set_option maxHeartbeats 8000000 in
set_option maxRecDepth 100000 in
theorem spec_released.calls (k : Nat) (A0 : Option Addr) (c0 : Nat) (l0 : List (List Int)) (P1_ : Nat → Prop) (u9000_ : Value) (l1 : List Int) (A2 : Option Addr) (c2 : Nat) (l2 : List Int) (r1 : List Int) (r2 : List Int) (w0 w : World) (hB : Below w0.heap.size w0 w) (hr0 : ∀ W_, Kept w W_ (fun k_ => P1_ k_) → Kd.C (Kd.slice 3 (Kd.int .i64)) W_ A0 l0.length l0) (hc0 : l0.length ≤ c0) (ho1 : Kd.R (Kd.int .i64) 3 w w0.heap.size P1_ u9000_ l1) (hr2 : ∀ W_, Kept w W_ (fun k_ => P1_ k_) → Kd.C (Kd.int .i64) W_ A2 l2.length l2) (hc2 : l2.length ≤ c2) (h : spec_released.f k l0 l1 l2 = some (r1, r2)) :
    Calls Try.prog 67 #[.slice A0 l0.length c0, u9000_, .slice A2 l2.length c2] w fun e w' => ∃ v0_ : Value, e = .returned (v0_) ∧ Kd.R (Kd.int .i64) 3 w' w0.heap.size (fun k_ => (P1_ k_ ∨ w.heap.size ≤ k_) ∧ some k_ ≠ (u9000_ : Value).ownBlock) v0_ r1 ∧ Kd.R (Kd.int .i64) 3 w' w0.heap.size (fun k_ => (P1_ k_ ∨ w.heap.size ≤ k_)) u9000_ r2 ∧ Below w0.heap.size w0 w' ∧ Kept w w' (fun k_ => P1_ k_) := by
  have HR0 := Aside0.mk hr0
  have HC0 := Aside0.mk hc0
  clear hr0 hc0
  have HO1 := Aside0.mk (show Kd.R (Kd.int .i64) 3 w w0.heap.size (fun k_ => (P1_ k_ ∨ w.heap.size ≤ k_)) u9000_ l1 from Kd.R_mono ho1 (fun k_ hk => (.inl hk)))
  have HR2 := Aside0.mk hr2
  have HC2 := Aside0.mk hc2
  clear hr2 hc2
  have HK := Aside0.mk (Kept.refl w (fun k_ => P1_ k_))
  have HW0 := Aside0.mk hB.size
  have HB := Aside0.mk hB
  clear hB
  have H : ((some (([] : List Int) : List Int)).bind fun y505 => (if y505.length + l2.length < 17592186044416 then (spec_released.l0 k l0 l1 (([] : List Int)) (y505 ++ l2)) else (none))) = some (r1, r2) := h
  clear h
  obtain ⟨y502, hy502⟩ : ∃ y_ : List Int, y_ = (([] : List Int)) := ⟨_, rfl⟩
  replace H : ((some (([] : List Int) : List Int)).bind fun y505 => (if y505.length + l2.length < 17592186044416 then (spec_released.l0 k l0 l1 y502 (y505 ++ l2)) else (none))) = some (r1, r2) := by first | (rw [hy502]; with_reducible exact H) | (have H2_ := (Option.bind_some _ _).symm.trans H; rw [hy502]; with_reducible exact H2_) | (have H2_ := (Option.bind_some _ _).symm.trans H; with_reducible exact H2_) | with_reducible exact H | (rw [hy502]; exact H) | exact H
  have Ny502 := Aside0.mk hy502
  clear hy502
  obtain ⟨y505, hy505⟩ : ∃ y_ : List Int, y_ = (([] : List Int)) := ⟨_, rfl⟩
  replace H : (if y505.length + l2.length < 17592186044416 then (spec_released.l0 k l0 l1 y502 (y505 ++ l2)) else (none)) = some (r1, r2) := by first | (rw [hy505]; with_reducible exact H) | (have H2_ := (Option.bind_some _ _).symm.trans H; rw [hy505]; with_reducible exact H2_) | (have H2_ := (Option.bind_some _ _).symm.trans H; with_reducible exact H2_) | with_reducible exact H | (rw [hy505]; exact H) | exact H
  have Ny505 := Aside0.mk hy505
  clear hy505
  by_cases c4 : y505.length + l2.length < 17592186044416
  · rw [if_pos c4] at H
    have LMc4 := Aside0.mk c4
    clear c4
    obtain ⟨y508, hy508⟩ : ∃ y_ : List Int, y_ = (y505 ++ l2) := ⟨_, rfl⟩
    replace H : (spec_released.l0 k l0 l1 y502 y508) = some (r1, r2) := by first | (rw [hy508]; with_reducible exact H) | (have H2_ := (Option.bind_some _ _).symm.trans H; rw [hy508]; with_reducible exact H2_) | (have H2_ := (Option.bind_some _ _).symm.trans H; with_reducible exact H2_) | with_reducible exact H | (rw [hy508]; exact H) | exact H
    have Ny508 := Aside0.mk hy508
    clear hy508
    have H' := Aside0.mk H
    clear H
    go_enter Try.func67, Try.ntmps67
    go_wp2_with (first | ((with_reducible refine gate_dst (N := 12) rfl ?_); refine Kd.R_lit (Kd.int .i64) _ 3 ?hg (N := 12) ?hd (xs := ([] : List Int)) (inner := []) (ok := fun _ => True) (okp := fun _ => True) ?hr ?hp (fun _ hk => hk) trivial (Below.refl _ _) (Nat.le_refl _) (by simp) ?_; (case hd => rfl); (case hg => rfl); (case hr => first | (go_simp; done) | (go_simp; rfl)); (case hp => exact (Reps.none _ _)); intro v503 w5 ho6 hb hg_ hnew_; clear hg_ hnew_; (first | rw [← Ny502.out] at ho6 | (simp only [Int.reduceToNat] at ho6; rw [← Ny502.out] at ho6)); have n0_ := Aside0.mk (Kd.R_elder' (by (with_reducible repeat (first | apply Kd.R_alloc | apply Kd.R_drewN | apply Kd.R_drew)); exact HO1.out) (Kd.R_base ho6) hb); have n1_ := Aside0.mk (Kd.R_lower (Kd.R_new' (Kd.R_newM (M := fun k_ => (P1_ k_ ∨ w.heap.size ≤ k_)) ho6 (by first | exact HK.out.1 | exact (show Kept w _ (fun k_ => P1_ k_) from by repeat (first | (with_reducible first | exact HK.out | apply Kept.alloc | apply Kept.drewN | apply Kept.drew) | exact HK.out)).1) (fun k_ h_ => .inr h_)) (Kd.R_lt (by (with_reducible repeat (first | apply Kd.R_alloc | apply Kd.R_drewN | apply Kd.R_drew)); exact HO1.out))) (below_size (by repeat (first | (with_reducible first | exact HB.out | apply below_alloc | apply pw_below_drewN | apply below_drew1) | exact HB.out)))); have n2_ := Aside0.mk (Kept.below (S := (fun k_ => P1_ k_)) (by repeat (first | (with_reducible first | exact HK.out | apply Kept.alloc | apply Kept.drewN | apply Kept.drew) | exact HK.out)) hb); have n3_ := Aside0.mk (below_step (by repeat (first | (with_reducible first | exact HB.out | apply below_alloc | apply pw_below_drewN | apply below_drew1) | exact HB.out)) hb); clear HO1; clear HK; clear HB; have HO1 := n0_; have HO504 := n1_; have HK := n2_; have HB := n3_; clear n0_ n1_ n2_ n3_; clear hb ho6) | ((with_reducible refine gate_dst (N := 13) rfl ?_); refine Kd.R_lit (Kd.int .i64) _ 3 ?hg (N := 13) ?hd (xs := ([] : List Int)) (inner := []) (ok := fun _ => True) (okp := fun _ => True) ?hr ?hp (fun _ hk => hk) trivial (Below.refl _ _) (Nat.le_refl _) (by simp) ?_; (case hd => rfl); (case hg => rfl); (case hr => first | (go_simp; done) | (go_simp; rfl)); (case hp => exact (Reps.none _ _)); intro v506 w7 ho8 hb hg_ hnew_; clear hg_ hnew_; (first | rw [← Ny505.out] at ho8 | (simp only [Int.reduceToNat] at ho8; rw [← Ny505.out] at ho8)); have n0_ := Aside0.mk (Kd.R_elder' (by (with_reducible repeat (first | apply Kd.R_alloc | apply Kd.R_drewN | apply Kd.R_drew)); exact HO1.out) (Kd.R_base ho8) hb); have n1_ := Aside0.mk (Kd.R_elder' (by (with_reducible repeat (first | apply Kd.R_alloc | apply Kd.R_drewN | apply Kd.R_drew)); exact HO504.out) (Kd.R_base ho8) hb); have n2_ := Aside0.mk (Kd.R_lower (Kd.R_new' (Kd.R_new' (Kd.R_newM (M := fun k_ => (P1_ k_ ∨ w.heap.size ≤ k_)) ho8 (by first | exact HK.out.1 | exact (show Kept w _ (fun k_ => P1_ k_) from by repeat (first | (with_reducible first | exact HK.out | apply Kept.alloc | apply Kept.drewN | apply Kept.drew) | exact HK.out)).1) (fun k_ h_ => .inr h_)) (Kd.R_lt (by (with_reducible repeat (first | apply Kd.R_alloc | apply Kd.R_drewN | apply Kd.R_drew)); exact HO1.out))) (Kd.R_lt (by (with_reducible repeat (first | apply Kd.R_alloc | apply Kd.R_drewN | apply Kd.R_drew)); exact HO504.out))) (below_size (by repeat (first | (with_reducible first | exact HB.out | apply below_alloc | apply pw_below_drewN | apply below_drew1) | exact HB.out)))); have n3_ := Aside0.mk (Kept.below (S := (fun k_ => P1_ k_)) (by repeat (first | (with_reducible first | exact HK.out | apply Kept.alloc | apply Kept.drewN | apply Kept.drew) | exact HK.out)) hb); have n4_ := Aside0.mk (below_step (by repeat (first | (with_reducible first | exact HB.out | apply below_alloc | apply pw_below_drewN | apply below_drew1) | exact HB.out)) hb); clear HO1; clear HO504; clear HK; clear HB; have HO1 := n0_; have HO504 := n1_; have HO507 := n2_; have HK := n3_; have HB := n4_; clear n0_ n1_ n2_ n3_ n4_; clear hb ho8) | ((with_reducible refine gate_builtin (b := .append) (xs := #[.tmp 13, .tmp 14]) rfl ?_); at_builtin; refine Kd.R_append_rows (Kd.int .i64) (w0 := w0) w0.heap.size rfl (.tmp 13) (.tmp 14) 24 3 (.int .i64 0) 8 rfl Try.underlying24 info3 rfl (by decide) (by omega) v506 y505 l2 _ _ _ (fun k_ => (P1_ k_ ∨ w.heap.size ≤ k_) ∧ some k_ ≠ (u9000_ : Value).ownBlock ∧ some k_ ≠ (v503 : Value).ownBlock) (fun _ => False) rfl rfl ?aO ?aR (fun _ _ h => h) (fun _ h => h.elim) ?aF ?aB ?aS ?aL ?_; (case aR => exact Kd.C_kept_now HR2.out (by repeat (first | (with_reducible first | exact HK.out | apply Kept.alloc | apply Kept.drewN | apply Kept.drew) | exact HK.out))); (case aB => exact (by repeat (first | (with_reducible first | exact HB.out | apply below_alloc | apply pw_below_drewN | apply below_drew1) | exact HB.out))); (case aF => exact (fun k_ hk => ⟨(.inr (Nat.le_trans (by first | exact HK.out.1 | exact (show Kept w _ (fun k_ => P1_ k_) from by repeat (first | (with_reducible first | exact HK.out | apply Kept.alloc | apply Kept.drewN | apply Kept.drew) | exact HK.out)).1) hk)), Kd.fresh' (Kd.R_lt (by (with_reducible repeat (first | apply Kd.R_alloc | apply Kd.R_drewN | apply Kd.R_drew)); exact HO1.out)) k_ hk, Kd.fresh' (Kd.R_lt (by (with_reducible repeat (first | apply Kd.R_alloc | apply Kd.R_drewN | apply Kd.R_drew)); exact HO504.out)) k_ hk⟩)); (case aO => exact (by (with_reducible repeat (first | apply Kd.R_alloc | apply Kd.R_drewN | apply Kd.R_drew)); exact Kd.R_mono HO507.out (fun _ hk => ⟨hk.1.1.1, ⟨hk.1.2, hk.2⟩⟩))); (case aS => exact (below_size (by repeat (first | (with_reducible first | exact HB.out | apply below_alloc | apply pw_below_drewN | apply below_drew1) | exact HB.out)))); (case aL => have := LMc4.out; omega); intro v509 w9 ho hb hg hat; rw [← Ny508.out] at ho; have n0_ := Aside0.mk (Kd.R_after (ok := (fun k_ => (P1_ k_ ∨ w.heap.size ≤ k_) ∧ some k_ ≠ (v503 : Value).ownBlock)) (by (with_reducible repeat (first | apply Kd.R_alloc | apply Kd.R_drewN | apply Kd.R_drew)); exact HO1.out) hg hat); have n1_ := Aside0.mk (Kd.R_after (ok := (fun k_ => (P1_ k_ ∨ w.heap.size ≤ k_) ∧ some k_ ≠ (u9000_ : Value).ownBlock)) (by (with_reducible repeat (first | apply Kd.R_alloc | apply Kd.R_drewN | apply Kd.R_drew)); exact Kd.R_mono HO504.out (fun _ hk => ⟨⟨hk.1.1.1, hk.1.2⟩, hk.2⟩)) hg hat); have n2_ := Aside0.mk (hb); have n3_ := Aside0.mk (Kept.of_grown (S := (fun k_ => P1_ k_)) hg (by repeat (first | (with_reducible first | exact HK.out | apply Kept.alloc | apply Kept.drewN | apply Kept.drew) | exact HK.out)) (fun k_ e_ => (HO507.out.1 k_ e_).1.1.1)); have n4_ := Aside0.mk (ho); clear HO1; clear HO504; clear HB; clear HK; clear HO507; have HO1 := n0_; have HO504 := n1_; have HB := n2_; have HK := n3_; have HO510 := n4_; clear n0_ n1_ n2_ n3_ n4_; clear ho hb hg hat))
    go_loopg [7, 8] k (fun kq v7 v8 w' => ∃ (x1_1 : List Int) (x7_1 : List Int) (x8_1 : List Int), Aside0 (spec_released.l0 kq l0 x1_1 x7_1 x8_1 = some (r1, r2)) ∧ Aside0 (kq ≤ k) ∧ Aside0 (Kd.R (Kd.int .i64) 3 w' w0.heap.size (fun k_ => (P1_ k_ ∨ w.heap.size ≤ k_) ∧ some k_ ≠ (v7 : Value).ownBlock ∧ some k_ ≠ (v8 : Value).ownBlock) u9000_ x1_1) ∧ Aside0 (Kd.R (Kd.int .i64) 3 w' w0.heap.size (fun k_ => (P1_ k_ ∨ w.heap.size ≤ k_) ∧ some k_ ≠ (u9000_ : Value).ownBlock ∧ some k_ ≠ (v8 : Value).ownBlock) v7 x7_1) ∧ Aside0 (Kd.R (Kd.int .i64) 3 w' w0.heap.size (fun k_ => (P1_ k_ ∨ w.heap.size ≤ k_) ∧ some k_ ≠ (u9000_ : Value).ownBlock ∧ some k_ ≠ (v7 : Value).ownBlock) v8 x8_1) ∧ Aside0 (Kept w w' (fun k_ => P1_ k_)) ∧ Aside0 (Below w0.heap.size w0 w'))
    case atStart => exact ⟨(l1), (y502), (y508), H', ⟨Nat.le_refl _⟩, ⟨by (with_reducible repeat (first | apply Kd.R_alloc | apply Kd.R_drewN | apply Kd.R_drew)); exact Kd.R_mono HO1.out (fun _ hk => ⟨hk.1.1, ⟨hk.1.2, hk.2⟩⟩)⟩, ⟨by (with_reducible repeat (first | apply Kd.R_alloc | apply Kd.R_drewN | apply Kd.R_drew)); exact Kd.R_mono HO504.out (fun _ hk => ⟨hk.1.1, ⟨hk.1.2, hk.2⟩⟩)⟩, ⟨by (with_reducible repeat (first | apply Kd.R_alloc | apply Kd.R_drewN | apply Kd.R_drew)); exact HO510.out⟩, ⟨by repeat (first | (with_reducible first | exact HK.out | apply Kept.alloc | apply Kept.drewN | apply Kept.drew) | exact HK.out)⟩, ⟨by repeat (first | (with_reducible first | exact HB.out | apply below_alloc | apply pw_below_drewN | apply below_drew1) | exact HB.out)⟩⟩
    case round =>
      clear H'
      try clear c2
      try clear p2
      try clear c4
      try clear c6
      obtain ⟨x1_1, x7_1, x8_1, HA, HK1, HO_1, HO_7, HO_8, HK, HB⟩ := hrel
      cases gk with
      | zero => exact absurd HA.out (by simp [spec_released.l0])
      | succ k1 =>
        have H := HA.out
        clear HA
        simp only [spec_released.l0] at H
        by_cases c10 : (x8_1.length : Int) > 0
        · rw [if_pos c10] at H
          have c10b0 : decide (0 < (x8_1.length : Int)) = true := decide_eq_true c10
          have c10b1 : decide (0 < x8_1.length) = true := decide_eq_true (by omega)
          clear c10
          obtain ⟨ji11, hji11⟩ : ∃ j_ : Int, (wrap64 ((x8_1.length : Int) - 1)) = j_ := ⟨_, rfl⟩
          replace H : (if 0 ≤ (ji11) then (if (ji11) < (x8_1.length : Int) then ((some (([] : List Int) : List Int)).bind fun y512 => (if (ji11) ≤ (x8_1.length : Int) then ((some (x8_1.take ((ji11) : Int).toNat : List Int)).bind fun y515 => (if y512.length + y515.length < 17592186044416 then (if x7_1.length < 17592186044416 then (spec_released.l1 k1 l0 x1_1 (x7_1 ++ [rd x8_1 (ji11)]) (y512 ++ y515) (rd x8_1 (ji11)) 0) else (none)) else (none))) else (none))) else (none)) else (none)) = some (r1, r2) := by first | (rw [hji11] at H; exact H) | (simp only [hji11] at H ⊢; exact H)
          have hji11w : (IntKind.i64.wrap ((x8_1.length : Int) - 1)) = ji11 := (i64_w _).trans hji11
          by_cases c12 : 0 ≤ (ji11)
          · rw [if_pos c12] at H
            have c12b0 : decide (0 ≤ (ji11)) = true := decide_eq_true c12
            clear c12
            by_cases c13 : (ji11) < (x8_1.length : Int)
            · rw [if_pos c13] at H
              have c13b0 : decide ((ji11) < (x8_1.length : Int)) = true := decide_eq_true c13
              clear c13
              obtain ⟨y512, hy512⟩ : ∃ y_ : List Int, y_ = (([] : List Int)) := ⟨_, rfl⟩
              replace H : (if (ji11) ≤ (x8_1.length : Int) then ((some (x8_1.take ((ji11) : Int).toNat : List Int)).bind fun y515 => (if y512.length + y515.length < 17592186044416 then (if x7_1.length < 17592186044416 then (spec_released.l1 k1 l0 x1_1 (x7_1 ++ [rd x8_1 (ji11)]) (y512 ++ y515) (rd x8_1 (ji11)) 0) else (none)) else (none))) else (none)) = some (r1, r2) := by first | (rw [hy512]; with_reducible exact H) | (have H2_ := (Option.bind_some _ _).symm.trans H; rw [hy512]; with_reducible exact H2_) | (have H2_ := (Option.bind_some _ _).symm.trans H; with_reducible exact H2_) | with_reducible exact H | (rw [hy512]; exact H) | exact H
              have Ny512 := Aside0.mk hy512
              clear hy512
              have c14b0 := eq_true (of_decide_eq_true (by first | (with_reducible assumption) | assumption) : 0 ≤ (ji11))
              by_cases c15 : (ji11) ≤ (x8_1.length : Int)
              · rw [if_pos c15] at H
                have c15b0 := eq_true c15
                have c15b1 : decide ((ji11) ≤ (x8_1.length : Int)) = true := decide_eq_true c15
                clear c15
                obtain ⟨y515, hy515⟩ : ∃ y_ : List Int, y_ = (x8_1.take ((ji11) : Int).toNat) := ⟨_, rfl⟩
                replace H : (if y512.length + y515.length < 17592186044416 then (if x7_1.length < 17592186044416 then (spec_released.l1 k1 l0 x1_1 (x7_1 ++ [rd x8_1 (ji11)]) (y512 ++ y515) (rd x8_1 (ji11)) 0) else (none)) else (none)) = some (r1, r2) := by first | (rw [hy515]; with_reducible exact H) | (have H2_ := (Option.bind_some _ _).symm.trans H; rw [hy515]; with_reducible exact H2_) | (have H2_ := (Option.bind_some _ _).symm.trans H; with_reducible exact H2_) | with_reducible exact H | (rw [hy515]; exact H) | exact H
                have Ny515 := Aside0.mk hy515
                clear hy515
                by_cases c16 : y512.length + y515.length < 17592186044416
                · rw [if_pos c16] at H
                  have LMc16 := Aside0.mk c16
                  clear c16
                  obtain ⟨y519, hy519⟩ : ∃ y_ : List Int, y_ = (y512 ++ y515) := ⟨_, rfl⟩
                  replace H : (if x7_1.length < 17592186044416 then (spec_released.l1 k1 l0 x1_1 (x7_1 ++ [rd x8_1 (ji11)]) y519 (rd x8_1 (ji11)) 0) else (none)) = some (r1, r2) := by first | (rw [hy519]; with_reducible exact H) | (have H2_ := (Option.bind_some _ _).symm.trans H; rw [hy519]; with_reducible exact H2_) | (have H2_ := (Option.bind_some _ _).symm.trans H; with_reducible exact H2_) | with_reducible exact H | (rw [hy519]; exact H) | exact H
                  have Ny519 := Aside0.mk hy519
                  clear hy519
                  by_cases c17 : x7_1.length < 17592186044416
                  · rw [if_pos c17] at H
                    have LMc17 := Aside0.mk c17
                    clear c17
                    obtain ⟨y522, hy522⟩ : ∃ y_ : List Int, y_ = (x7_1 ++ [rd x8_1 (ji11)]) := ⟨_, rfl⟩
                    replace H : (spec_released.l1 k1 l0 x1_1 y522 y519 (rd x8_1 (ji11)) 0) = some (r1, r2) := by first | (rw [hy522]; with_reducible exact H) | (have H2_ := (Option.bind_some _ _).symm.trans H; rw [hy522]; with_reducible exact H2_) | (have H2_ := (Option.bind_some _ _).symm.trans H; with_reducible exact H2_) | with_reducible exact H | (rw [hy522]; exact H) | exact H
                    have Ny522 := Aside0.mk hy522
                    clear hy522
                    have H' := Aside0.mk H
                    clear H
                    obtain ⟨Ao18, co18, eo18⟩ := Kd.R_slice HO_8.out
                    subst eo18
                    have p511 : 0 ≤ ((ji11) : Int) := of_decide_eq_true (by first | (with_reducible assumption) | assumption)
                    have q511 : (ji11) < (x8_1.length : Int) := of_decide_eq_true (by first | (with_reducible assumption) | assumption)
                    obtain ⟨ad511, e511, hx511_0⟩ := Kd.at_int (Kd.R_reads' HO_8.out).2.2 (ji11) p511 q511
                    cases e511
                    replace p511 := eq_true p511
                    replace q511 := eq_true q511
                    go_wp2_with (first | ((with_reducible refine gate_dst (N := 25) rfl ?_); refine Kd.R_lit (Kd.int .i64) _ 3 ?hg (N := 25) ?hd (xs := ([] : List Int)) (inner := []) (ok := fun _ => True) (okp := fun _ => True) ?hr ?hp (fun _ hk => hk) trivial (Below.refl _ _) (Nat.le_refl _) (by simp) ?_; (case hd => rfl); (case hg => rfl); (case hr => first | (go_simp; done) | (go_simp; rfl)); (case hp => exact (Reps.none _ _)); intro v513 w19 ho20 hb hg_ hnew_; clear hg_ hnew_; (first | rw [← Ny512.out] at ho20 | (simp only [Int.reduceToNat] at ho20; rw [← Ny512.out] at ho20)); have n0_ := Aside0.mk (Kd.R_elder' (by (with_reducible repeat (first | apply Kd.R_alloc | apply Kd.R_drewN | apply Kd.R_drew)); exact HO_1.out) (Kd.R_base ho20) hb); have n1_ := Aside0.mk (Kd.R_elder' (by (with_reducible repeat (first | apply Kd.R_alloc | apply Kd.R_drewN | apply Kd.R_drew)); exact HO_7.out) (Kd.R_base ho20) hb); have n2_ := Aside0.mk (Kd.R_elder' (by (with_reducible repeat (first | apply Kd.R_alloc | apply Kd.R_drewN | apply Kd.R_drew)); exact HO_8.out) (Kd.R_base ho20) hb); have n3_ := Aside0.mk (Kd.R_lower (Kd.R_new' (Kd.R_new' (Kd.R_new' (Kd.R_newM (M := fun k_ => (P1_ k_ ∨ w.heap.size ≤ k_)) ho20 (by first | exact HK.out.1 | exact (show Kept w _ (fun k_ => P1_ k_) from by repeat (first | (with_reducible first | exact HK.out | apply Kept.alloc | apply Kept.drewN | apply Kept.drew) | exact HK.out)).1) (fun k_ h_ => .inr h_)) (Kd.R_lt (by (with_reducible repeat (first | apply Kd.R_alloc | apply Kd.R_drewN | apply Kd.R_drew)); exact HO_1.out))) (Kd.R_lt (by (with_reducible repeat (first | apply Kd.R_alloc | apply Kd.R_drewN | apply Kd.R_drew)); exact HO_7.out))) (Kd.R_lt (by (with_reducible repeat (first | apply Kd.R_alloc | apply Kd.R_drewN | apply Kd.R_drew)); exact HO_8.out))) (below_size (by repeat (first | (with_reducible first | exact HB.out | apply below_alloc | apply pw_below_drewN | apply below_drew1) | exact HB.out)))); have n4_ := Aside0.mk (Kept.below (S := (fun k_ => P1_ k_)) (by repeat (first | (with_reducible first | exact HK.out | apply Kept.alloc | apply Kept.drewN | apply Kept.drew) | exact HK.out)) hb); have n5_ := Aside0.mk (below_step (by repeat (first | (with_reducible first | exact HB.out | apply below_alloc | apply pw_below_drewN | apply below_drew1) | exact HB.out)) hb); clear HO_1; clear HO_7; clear HO_8; clear HK; clear HB; have HO_1 := n0_; have HO_7 := n1_; have HO_8 := n2_; have HO514 := n3_; have HK := n4_; have HB := n5_; clear n0_ n1_ n2_ n3_ n4_ n5_; clear hb ho20; have q21 : ((ji11) : Int) ≤ ((x8_1.length : Int) : Int) := of_decide_eq_true (by first | (with_reducible assumption) | assumption); obtain ⟨i021, hi021, _, hsz21, _⟩ := info_parts info3; have hroom21 : x8_1.length ≤ co18 := (Kd.R_reads' HO_8.out).2.1; have hC21 : Kd.C (Kd.int .i64) _ (some ad511) x8_1.length x8_1 := (Kd.R_reads' HO_8.out).2.2; have hcut21 := cut_to (P := Try.prog) 24 3 .i64 Try.underlying24 hi021 (some ad511) x8_1.length co18 (ji11) (of_decide_eq_true (by first | (with_reducible assumption) | assumption)) q21 hroom21; have hr21 := Kd.C_take (m := ((ji11) : Int).toNat) hC21 (by omega); have hy21 : y515.length = ((ji11) : Int).toNat := (by rw [Ny515.out, List.length_take]; omega); rw [← Ny515.out] at hr21; rw [← hy21] at hcut21; have HR518 := Aside0.mk hr21; have HC518 := Aside0.mk (show y515.length ≤ co18 from by omega); clear hr21 hC21 hroom21 hi021 hsz21; have KY21 := Aside0.mk hy21; clear hy21; have KL21 := Aside0.mk (show ((ji11) : Int).toNat ≤ x8_1.length from by omega); replace q21 := eq_true q21) | ((with_reducible refine gate_builtin (b := .append) (xs := #[.tmp 25, .tmp 30]) rfl ?_); at_builtin; refine Kd.R_append_rows (Kd.int .i64) (w0 := w0) w0.heap.size rfl (.tmp 25) (.tmp 30) 24 3 (.int .i64 0) 8 rfl Try.underlying24 info3 rfl (by decide) (by omega) v513 y512 y515 _ _ _ (fun k_ => (P1_ k_ ∨ w.heap.size ≤ k_) ∧ some k_ ≠ (u9000_ : Value).ownBlock ∧ some k_ ≠ (u7 : Value).ownBlock ∧ some k_ ≠ (.slice (some ad511) x8_1.length co18 : Value).ownBlock) (fun _ => False) rfl rfl ?aO ?aR (fun _ _ h => h) (fun _ h => h.elim) ?aF ?aB ?aS ?aL ?_; (case aR => repeat (first | exact (by repeat (first | (with_reducible exact HR518.out) | (with_reducible refine Kd.C_alloc ?_ _) | (with_reducible refine Kd.C_drewN ?_ _) | (with_reducible refine Kd.C_drew ?_) | exact HR518.out)) | (with_reducible refine Kd.C_alloc ?_ _) | (with_reducible refine Kd.C_drewN ?_ _) | (with_reducible refine Kd.C_drew ?_))); (case aB => exact (by repeat (first | (with_reducible first | exact HB.out | apply below_alloc | apply pw_below_drewN | apply below_drew1) | exact HB.out))); (case aF => exact (fun k_ hk => ⟨(.inr (Nat.le_trans (by first | exact HK.out.1 | exact (show Kept w _ (fun k_ => P1_ k_) from by repeat (first | (with_reducible first | exact HK.out | apply Kept.alloc | apply Kept.drewN | apply Kept.drew) | exact HK.out)).1) hk)), Kd.fresh' (Kd.R_lt (by (with_reducible repeat (first | apply Kd.R_alloc | apply Kd.R_drewN | apply Kd.R_drew)); exact HO_1.out)) k_ hk, Kd.fresh' (Kd.R_lt (by (with_reducible repeat (first | apply Kd.R_alloc | apply Kd.R_drewN | apply Kd.R_drew)); exact HO_7.out)) k_ hk, Kd.fresh' (Kd.R_lt (by (with_reducible repeat (first | apply Kd.R_alloc | apply Kd.R_drewN | apply Kd.R_drew)); exact HO_8.out)) k_ hk⟩)); (case aO => exact (by (with_reducible repeat (first | apply Kd.R_alloc | apply Kd.R_drewN | apply Kd.R_drew)); exact Kd.R_mono HO514.out (fun _ hk => ⟨hk.1.1.1.1, ⟨hk.1.1.2, ⟨hk.1.2, hk.2⟩⟩⟩))); (case aS => exact (below_size (by repeat (first | (with_reducible first | exact HB.out | apply below_alloc | apply pw_below_drewN | apply below_drew1) | exact HB.out)))); (case aL => have := LMc16.out; omega); intro v520 w22 ho hb hg hat; rw [← Ny519.out] at ho; have n0_ := Aside0.mk (Kd.R_after (ok := (fun k_ => (P1_ k_ ∨ w.heap.size ≤ k_) ∧ some k_ ≠ (u7 : Value).ownBlock ∧ some k_ ≠ (.slice (some ad511) x8_1.length co18 : Value).ownBlock)) (by (with_reducible repeat (first | apply Kd.R_alloc | apply Kd.R_drewN | apply Kd.R_drew)); exact HO_1.out) hg hat); have n1_ := Aside0.mk (Kd.R_after (ok := (fun k_ => (P1_ k_ ∨ w.heap.size ≤ k_) ∧ some k_ ≠ (u9000_ : Value).ownBlock ∧ some k_ ≠ (.slice (some ad511) x8_1.length co18 : Value).ownBlock)) (by (with_reducible repeat (first | apply Kd.R_alloc | apply Kd.R_drewN | apply Kd.R_drew)); exact HO_7.out) hg hat); have n2_ := Aside0.mk (Kd.R_after (ok := (fun k_ => (P1_ k_ ∨ w.heap.size ≤ k_) ∧ some k_ ≠ (u9000_ : Value).ownBlock ∧ some k_ ≠ (u7 : Value).ownBlock)) (by (with_reducible repeat (first | apply Kd.R_alloc | apply Kd.R_drewN | apply Kd.R_drew)); exact HO_8.out) hg hat); have n3_ := Aside0.mk (hb); have n4_ := Aside0.mk (Kept.of_grown (S := (fun k_ => P1_ k_)) hg (by repeat (first | (with_reducible first | exact HK.out | apply Kept.alloc | apply Kept.drewN | apply Kept.drew) | exact HK.out)) (fun k_ e_ => (HO514.out.1 k_ e_).1.1.1.1)); have n5_ := Aside0.mk ((show Kd.C (Kd.int .i64) w22 (some ad511) y515.length y515 from by rw [Ny515.out]; exact Kd.C_take (m := ((ji11) : Int).toNat) ((Kd.R_reads' (Kd.R_after (ok := (fun k_ => (P1_ k_ ∨ w.heap.size ≤ k_) ∧ some k_ ≠ (u9000_ : Value).ownBlock ∧ some k_ ≠ (u7 : Value).ownBlock)) (by (with_reducible repeat (first | apply Kd.R_alloc | apply Kd.R_drewN | apply Kd.R_drew)); exact HO_8.out) hg hat)).2.2) KL21.out)); have n6_ := Aside0.mk (ho); clear HO_1; clear HO_7; clear HO_8; clear HB; clear HK; clear HR518; clear HO514; have HO_1 := n0_; have HO_7 := n1_; have HO_8 := n2_; have HB := n3_; have HK := n4_; have HR518 := n5_; have HO521 := n6_; clear n0_ n1_ n2_ n3_ n4_ n5_ n6_; clear ho hb hg hat) | ((with_reducible refine gate_builtin (b := .append) (xs := #[.tmp 32, .tmp 34]) rfl ?_); at_builtin; refine Kd.R_append (Kd.int .i64) (w0 := w0) w0.heap.size rfl (.tmp 32) (.tmp 34) 24 3 (.int .i64 0) 8 rfl Try.underlying24 info3 rfl (by decide) (by omega) u7 x7_1 (rd x8_1 (ji11)) [.int .i64 (rd x8_1 (ji11))] (fun k_ => (P1_ k_ ∨ w.heap.size ≤ k_) ∧ some k_ ≠ (u9000_ : Value).ownBlock ∧ some k_ ≠ (.slice (some ad511) x8_1.length co18 : Value).ownBlock ∧ some k_ ≠ (v520 : Value).ownBlock) (fun _ => False) rfl rfl ?aP (fun _ hk => hk.elim) ?aF ?aO ?aB ?aS ?aL ?_; (case aP => exact rfl); (case aB => exact (by repeat (first | (with_reducible first | exact HB.out | apply below_alloc | apply pw_below_drewN | apply below_drew1) | exact HB.out))); (case aF => exact (fun k_ hk => ⟨(.inr (Nat.le_trans (by first | exact HK.out.1 | exact (show Kept w _ (fun k_ => P1_ k_) from by repeat (first | (with_reducible first | exact HK.out | apply Kept.alloc | apply Kept.drewN | apply Kept.drew) | exact HK.out)).1) hk)), Kd.fresh' (Kd.R_lt (by (with_reducible repeat (first | apply Kd.R_alloc | apply Kd.R_drewN | apply Kd.R_drew)); exact HO_1.out)) k_ hk, Kd.fresh' (Kd.R_lt (by (with_reducible repeat (first | apply Kd.R_alloc | apply Kd.R_drewN | apply Kd.R_drew)); exact HO_8.out)) k_ hk, Kd.fresh' (Kd.R_lt (by (with_reducible repeat (first | apply Kd.R_alloc | apply Kd.R_drewN | apply Kd.R_drew)); exact HO521.out)) k_ hk⟩)); (case aO => exact (by (with_reducible repeat (first | apply Kd.R_alloc | apply Kd.R_drewN | apply Kd.R_drew)); exact Kd.R_mono HO_7.out (fun _ hk => ⟨hk.1.1, ⟨hk.1.2.1, ⟨hk.1.2.2, hk.2⟩⟩⟩))); (case aS => exact (below_size (by repeat (first | (with_reducible first | exact HB.out | apply below_alloc | apply pw_below_drewN | apply below_drew1) | exact HB.out)))); (case aL => have := LMc17.out; omega); intro v523 w23 ho hb hg hat; rw [← Ny522.out] at ho; have n0_ := Aside0.mk (Kd.R_after (ok := (fun k_ => (P1_ k_ ∨ w.heap.size ≤ k_) ∧ some k_ ≠ (.slice (some ad511) x8_1.length co18 : Value).ownBlock ∧ some k_ ≠ (v520 : Value).ownBlock)) (by (with_reducible repeat (first | apply Kd.R_alloc | apply Kd.R_drewN | apply Kd.R_drew)); exact Kd.R_mono HO_1.out (fun _ hk => ⟨⟨hk.1.1, ⟨hk.1.2.2, hk.2⟩⟩, hk.1.2.1⟩)) hg hat); have n1_ := Aside0.mk (Kd.R_after (ok := (fun k_ => (P1_ k_ ∨ w.heap.size ≤ k_) ∧ some k_ ≠ (u9000_ : Value).ownBlock ∧ some k_ ≠ (v520 : Value).ownBlock)) (by (with_reducible repeat (first | apply Kd.R_alloc | apply Kd.R_drewN | apply Kd.R_drew)); exact Kd.R_mono HO_8.out (fun _ hk => ⟨⟨hk.1.1, ⟨hk.1.2.1, hk.2⟩⟩, hk.1.2.2⟩)) hg hat); have n2_ := Aside0.mk (Kd.R_after (ok := (fun k_ => (P1_ k_ ∨ w.heap.size ≤ k_) ∧ some k_ ≠ (u9000_ : Value).ownBlock ∧ some k_ ≠ (.slice (some ad511) x8_1.length co18 : Value).ownBlock)) (by (with_reducible repeat (first | apply Kd.R_alloc | apply Kd.R_drewN | apply Kd.R_drew)); exact Kd.R_mono HO521.out (fun _ hk => ⟨⟨hk.1, ⟨hk.2.1, hk.2.2.2⟩⟩, hk.2.2.1⟩)) hg hat); have n3_ := Aside0.mk (hb); have n4_ := Aside0.mk (Kept.of_grown (S := (fun k_ => P1_ k_)) hg (by repeat (first | (with_reducible first | exact HK.out | apply Kept.alloc | apply Kept.drewN | apply Kept.drew) | exact HK.out)) (fun k_ e_ => (HO_7.out.1 k_ e_).1.1)); have n5_ := Aside0.mk ((show Kd.C (Kd.int .i64) w23 (some ad511) y515.length y515 from by rw [Ny515.out]; exact Kd.C_take (m := ((ji11) : Int).toNat) ((Kd.R_reads' (Kd.R_after (ok := (fun k_ => (P1_ k_ ∨ w.heap.size ≤ k_) ∧ some k_ ≠ (u9000_ : Value).ownBlock ∧ some k_ ≠ (v520 : Value).ownBlock)) (by (with_reducible repeat (first | apply Kd.R_alloc | apply Kd.R_drewN | apply Kd.R_drew)); exact Kd.R_mono HO_8.out (fun _ hk => ⟨⟨hk.1.1, ⟨hk.1.2.1, hk.2⟩⟩, hk.1.2.2⟩)) hg hat)).2.2) KL21.out)); have n6_ := Aside0.mk (ho); clear HO_1; clear HO_8; clear HO521; clear HB; clear HK; clear HR518; clear HO_7; have HO_1 := n0_; have HO_8 := n1_; have HO521 := n2_; have HB := n3_; have HK := n4_; have HR518 := n5_; have HO524 := n6_; clear n0_ n1_ n2_ n3_ n4_ n5_ n6_; clear ho hb hg hat))
                    go_loopg [8, 10] k1 (fun kq v8 v10 w' => ∃ (x1_2 : List Int) (x8_2 : List Int) (x10_2 : Int), v10 = .int .i64 x10_2 ∧ Aside0 (spec_released.l1 kq l0 x1_2 y522 x8_2 (rd x8_1 (ji11)) x10_2 = some (r1, r2)) ∧ Aside0 (kq ≤ k1) ∧ Aside0 (Kd.R (Kd.int .i64) 3 w' w0.heap.size (fun k_ => (P1_ k_ ∨ w.heap.size ≤ k_) ∧ some k_ ≠ (v523 : Value).ownBlock ∧ some k_ ≠ (v8 : Value).ownBlock) u9000_ x1_2) ∧ Aside0 (Kd.R (Kd.int .i64) 3 w' w0.heap.size (fun k_ => (P1_ k_ ∨ w.heap.size ≤ k_) ∧ some k_ ≠ (u9000_ : Value).ownBlock ∧ some k_ ≠ (v8 : Value).ownBlock) v523 y522) ∧ Aside0 (Kd.R (Kd.int .i64) 3 w' w0.heap.size (fun k_ => (P1_ k_ ∨ w.heap.size ≤ k_) ∧ some k_ ≠ (u9000_ : Value).ownBlock ∧ some k_ ≠ (v523 : Value).ownBlock) v8 x8_2) ∧ Aside0 (Kept w w' (fun k_ => P1_ k_)) ∧ Aside0 (Below w0.heap.size w0 w'))
                    case atStart => exact ⟨(x1_1), (y519), (0), (by first | rfl | (simp; done) | (simp [*]; done)), H', ⟨Nat.le_refl _⟩, ⟨by (with_reducible repeat (first | apply Kd.R_alloc | apply Kd.R_drewN | apply Kd.R_drew)); exact Kd.R_mono HO_1.out (fun _ hk => ⟨hk.1.1, ⟨hk.2, hk.1.2.2⟩⟩)⟩, ⟨by (with_reducible repeat (first | apply Kd.R_alloc | apply Kd.R_drewN | apply Kd.R_drew)); exact Kd.R_mono HO524.out (fun _ hk => ⟨hk.1, ⟨hk.2.1, hk.2.2.2⟩⟩)⟩, ⟨by (with_reducible repeat (first | apply Kd.R_alloc | apply Kd.R_drewN | apply Kd.R_drew)); exact Kd.R_mono HO521.out (fun _ hk => ⟨hk.1.1, ⟨hk.1.2.1, hk.2⟩⟩)⟩, ⟨by repeat (first | (with_reducible first | exact HK.out | apply Kept.alloc | apply Kept.drewN | apply Kept.drew) | exact HK.out)⟩, ⟨by repeat (first | (with_reducible first | exact HB.out | apply below_alloc | apply pw_below_drewN | apply below_drew1) | exact HB.out)⟩⟩
                    case round =>
                      clear H'
                      try clear c1
                      try clear c2
                      try clear p2
                      try clear q2
                      try clear c4
                      try clear p5
                      try clear q5
                      try clear hx5
                      try clear c6
                      try clear p6
                      try clear c10
                      try clear c10b0
                      try clear c10b1
                      try clear c12
                      try clear c12b0
                      try clear c13
                      try clear c13b0
                      try clear c14
                      try clear c14b0
                      try clear c15
                      try clear c15b0
                      try clear c15b1
                      try clear c16
                      try clear c17
                      try clear q21
                      try clear hx511_0
                      try clear p2
                      try clear p511
                      try clear q21
                      try clear q511
                      obtain ⟨x1_2, x8_2, x10_2, rfl, HA, HK2, HO_1, HO_7, HO_8, HK, HB⟩ := hrel
                      cases gk with
                      | zero => exact absurd HA.out (by simp [spec_released.l1])
                      | succ k2 =>
                        have H := HA.out
                        clear HA
                        simp only [spec_released.l1] at H
                        by_cases c24 : 0 ≤ (rd x8_1 (ji11))
                        · rw [if_pos c24] at H
                          have c24b0 : decide (0 ≤ (rd x8_1 (ji11))) = true := decide_eq_true c24
                          clear c24
                          by_cases c25 : (rd x8_1 (ji11)) < (l0.length : Int)
                          · rw [if_pos c25] at H
                            have c25b0 : decide ((rd x8_1 (ji11)) < (l0.length : Int)) = true := decide_eq_true c25
                            clear c25
                            by_cases c26 : x10_2 < ((rd_L2 l0 (rd x8_1 (ji11))).length : Int)
                            · rw [if_pos c26] at H
                              have c26b0 : decide (x10_2 < ((rd_L2 l0 (rd x8_1 (ji11))).length : Int)) = true := decide_eq_true c26
                              clear c26
                              by_cases c27 : 0 ≤ x10_2
                              · rw [if_pos c27] at H
                                have c27b0 : decide (0 ≤ x10_2) = true := decide_eq_true c27
                                clear c27
                                by_cases c28 : 0 ≤ (rd (rd_L2 l0 (rd x8_1 (ji11))) x10_2)
                                · rw [if_pos c28] at H
                                  have c28b0 : decide (0 ≤ (rd (rd_L2 l0 (rd x8_1 (ji11))) x10_2)) = true := decide_eq_true c28
                                  clear c28
                                  by_cases c29 : (rd (rd_L2 l0 (rd x8_1 (ji11))) x10_2) < (x1_2.length : Int)
                                  · rw [if_pos c29] at H
                                    have c29b0 : decide ((rd (rd_L2 l0 (rd x8_1 (ji11))) x10_2) < (x1_2.length : Int)) = true := decide_eq_true c29
                                    clear c29
                                    obtain ⟨y529, hy529⟩ : ∃ y_ : List Int, y_ = (x1_2.set ((rd (rd_L2 l0 (rd x8_1 (ji11))) x10_2) : Int).toNat (wrap64 ((rd x1_2 (rd (rd_L2 l0 (rd x8_1 (ji11))) x10_2)) - 1))) := ⟨_, rfl⟩
                                    replace H : (if (rd y529 (rd (rd_L2 l0 (rd x8_1 (ji11))) x10_2)) = 0 then (if x8_2.length < 17592186044416 then (spec_released.l1 k2 l0 y529 y522 (x8_2 ++ [rd (rd_L2 l0 (rd x8_1 (ji11))) x10_2]) (rd x8_1 (ji11)) (wrap64 (x10_2 + 1))) else (none)) else (spec_released.l1 k2 l0 y529 y522 x8_2 (rd x8_1 (ji11)) (wrap64 (x10_2 + 1)))) = some (r1, r2) := by first | (rw [hy529]; with_reducible exact H) | (have H2_ := (Option.bind_some _ _).symm.trans H; rw [hy529]; with_reducible exact H2_) | (have H2_ := (Option.bind_some _ _).symm.trans H; with_reducible exact H2_) | with_reducible exact H | (rw [hy529]; exact H) | exact H
                                    have Ny529 := Aside0.mk hy529
                                    clear hy529
                                    by_cases c31 : (rd y529 (rd (rd_L2 l0 (rd x8_1 (ji11))) x10_2)) = 0
                                    · rw [if_pos c31] at H
                                      have c31b0 : ((rd y529 (rd (rd_L2 l0 (rd x8_1 (ji11))) x10_2)) == 0) = true := beq_iff_eq.mpr c31
                                      have c31b1 : ((rd y529 (rd (rd_L2 l0 (rd x8_1 (ji11))) x10_2)) != 0) = false := bne_eq_false_iff_eq.mpr c31
                                      clear c31
                                      by_cases c32 : x8_2.length < 17592186044416
                                      · rw [if_pos c32] at H
                                        have LMc32 := Aside0.mk c32
                                        clear c32
                                        obtain ⟨y531, hy531⟩ : ∃ y_ : List Int, y_ = (x8_2 ++ [rd (rd_L2 l0 (rd x8_1 (ji11))) x10_2]) := ⟨_, rfl⟩
                                        replace H : (spec_released.l1 k2 l0 y529 y522 y531 (rd x8_1 (ji11)) (wrap64 (x10_2 + 1))) = some (r1, r2) := by first | (rw [hy531]; with_reducible exact H) | (have H2_ := (Option.bind_some _ _).symm.trans H; rw [hy531]; with_reducible exact H2_) | (have H2_ := (Option.bind_some _ _).symm.trans H; with_reducible exact H2_) | with_reducible exact H | (rw [hy531]; exact H) | exact H
                                        have Ny531 := Aside0.mk hy531
                                        clear hy531
                                        have H' := Aside0.mk H
                                        clear H
                                        have p525 : 0 ≤ ((rd x8_1 (ji11)) : Int) := of_decide_eq_true (by first | (with_reducible assumption) | assumption)
                                        have q525 : (rd x8_1 (ji11)) < (l0.length : Int) := of_decide_eq_true (by first | (with_reducible assumption) | assumption)
                                        obtain ⟨ad525, A525_0, c525_0, e525, hx525_0, hl525_0, hi525_0⟩ := at_L2_kept HR0.out (rd x8_1 (ji11)) p525 q525
                                        replace hx525_0 := hx525_0 _ HK.out
                                        cases e525
                                        have HR525_0 := Aside0.mk hi525_0
                                        have HC525_0 := Aside0.mk hl525_0
                                        clear hi525_0 hl525_0
                                        replace p525 := eq_true p525
                                        replace q525 := eq_true q525
                                        have p526 : 0 ≤ ((rd x8_1 (ji11)) : Int) := of_decide_eq_true (by first | (with_reducible assumption) | assumption)
                                        have q526 : (rd x8_1 (ji11)) < (l0.length : Int) := of_decide_eq_true (by first | (with_reducible assumption) | assumption)
                                        obtain ⟨ad526, A526_0, c526_0, e526, hx526_0, hl526_0, hi526_0⟩ := at_L2_kept HR0.out (rd x8_1 (ji11)) p526 q526
                                        replace hx526_0 := hx526_0 _ HK.out
                                        obtain rfl : ad525 = ad526 := (by injection e526)
                                        have HR526_0 := Aside0.mk hi526_0
                                        have HC526_0 := Aside0.mk hl526_0
                                        clear hi526_0 hl526_0
                                        replace p526 := eq_true p526
                                        replace q526 := eq_true q526
                                        have ea_ := Option.some.inj (hx525_0.symm.trans hx526_0)
                                        injection ea_ with ea_ en_ ec_
                                        subst ea_
                                        subst ec_
                                        clear en_
                                        have p527 : 0 ≤ (x10_2 : Int) := of_decide_eq_true (by first | (with_reducible assumption) | assumption)
                                        have q527 : x10_2 < ((rd_L2 l0 (rd x8_1 (ji11))).length : Int) := of_decide_eq_true (by first | (with_reducible assumption) | assumption)
                                        obtain ⟨ad527, e527, hx527_0⟩ := Kd.at_int (Kd.C_kept_now HR526_0.out HK.out) x10_2 p527 q527
                                        cases e527
                                        replace p527 := eq_true p527
                                        replace q527 := eq_true q527
                                        obtain ⟨Ao33, co33, eo33⟩ := Kd.R_slice HO_1.out
                                        subst eo33
                                        have p528 : 0 ≤ ((rd (rd_L2 l0 (rd x8_1 (ji11))) x10_2) : Int) := of_decide_eq_true (by first | (with_reducible assumption) | assumption)
                                        have q528 : (rd (rd_L2 l0 (rd x8_1 (ji11))) x10_2) < (x1_2.length : Int) := of_decide_eq_true (by first | (with_reducible assumption) | assumption)
                                        obtain ⟨ad528, e528, hx528_0⟩ := Kd.at_int (Kd.R_reads' HO_1.out).2.2 (rd (rd_L2 l0 (rd x8_1 (ji11))) x10_2) p528 q528
                                        cases e528
                                        replace p528 := eq_true p528
                                        replace q528 := eq_true q528
                                        have p30 : 0 ≤ ((rd (rd_L2 l0 (rd x8_1 (ji11))) x10_2) : Int) := of_decide_eq_true (by first | (with_reducible assumption) | assumption)
                                        have q30 : ((rd (rd_L2 l0 (rd x8_1 (ji11))) x10_2) : Int) < ((x1_2.length : Int) : Int) := of_decide_eq_true (by first | (with_reducible assumption) | assumption)
                                        obtain ⟨go30, co30, eo30, gb30, gl30, cl30, HG30⟩ := Kd.R_form HO_1.out (by omega)
                                        (first | cases eo30 | (injection eo30 with ea_ en_ ec_; (first | subst ea_ | (injection ea_ with ea_; subst ea_)); subst ec_; clear en_))
                                        have GB30 := Aside0.mk gb30
                                        have GG30 := Aside0.mk HG30
                                        clear gb30 gl30 HG30
                                        have HMgo30 := Aside0.mk (show (P1_ go30 ∨ w.heap.size ≤ go30) from (HO_1.out.1 _ rfl).1)
                                        (first | simp only [add_plain] at hx528_0 | skip)
                                        obtain ⟨hx30_0, hf30_0⟩ := Kd.R_celln 0 HO_1.out ((rd (rd_L2 l0 (rd x8_1 (ji11))) x10_2) : Int) p30 q30
                                        replace p30 := eq_true p30
                                        replace q30 := eq_true q30
                                        have HP34 := Kd.R_putg HO_1.out ((rd (rd_L2 l0 (rd x8_1 (ji11))) x10_2) : Int) (wrap64 ((rd x1_2 (rd (rd_L2 l0 (rd x8_1 (ji11))) x10_2)) - 1))
                                        go_wp2_with (first | ((with_reducible refine gate_store (t := 3) (p := 59) rfl ?_); refine store_event (t := 3) (p := 59) (v := ?vo_w35) (w1 := (wr.setCell ⟨go30, ((rd (rd_L2 l0 (rd x8_1 (ji11))) x10_2) : Int).toNat, none⟩ (.int .i64 (wrap64 ((rd x1_2 (rd (rd_L2 l0 (rd x8_1 (ji11))) x10_2)) - 1))))) ?hg ?ho ?hn ?hr ?_; (case ho => rfl); (case hg => rfl); (case hn => rfl); (case hr => first | (go_simp; done) | (go_simp; rfl)); intro w35 hw; have hg : wr.grownBy w35 (some go30) := (by rw [hw]; exact HP34.2); have hp_ : Kd.R (Kd.int .i64) 3 w35 w0.heap.size (fun k_ => (P1_ k_ ∨ w.heap.size ≤ k_) ∧ some k_ ≠ (v523 : Value).ownBlock ∧ some k_ ≠ (u8 : Value).ownBlock) (.slice (some ⟨go30, 0, none⟩) x1_2.length co33) y529 := (by rw [hw, Ny529.out]; exact HP34.1); clear HP34; have n0_ := Aside0.mk (hp_); have n1_ := Aside0.mk (Kd.R_after (v := (.slice (some ⟨go30, 0, none⟩) x1_2.length co33)) (v1 := (.slice (some ⟨go30, 0, none⟩) x1_2.length co33)) (ok := (fun k_ => (P1_ k_ ∨ w.heap.size ≤ k_) ∧ some k_ ≠ (u8 : Value).ownBlock)) (by (with_reducible repeat (first | apply Kd.R_alloc | apply Kd.R_drewN | apply Kd.R_drew)); exact Kd.R_mono HO_7.out (fun _ hk => ⟨⟨hk.1, hk.2.2⟩, hk.2.1⟩)) hg (.inl rfl)); have n2_ := Aside0.mk (Kd.R_after (v := (.slice (some ⟨go30, 0, none⟩) x1_2.length co33)) (v1 := (.slice (some ⟨go30, 0, none⟩) x1_2.length co33)) (ok := (fun k_ => (P1_ k_ ∨ w.heap.size ≤ k_) ∧ some k_ ≠ (v523 : Value).ownBlock)) (by (with_reducible repeat (first | apply Kd.R_alloc | apply Kd.R_drewN | apply Kd.R_drew)); exact Kd.R_mono HO_8.out (fun _ hk => ⟨⟨hk.1, hk.2.2⟩, hk.2.1⟩)) hg (.inl rfl)); have n3_ := Aside0.mk ((by rw [hw]; exact below_set (HB.out) GB30.out : Below w0.heap.size w0 w35)); have n4_ := Aside0.mk (Kept.of_grown (S := (fun k_ => P1_ k_)) hg (by repeat (first | (with_reducible first | exact HK.out | apply Kept.alloc | apply Kept.drewN | apply Kept.drew) | exact HK.out)) (fun k_ e_ => (HO_1.out.1 k_ e_).1)); clear HO_1; clear HO_7; clear HO_8; clear HB; clear HK; have HO_1 := n0_; have HO_7 := n1_; have HO_8 := n2_; have HB := n3_; have HK := n4_; clear n0_ n1_ n2_ n3_ n4_; clear hg hw hp_; have p530 : 0 ≤ ((rd (rd_L2 l0 (rd x8_1 (ji11))) x10_2) : Int) := of_decide_eq_true (by first | (with_reducible assumption) | assumption); have q530 : (rd (rd_L2 l0 (rd x8_1 (ji11))) x10_2) < (y529.length : Int) := (by have h_ : ((rd (rd_L2 l0 (rd x8_1 (ji11))) x10_2) : Int) < ((x1_2.length : Int) : Int) := of_decide_eq_true (by first | (with_reducible assumption) | assumption); first | (have e_ := (Kd.R_reads' HO_1.out).1; omega) | simpa only [Ny529.out, List.length_set] using h_); have ql530 : (((rd (rd_L2 l0 (rd x8_1 (ji11))) x10_2) : Int) < ((x1_2.length : Int) : Int)) = True := eq_true (of_decide_eq_true (by first | (with_reducible assumption) | assumption)); obtain ⟨ad530, e530, hx530_0⟩ := Kd.at_int (Kd.R_reads' HO_1.out).2.2 (rd (rd_L2 l0 (rd x8_1 (ji11))) x10_2) p530 q530; obtain rfl : (⟨go30, 0, none⟩ : Addr) = ad530 := (by injection e530); (first | simp only [add_plain] at hx530_0 | simp only [add_at] at hx530_0 | simp only [Addr.add, Nat.zero_add] at hx530_0 | skip); replace p530 := eq_true p530; replace q530 := eq_true q530) | ((with_reducible refine gate_builtin (b := .append) (xs := #[.tmp 65, .tmp 67]) rfl ?_); at_builtin; refine Kd.R_append (Kd.int .i64) (w0 := w0) w0.heap.size rfl (.tmp 65) (.tmp 67) 24 3 (.int .i64 0) 8 rfl Try.underlying24 info3 rfl (by decide) (by omega) u8 x8_2 (rd (rd_L2 l0 (rd x8_1 (ji11))) x10_2) [.int .i64 (rd (rd_L2 l0 (rd x8_1 (ji11))) x10_2)] (fun k_ => (P1_ k_ ∨ w.heap.size ≤ k_) ∧ some k_ ≠ (.slice (some ⟨go30, 0, none⟩) x1_2.length co33 : Value).ownBlock ∧ some k_ ≠ (v523 : Value).ownBlock) (fun _ => False) rfl rfl ?aP (fun _ hk => hk.elim) ?aF ?aO ?aB ?aS ?aL ?_; (case aP => exact rfl); (case aB => exact (by repeat (first | (with_reducible first | exact HB.out | apply below_alloc | apply pw_below_drewN | apply below_drew1) | exact HB.out))); (case aF => exact (fun k_ hk => ⟨(.inr (Nat.le_trans (by first | exact HK.out.1 | exact (show Kept w _ (fun k_ => P1_ k_) from by repeat (first | (with_reducible first | exact HK.out | apply Kept.alloc | apply Kept.drewN | apply Kept.drew) | exact HK.out)).1) hk)), Kd.fresh' (Kd.R_lt (by (with_reducible repeat (first | apply Kd.R_alloc | apply Kd.R_drewN | apply Kd.R_drew)); exact HO_1.out)) k_ hk, Kd.fresh' (Kd.R_lt (by (with_reducible repeat (first | apply Kd.R_alloc | apply Kd.R_drewN | apply Kd.R_drew)); exact HO_7.out)) k_ hk⟩)); (case aO => exact (by (with_reducible repeat (first | apply Kd.R_alloc | apply Kd.R_drewN | apply Kd.R_drew)); exact Kd.R_mono HO_8.out (fun _ hk => ⟨hk.1.1, ⟨hk.2, hk.1.2⟩⟩))); (case aS => exact (below_size (by repeat (first | (with_reducible first | exact HB.out | apply below_alloc | apply pw_below_drewN | apply below_drew1) | exact HB.out)))); (case aL => have := LMc32.out; omega); intro v532 w36 ho hb hg hat; rw [← Ny531.out] at ho; have n0_ := Aside0.mk (Kd.R_after (ok := (fun k_ => (P1_ k_ ∨ w.heap.size ≤ k_) ∧ some k_ ≠ (v523 : Value).ownBlock)) (by (with_reducible repeat (first | apply Kd.R_alloc | apply Kd.R_drewN | apply Kd.R_drew)); exact Kd.R_mono HO_1.out (fun _ hk => ⟨⟨hk.1, hk.2.1⟩, hk.2.2⟩)) hg hat); have n1_ := Aside0.mk (Kd.R_after (ok := (fun k_ => (P1_ k_ ∨ w.heap.size ≤ k_) ∧ some k_ ≠ (.slice (some ⟨go30, 0, none⟩) x1_2.length co33 : Value).ownBlock)) (by (with_reducible repeat (first | apply Kd.R_alloc | apply Kd.R_drewN | apply Kd.R_drew)); exact Kd.R_mono HO_7.out (fun _ hk => ⟨⟨hk.1.1, hk.2⟩, hk.1.2⟩)) hg hat); have n2_ := Aside0.mk (hb); have n3_ := Aside0.mk (Kept.of_grown (S := (fun k_ => P1_ k_)) hg (by repeat (first | (with_reducible first | exact HK.out | apply Kept.alloc | apply Kept.drewN | apply Kept.drew) | exact HK.out)) (fun k_ e_ => (HO_8.out.1 k_ e_).1.1)); have n4_ := Aside0.mk (ho); clear HO_1; clear HO_7; clear HB; clear HK; clear HO_8; have HO_1 := n0_; have HO_7 := n1_; have HB := n2_; have HK := n3_; have HO533 := n4_; clear n0_ n1_ n2_ n3_ n4_; clear ho hb hg hat))
                                        go_roundg k2
                                        case measure => have := HK1.out; have := HK2.out; omega
                                        case rel => exact ⟨(y529), (y531), (wrap64 (x10_2 + 1)), (by first | rfl | (simp; done) | (simp [*]; done)), H', ⟨by have := HK1.out; have := HK2.out; omega⟩, ⟨by (with_reducible repeat (first | apply Kd.R_alloc | apply Kd.R_drewN | apply Kd.R_drew)); exact Kd.R_mono HO_1.out (fun _ hk => ⟨hk.1.1, ⟨hk.1.2, hk.2⟩⟩)⟩, ⟨by (with_reducible repeat (first | apply Kd.R_alloc | apply Kd.R_drewN | apply Kd.R_drew)); exact Kd.R_mono HO_7.out (fun _ hk => ⟨hk.1.1, ⟨hk.1.2, hk.2⟩⟩)⟩, ⟨by (with_reducible repeat (first | apply Kd.R_alloc | apply Kd.R_drewN | apply Kd.R_drew)); exact HO533.out⟩, ⟨by repeat (first | (with_reducible first | exact HK.out | apply Kept.alloc | apply Kept.drewN | apply Kept.drew) | exact HK.out)⟩, ⟨by repeat (first | (with_reducible first | exact HB.out | apply below_alloc | apply pw_below_drewN | apply below_drew1) | exact HB.out)⟩⟩
                                      · rw [if_neg c32] at H
                                        exact absurd H (by simp)
                                    · rw [if_neg c31] at H
                                      have c31b0 : ((rd y529 (rd (rd_L2 l0 (rd x8_1 (ji11))) x10_2)) == 0) = false := beq_eq_false_iff_ne.mpr c31
                                      have c31b1 : ((rd y529 (rd (rd_L2 l0 (rd x8_1 (ji11))) x10_2)) != 0) = true := bne_iff_ne.mpr c31
                                      have H' := Aside0.mk H
                                      clear H
                                      have p525 : 0 ≤ ((rd x8_1 (ji11)) : Int) := of_decide_eq_true (by first | (with_reducible assumption) | assumption)
                                      have q525 : (rd x8_1 (ji11)) < (l0.length : Int) := of_decide_eq_true (by first | (with_reducible assumption) | assumption)
                                      obtain ⟨ad525, A525_0, c525_0, e525, hx525_0, hl525_0, hi525_0⟩ := at_L2_kept HR0.out (rd x8_1 (ji11)) p525 q525
                                      replace hx525_0 := hx525_0 _ HK.out
                                      cases e525
                                      have HR525_0 := Aside0.mk hi525_0
                                      have HC525_0 := Aside0.mk hl525_0
                                      clear hi525_0 hl525_0
                                      replace p525 := eq_true p525
                                      replace q525 := eq_true q525
                                      have p526 : 0 ≤ ((rd x8_1 (ji11)) : Int) := of_decide_eq_true (by first | (with_reducible assumption) | assumption)
                                      have q526 : (rd x8_1 (ji11)) < (l0.length : Int) := of_decide_eq_true (by first | (with_reducible assumption) | assumption)
                                      obtain ⟨ad526, A526_0, c526_0, e526, hx526_0, hl526_0, hi526_0⟩ := at_L2_kept HR0.out (rd x8_1 (ji11)) p526 q526
                                      replace hx526_0 := hx526_0 _ HK.out
                                      obtain rfl : ad525 = ad526 := (by injection e526)
                                      have HR526_0 := Aside0.mk hi526_0
                                      have HC526_0 := Aside0.mk hl526_0
                                      clear hi526_0 hl526_0
                                      replace p526 := eq_true p526
                                      replace q526 := eq_true q526
                                      have ea_ := Option.some.inj (hx525_0.symm.trans hx526_0)
                                      injection ea_ with ea_ en_ ec_
                                      subst ea_
                                      subst ec_
                                      clear en_
                                      have p527 : 0 ≤ (x10_2 : Int) := of_decide_eq_true (by first | (with_reducible assumption) | assumption)
                                      have q527 : x10_2 < ((rd_L2 l0 (rd x8_1 (ji11))).length : Int) := of_decide_eq_true (by first | (with_reducible assumption) | assumption)
                                      obtain ⟨ad527, e527, hx527_0⟩ := Kd.at_int (Kd.C_kept_now HR526_0.out HK.out) x10_2 p527 q527
                                      cases e527
                                      replace p527 := eq_true p527
                                      replace q527 := eq_true q527
                                      obtain ⟨Ao37, co37, eo37⟩ := Kd.R_slice HO_1.out
                                      subst eo37
                                      have p528 : 0 ≤ ((rd (rd_L2 l0 (rd x8_1 (ji11))) x10_2) : Int) := of_decide_eq_true (by first | (with_reducible assumption) | assumption)
                                      have q528 : (rd (rd_L2 l0 (rd x8_1 (ji11))) x10_2) < (x1_2.length : Int) := of_decide_eq_true (by first | (with_reducible assumption) | assumption)
                                      obtain ⟨ad528, e528, hx528_0⟩ := Kd.at_int (Kd.R_reads' HO_1.out).2.2 (rd (rd_L2 l0 (rd x8_1 (ji11))) x10_2) p528 q528
                                      cases e528
                                      replace p528 := eq_true p528
                                      replace q528 := eq_true q528
                                      have p30 : 0 ≤ ((rd (rd_L2 l0 (rd x8_1 (ji11))) x10_2) : Int) := of_decide_eq_true (by first | (with_reducible assumption) | assumption)
                                      have q30 : ((rd (rd_L2 l0 (rd x8_1 (ji11))) x10_2) : Int) < ((x1_2.length : Int) : Int) := of_decide_eq_true (by first | (with_reducible assumption) | assumption)
                                      obtain ⟨go30, co30, eo30, gb30, gl30, cl30, HG30⟩ := Kd.R_form HO_1.out (by omega)
                                      (first | cases eo30 | (injection eo30 with ea_ en_ ec_; (first | subst ea_ | (injection ea_ with ea_; subst ea_)); subst ec_; clear en_))
                                      have GB30 := Aside0.mk gb30
                                      have GG30 := Aside0.mk HG30
                                      clear gb30 gl30 HG30
                                      have HMgo30 := Aside0.mk (show (P1_ go30 ∨ w.heap.size ≤ go30) from (HO_1.out.1 _ rfl).1)
                                      (first | simp only [add_plain] at hx528_0 | skip)
                                      obtain ⟨hx30_0, hf30_0⟩ := Kd.R_celln 0 HO_1.out ((rd (rd_L2 l0 (rd x8_1 (ji11))) x10_2) : Int) p30 q30
                                      replace p30 := eq_true p30
                                      replace q30 := eq_true q30
                                      have HP38 := Kd.R_putg HO_1.out ((rd (rd_L2 l0 (rd x8_1 (ji11))) x10_2) : Int) (wrap64 ((rd x1_2 (rd (rd_L2 l0 (rd x8_1 (ji11))) x10_2)) - 1))
                                      go_wp2_with (first | ((with_reducible refine gate_store (t := 3) (p := 59) rfl ?_); refine store_event (t := 3) (p := 59) (v := ?vo_w39) (w1 := (wr.setCell ⟨go30, ((rd (rd_L2 l0 (rd x8_1 (ji11))) x10_2) : Int).toNat, none⟩ (.int .i64 (wrap64 ((rd x1_2 (rd (rd_L2 l0 (rd x8_1 (ji11))) x10_2)) - 1))))) ?hg ?ho ?hn ?hr ?_; (case ho => rfl); (case hg => rfl); (case hn => rfl); (case hr => first | (go_simp; done) | (go_simp; rfl)); intro w39 hw; have hg : wr.grownBy w39 (some go30) := (by rw [hw]; exact HP38.2); have hp_ : Kd.R (Kd.int .i64) 3 w39 w0.heap.size (fun k_ => (P1_ k_ ∨ w.heap.size ≤ k_) ∧ some k_ ≠ (v523 : Value).ownBlock ∧ some k_ ≠ (u8 : Value).ownBlock) (.slice (some ⟨go30, 0, none⟩) x1_2.length co37) y529 := (by rw [hw, Ny529.out]; exact HP38.1); clear HP38; have n0_ := Aside0.mk (hp_); have n1_ := Aside0.mk (Kd.R_after (v := (.slice (some ⟨go30, 0, none⟩) x1_2.length co37)) (v1 := (.slice (some ⟨go30, 0, none⟩) x1_2.length co37)) (ok := (fun k_ => (P1_ k_ ∨ w.heap.size ≤ k_) ∧ some k_ ≠ (u8 : Value).ownBlock)) (by (with_reducible repeat (first | apply Kd.R_alloc | apply Kd.R_drewN | apply Kd.R_drew)); exact Kd.R_mono HO_7.out (fun _ hk => ⟨⟨hk.1, hk.2.2⟩, hk.2.1⟩)) hg (.inl rfl)); have n2_ := Aside0.mk (Kd.R_after (v := (.slice (some ⟨go30, 0, none⟩) x1_2.length co37)) (v1 := (.slice (some ⟨go30, 0, none⟩) x1_2.length co37)) (ok := (fun k_ => (P1_ k_ ∨ w.heap.size ≤ k_) ∧ some k_ ≠ (v523 : Value).ownBlock)) (by (with_reducible repeat (first | apply Kd.R_alloc | apply Kd.R_drewN | apply Kd.R_drew)); exact Kd.R_mono HO_8.out (fun _ hk => ⟨⟨hk.1, hk.2.2⟩, hk.2.1⟩)) hg (.inl rfl)); have n3_ := Aside0.mk ((by rw [hw]; exact below_set (HB.out) GB30.out : Below w0.heap.size w0 w39)); have n4_ := Aside0.mk (Kept.of_grown (S := (fun k_ => P1_ k_)) hg (by repeat (first | (with_reducible first | exact HK.out | apply Kept.alloc | apply Kept.drewN | apply Kept.drew) | exact HK.out)) (fun k_ e_ => (HO_1.out.1 k_ e_).1)); clear HO_1; clear HO_7; clear HO_8; clear HB; clear HK; have HO_1 := n0_; have HO_7 := n1_; have HO_8 := n2_; have HB := n3_; have HK := n4_; clear n0_ n1_ n2_ n3_ n4_; clear hg hw hp_; have p530 : 0 ≤ ((rd (rd_L2 l0 (rd x8_1 (ji11))) x10_2) : Int) := of_decide_eq_true (by first | (with_reducible assumption) | assumption); have q530 : (rd (rd_L2 l0 (rd x8_1 (ji11))) x10_2) < (y529.length : Int) := (by have h_ : ((rd (rd_L2 l0 (rd x8_1 (ji11))) x10_2) : Int) < ((x1_2.length : Int) : Int) := of_decide_eq_true (by first | (with_reducible assumption) | assumption); first | (have e_ := (Kd.R_reads' HO_1.out).1; omega) | simpa only [Ny529.out, List.length_set] using h_); have ql530 : (((rd (rd_L2 l0 (rd x8_1 (ji11))) x10_2) : Int) < ((x1_2.length : Int) : Int)) = True := eq_true (of_decide_eq_true (by first | (with_reducible assumption) | assumption)); obtain ⟨ad530, e530, hx530_0⟩ := Kd.at_int (Kd.R_reads' HO_1.out).2.2 (rd (rd_L2 l0 (rd x8_1 (ji11))) x10_2) p530 q530; obtain rfl : (⟨go30, 0, none⟩ : Addr) = ad530 := (by injection e530); (first | simp only [add_plain] at hx530_0 | simp only [add_at] at hx530_0 | simp only [Addr.add, Nat.zero_add] at hx530_0 | skip); replace p530 := eq_true p530; replace q530 := eq_true q530))
                                      go_roundg k2
                                      case measure => have := HK1.out; have := HK2.out; omega
                                      case rel => exact ⟨(y529), (x8_2), (wrap64 (x10_2 + 1)), (by first | rfl | (simp; done) | (simp [*]; done)), H', ⟨by have := HK1.out; have := HK2.out; omega⟩, ⟨by (with_reducible repeat (first | apply Kd.R_alloc | apply Kd.R_drewN | apply Kd.R_drew)); exact HO_1.out⟩, ⟨by (with_reducible repeat (first | apply Kd.R_alloc | apply Kd.R_drewN | apply Kd.R_drew)); exact Kd.R_mono HO_7.out (fun _ hk => ⟨hk.1.1, ⟨hk.2, hk.1.2⟩⟩)⟩, ⟨by (with_reducible repeat (first | apply Kd.R_alloc | apply Kd.R_drewN | apply Kd.R_drew)); exact Kd.R_mono HO_8.out (fun _ hk => ⟨hk.1.1, ⟨hk.2, hk.1.2⟩⟩)⟩, ⟨by repeat (first | (with_reducible first | exact HK.out | apply Kept.alloc | apply Kept.drewN | apply Kept.drew) | exact HK.out)⟩, ⟨by repeat (first | (with_reducible first | exact HB.out | apply below_alloc | apply pw_below_drewN | apply below_drew1) | exact HB.out)⟩⟩
                                  · rw [if_neg c29] at H
                                    exact absurd H (by simp)
                                · rw [if_neg c28] at H
                                  exact absurd H (by simp)
                              · rw [if_neg c27] at H
                                exact absurd H (by simp)
                            · rw [if_neg c26] at H
                              have c26b0 : decide (x10_2 < ((rd_L2 l0 (rd x8_1 (ji11))).length : Int)) = false := decide_eq_false c26
                              clear c26
                              have H' := Aside0.mk H
                              clear H
                              have p525 : 0 ≤ ((rd x8_1 (ji11)) : Int) := of_decide_eq_true (by first | (with_reducible assumption) | assumption)
                              have q525 : (rd x8_1 (ji11)) < (l0.length : Int) := of_decide_eq_true (by first | (with_reducible assumption) | assumption)
                              obtain ⟨ad525, A525_0, c525_0, e525, hx525_0, hl525_0, hi525_0⟩ := at_L2_kept HR0.out (rd x8_1 (ji11)) p525 q525
                              replace hx525_0 := hx525_0 _ HK.out
                              cases e525
                              have HR525_0 := Aside0.mk hi525_0
                              have HC525_0 := Aside0.mk hl525_0
                              clear hi525_0 hl525_0
                              replace p525 := eq_true p525
                              replace q525 := eq_true q525
                              go_wp2
                              go_roundg k2
                              case measure => have := HK1.out; have := HK2.out; omega
                              case rel => exact ⟨(x1_2), (y522), (x8_2), H', ⟨by have := HK1.out; have := HK2.out; omega⟩, ⟨by (with_reducible repeat (first | apply Kd.R_alloc | apply Kd.R_drewN | apply Kd.R_drew)); exact HO_1.out⟩, ⟨by (with_reducible repeat (first | apply Kd.R_alloc | apply Kd.R_drewN | apply Kd.R_drew)); exact HO_7.out⟩, ⟨by (with_reducible repeat (first | apply Kd.R_alloc | apply Kd.R_drewN | apply Kd.R_drew)); exact HO_8.out⟩, ⟨by repeat (first | (with_reducible first | exact HK.out | apply Kept.alloc | apply Kept.drewN | apply Kept.drew) | exact HK.out)⟩, ⟨by repeat (first | (with_reducible first | exact HB.out | apply below_alloc | apply pw_below_drewN | apply below_drew1) | exact HB.out)⟩⟩
                          · rw [if_neg c25] at H
                            exact absurd H (by simp)
                        · rw [if_neg c24] at H
                          exact absurd H (by simp)
                  · rw [if_neg c17] at H
                    exact absurd H (by simp)
                · rw [if_neg c16] at H
                  exact absurd H (by simp)
              · rw [if_neg c15] at H
                exact absurd H (by simp)
            · rw [if_neg c13] at H
              exact absurd H (by simp)
          · rw [if_neg c12] at H
            exact absurd H (by simp)
        · rw [if_neg c10] at H
          have c10b0 : decide (0 < (x8_1.length : Int)) = false := decide_eq_false c10
          have c10b1 : decide (0 < x8_1.length) = false := decide_eq_false (by omega)
          clear c10
          simp only [Option.some.injEq, Prod.mk.injEq] at H
          obtain ⟨rfl, rfl⟩ := H
          obtain ⟨Ao40, co40, eo40⟩ := Kd.R_slice HO_8.out
          subst eo40
          go_wp2
          go_ret
          exact ⟨_, by first | rfl | (simp [errW_none, errW_some] <;> rfl) | (simp [*, errW_none, errW_some] <;> rfl), by (with_reducible repeat (first | apply Kd.R_alloc | apply Kd.R_drewN | apply Kd.R_drew)); exact Kd.R_mono HO_7.out (fun _ hk => ⟨hk.1, hk.2.1⟩), by (with_reducible repeat (first | apply Kd.R_alloc | apply Kd.R_drewN | apply Kd.R_drew)); exact Kd.R_mono HO_1.out (fun _ hk => hk.1), by repeat (first | (with_reducible first | exact HB.out | apply below_alloc | apply pw_below_drewN | apply below_drew1) | exact HB.out), by repeat (first | (with_reducible first | exact HK.out | apply Kept.alloc | apply Kept.drewN | apply Kept.drew) | exact HK.out)⟩
  · rw [if_neg c4] at H
    exact absurd H (by simp)

/-! ### impl_freed: function 68 -/
mutual
def impl_freed.l0 : Nat → List (List Int) → List Int → List Int → List Int → Option (List Int × List Int)
  | 0, _, _, _, _ => none
  | k + 1, x0, x1, x2, x7 => if (x2.length : Int) > 0 then (if 0 ≤ (wrap64 ((x2.length : Int) - 1)) then (if (wrap64 ((x2.length : Int) - 1)) < (x2.length : Int) then (if (wrap64 ((x2.length : Int) - 1)) ≤ (x2.length : Int) then (if x7.length < 17592186044416 then (if 0 ≤ (rd x2 (wrap64 ((x2.length : Int) - 1))) then (if (rd x2 (wrap64 ((x2.length : Int) - 1))) < (x0.length : Int) then (impl_freed.l1 k x0 x1 (x2.take ((wrap64 ((x2.length : Int) - 1)) : Int).toNat) (x7 ++ [rd x2 (wrap64 ((x2.length : Int) - 1))]) (rd_L2 x0 (rd x2 (wrap64 ((x2.length : Int) - 1)))) ((rd_L2 x0 (rd x2 (wrap64 ((x2.length : Int) - 1)))).length : Int) 0) else (none)) else (none)) else (none)) else (none)) else (none)) else (none)) else (some (x7, x1))
def impl_freed.l1 : Nat → List (List Int) → List Int → List Int → List Int → List Int → Int → Int → Option (List Int × List Int)
  | 0, _, _, _, _, _, _, _ => none
  | k + 1, x0, x1, x2, x7, x32, x33, x34 => if x34 < x33 then (if 0 ≤ x34 then (if x34 < (x32.length : Int) then (if 0 ≤ (rd x32 x34) then (if (rd x32 x34) < (x1.length : Int) then ((some (x1.set ((rd x32 x34) : Int).toNat (wrap64 ((rd x1 (rd x32 x34)) - 1)) : List Int)).bind fun y580 => (if (rd y580 (rd x32 x34)) = 0 then (if x2.length < 17592186044416 then (impl_freed.l1 k x0 y580 (x2 ++ [rd x32 x34]) x7 x32 x33 (wrap64 (x34 + 1))) else (none)) else (impl_freed.l1 k x0 y580 x2 x7 x32 x33 (wrap64 (x34 + 1))))) else (none)) else (none)) else (none)) else (none)) else (impl_freed.l0 k x0 x1 x2 x7)
end
def impl_freed.f (k : Nat) (l0 : List (List Int)) (l1 : List Int) (l2 : List Int) : Option (List Int × List Int) := impl_freed.l0 k l0 l1 l2 ([] : List Int)
theorem impl_freed.mono_l : ∀ k, (∀ y0 y1 y2 y3, LeO (impl_freed.l0 k y0 y1 y2 y3) (impl_freed.l0 (k + 1) y0 y1 y2 y3)) ∧ (∀ y0 y1 y2 y3 y4 y5 y6, LeO (impl_freed.l1 k y0 y1 y2 y3 y4 y5 y6) (impl_freed.l1 (k + 1) y0 y1 y2 y3 y4 y5 y6))
  | 0 => ⟨fun _ _ _ _ r h => by simp [impl_freed.l0] at h, fun _ _ _ _ _ _ _ r h => by simp [impl_freed.l1] at h⟩
  | k + 1 => by
    obtain ⟨ih0, ih1⟩ := impl_freed.mono_l k
    refine ⟨?_, ?_⟩
    · intro y0 y1 y2 y3
      unfold impl_freed.l0
      repeat' first
      | (with_reducible exact ih0 _ _ _ _)
      | (with_reducible exact ih1 _ _ _ _ _ _ _)
      | (with_reducible exact LeO.refl _)
      | (with_reducible exact LeO.none _)
      | (with_reducible refine LeO.ite ?_ ?_)
      | (with_reducible refine LeO.bind ?_ (fun _ => ?_))
      | exact ih0 _ _ _ _
      | exact ih1 _ _ _ _ _ _ _
      | exact LeO.none _
      | refine LeO.ite ?_ ?_
      | refine LeO.bind ?_ (fun _ => ?_)
    · intro y0 y1 y2 y3 y4 y5 y6
      unfold impl_freed.l1
      repeat' first
      | (with_reducible exact ih0 _ _ _ _)
      | (with_reducible exact ih1 _ _ _ _ _ _ _)
      | (with_reducible exact LeO.refl _)
      | (with_reducible exact LeO.none _)
      | (with_reducible refine LeO.ite ?_ ?_)
      | (with_reducible refine LeO.bind ?_ (fun _ => ?_))
      | exact ih0 _ _ _ _
      | exact ih1 _ _ _ _ _ _ _
      | exact LeO.none _
      | refine LeO.ite ?_ ?_
      | refine LeO.bind ?_ (fun _ => ?_)
theorem impl_freed.mono : ∀ a0 a1 a2 k, LeO (impl_freed.f k a0 a1 a2) (impl_freed.f (k + 1) a0 a1 a2) := by
  intro a0 a1 a2 k
  obtain ⟨ih0, ih1⟩ := impl_freed.mono_l k
  unfold impl_freed.f
  repeat' first
      | (with_reducible exact ih0 _ _ _ _)
      | (with_reducible exact ih1 _ _ _ _ _ _ _)
      | (with_reducible exact LeO.refl _)
      | (with_reducible exact LeO.none _)
      | (with_reducible refine LeO.ite ?_ ?_)
      | (with_reducible refine LeO.bind ?_ (fun _ => ?_))
      | exact ih0 _ _ _ _
      | exact ih1 _ _ _ _ _ _ _
      | exact LeO.none _
      | refine LeO.ite ?_ ?_
      | refine LeO.bind ?_ (fun _ => ?_)
set_option maxHeartbeats 8000000 in
set_option maxRecDepth 100000 in
theorem impl_freed.calls (k : Nat) (A0 : Option Addr) (c0 : Nat) (l0 : List (List Int)) (P1_ : Nat → Prop) (u9000_ : Value) (l1 : List Int) (P2_ : Nat → Prop) (u9001_ : Value) (l2 : List Int) (r1 : List Int) (r2 : List Int) (w0 w : World) (hB : Below w0.heap.size w0 w) (hr0 : ∀ W_, Kept w W_ (fun k_ => P1_ k_ ∨ P2_ k_) → Kd.C (Kd.slice 3 (Kd.int .i64)) W_ A0 l0.length l0) (hc0 : l0.length ≤ c0) (ho1 : Kd.R (Kd.int .i64) 3 w w0.heap.size P1_ u9000_ l1) (hp1_2 : ∀ k_, P1_ k_ → ¬ P2_ k_) (ho2 : Kd.R (Kd.int .i64) 3 w w0.heap.size P2_ u9001_ l2) (hp2_1 : ∀ k_, P2_ k_ → ¬ P1_ k_) (h : impl_freed.f k l0 l1 l2 = some (r1, r2)) :
    Calls Try.prog 68 #[.slice A0 l0.length c0, u9000_, u9001_] w fun e w' => ∃ v0_ : Value, e = .returned (v0_) ∧ Kd.R (Kd.int .i64) 3 w' w0.heap.size (fun k_ => ((P1_ k_ ∨ P2_ k_) ∨ w.heap.size ≤ k_) ∧ some k_ ≠ (u9000_ : Value).ownBlock) v0_ r1 ∧ Kd.R (Kd.int .i64) 3 w' w0.heap.size (fun k_ => ((P1_ k_ ∨ P2_ k_) ∨ w.heap.size ≤ k_)) u9000_ r2 ∧ Below w0.heap.size w0 w' ∧ Kept w w' (fun k_ => P1_ k_ ∨ P2_ k_) := by
  have HR0 := Aside0.mk hr0
  have HC0 := Aside0.mk hc0
  clear hr0 hc0
  have HO1 := Aside0.mk (show Kd.R (Kd.int .i64) 3 w w0.heap.size (fun k_ => ((P1_ k_ ∨ P2_ k_) ∨ w.heap.size ≤ k_) ∧ some k_ ≠ (u9001_ : Value).ownBlock) u9000_ l1 from Kd.R_mono ho1 (fun k_ hk => ⟨(.inl (.inl hk)), fun e_ => hp1_2 k_ hk (ho2.1 k_ e_.symm)⟩))
  have HO2 := Aside0.mk (show Kd.R (Kd.int .i64) 3 w w0.heap.size (fun k_ => ((P1_ k_ ∨ P2_ k_) ∨ w.heap.size ≤ k_) ∧ some k_ ≠ (u9000_ : Value).ownBlock) u9001_ l2 from Kd.R_mono ho2 (fun k_ hk => ⟨(.inl (.inr hk)), fun e_ => hp2_1 k_ hk (ho1.1 k_ e_.symm)⟩))
  have HK := Aside0.mk (Kept.refl w (fun k_ => P1_ k_ ∨ P2_ k_))
  have HW0 := Aside0.mk hB.size
  have HB := Aside0.mk hB
  clear hB
  have H : (impl_freed.l0 k l0 l1 l2 ([] : List Int)) = some (r1, r2) := h
  clear h
  have H' := Aside0.mk H
  clear H
  go_enter Try.func68, Try.ntmps68
  go_wp2
  go_loopg [2, 7] k (fun kq v2 v7 w' => ∃ (x1_1 : List Int) (x2_1 : List Int) (x7_1 : List Int), Aside0 (impl_freed.l0 kq l0 x1_1 x2_1 x7_1 = some (r1, r2)) ∧ Aside0 (kq ≤ k) ∧ Aside0 (Kd.R (Kd.int .i64) 3 w' w0.heap.size (fun k_ => ((P1_ k_ ∨ P2_ k_) ∨ w.heap.size ≤ k_) ∧ some k_ ≠ (v2 : Value).ownBlock ∧ some k_ ≠ (v7 : Value).ownBlock) u9000_ x1_1) ∧ Aside0 (Kd.R (Kd.int .i64) 3 w' w0.heap.size (fun k_ => ((P1_ k_ ∨ P2_ k_) ∨ w.heap.size ≤ k_) ∧ some k_ ≠ (u9000_ : Value).ownBlock ∧ some k_ ≠ (v7 : Value).ownBlock) v2 x2_1) ∧ Aside0 (Kd.R (Kd.int .i64) 3 w' w0.heap.size (fun k_ => ((P1_ k_ ∨ P2_ k_) ∨ w.heap.size ≤ k_) ∧ some k_ ≠ (u9000_ : Value).ownBlock ∧ some k_ ≠ (v2 : Value).ownBlock) v7 x7_1) ∧ Aside0 (Kept w w' (fun k_ => P1_ k_ ∨ P2_ k_)) ∧ Aside0 (Below w0.heap.size w0 w'))
  case atStart => exact ⟨(l1), (l2), (([] : List Int)), H', ⟨Nat.le_refl _⟩, ⟨by (with_reducible repeat (first | apply Kd.R_alloc | apply Kd.R_drewN | apply Kd.R_drew)); exact Kd.R_mono HO1.out (fun _ hk => ⟨hk.1, ⟨hk.2, (by simp [Value.ownBlock])⟩⟩)⟩, ⟨by (with_reducible repeat (first | apply Kd.R_alloc | apply Kd.R_drewN | apply Kd.R_drew)); exact Kd.R_mono HO2.out (fun _ hk => ⟨hk.1, ⟨hk.2, (by simp [Value.ownBlock])⟩⟩)⟩, ⟨by first | exact Kd.R_nil _ _ _ _ _ | exact Kd.N_nil _ _ _ _ _ | exact Kd.V_nil _ _ _ _ _ | exact Kd.Q_nil _ _ _ _ _ | exact Kd.S_nil _ _ _ _ _⟩, ⟨by repeat (first | (with_reducible first | exact HK.out | apply Kept.alloc | apply Kept.drewN | apply Kept.drew) | exact HK.out)⟩, ⟨by repeat (first | (with_reducible first | exact HB.out | apply below_alloc | apply pw_below_drewN | apply below_drew1) | exact HB.out)⟩⟩
  case round =>
    clear H'
    try clear p1
    try clear p2
    obtain ⟨x1_1, x2_1, x7_1, HA, HK1, HO_1, HO_2, HO_7, HK, HB⟩ := hrel
    cases gk with
    | zero => exact absurd HA.out (by simp [impl_freed.l0])
    | succ k1 =>
      have H := HA.out
      clear HA
      simp only [impl_freed.l0] at H
      by_cases c4 : (x2_1.length : Int) > 0
      · rw [if_pos c4] at H
        have c4b0 : decide (0 < (x2_1.length : Int)) = true := decide_eq_true c4
        have c4b1 : decide (0 < x2_1.length) = true := decide_eq_true (by omega)
        clear c4
        obtain ⟨ji5, hji5⟩ : ∃ j_ : Int, (wrap64 ((x2_1.length : Int) - 1)) = j_ := ⟨_, rfl⟩
        replace H : (if 0 ≤ (ji5) then (if (ji5) < (x2_1.length : Int) then (if (ji5) ≤ (x2_1.length : Int) then (if x7_1.length < 17592186044416 then (if 0 ≤ (rd x2_1 (ji5)) then (if (rd x2_1 (ji5)) < (l0.length : Int) then (impl_freed.l1 k1 l0 x1_1 (x2_1.take ((ji5) : Int).toNat) (x7_1 ++ [rd x2_1 (ji5)]) (rd_L2 l0 (rd x2_1 (ji5))) ((rd_L2 l0 (rd x2_1 (ji5))).length : Int) 0) else (none)) else (none)) else (none)) else (none)) else (none)) else (none)) = some (r1, r2) := by first | (rw [hji5] at H; exact H) | (simp only [hji5] at H ⊢; exact H)
        have hji5w : (IntKind.i64.wrap ((x2_1.length : Int) - 1)) = ji5 := (i64_w _).trans hji5
        by_cases c6 : 0 ≤ (ji5)
        · rw [if_pos c6] at H
          have c6b0 : decide (0 ≤ (ji5)) = true := decide_eq_true c6
          clear c6
          by_cases c7 : (ji5) < (x2_1.length : Int)
          · rw [if_pos c7] at H
            have c7b0 : decide ((ji5) < (x2_1.length : Int)) = true := decide_eq_true c7
            clear c7
            by_cases c8 : (ji5) ≤ (x2_1.length : Int)
            · rw [if_pos c8] at H
              have c8b0 := eq_true c8
              have c8b1 : decide ((ji5) ≤ (x2_1.length : Int)) = true := decide_eq_true c8
              clear c8
              obtain ⟨y571, hy571⟩ : ∃ y_ : List Int, y_ = (x2_1.take ((ji5) : Int).toNat) := ⟨_, rfl⟩
              replace H : (if x7_1.length < 17592186044416 then (if 0 ≤ (rd x2_1 (ji5)) then (if (rd x2_1 (ji5)) < (l0.length : Int) then (impl_freed.l1 k1 l0 x1_1 y571 (x7_1 ++ [rd x2_1 (ji5)]) (rd_L2 l0 (rd x2_1 (ji5))) ((rd_L2 l0 (rd x2_1 (ji5))).length : Int) 0) else (none)) else (none)) else (none)) = some (r1, r2) := by first | (rw [hy571]; with_reducible exact H) | (have H2_ := (Option.bind_some _ _).symm.trans H; rw [hy571]; with_reducible exact H2_) | (have H2_ := (Option.bind_some _ _).symm.trans H; with_reducible exact H2_) | with_reducible exact H | (rw [hy571]; exact H) | exact H
              have Ny571 := Aside0.mk hy571
              clear hy571
              by_cases c9 : x7_1.length < 17592186044416
              · rw [if_pos c9] at H
                have LMc9 := Aside0.mk c9
                clear c9
                obtain ⟨y574, hy574⟩ : ∃ y_ : List Int, y_ = (x7_1 ++ [rd x2_1 (ji5)]) := ⟨_, rfl⟩
                replace H : (if 0 ≤ (rd x2_1 (ji5)) then (if (rd x2_1 (ji5)) < (l0.length : Int) then (impl_freed.l1 k1 l0 x1_1 y571 y574 (rd_L2 l0 (rd x2_1 (ji5))) ((rd_L2 l0 (rd x2_1 (ji5))).length : Int) 0) else (none)) else (none)) = some (r1, r2) := by first | (rw [hy574]; with_reducible exact H) | (have H2_ := (Option.bind_some _ _).symm.trans H; rw [hy574]; with_reducible exact H2_) | (have H2_ := (Option.bind_some _ _).symm.trans H; with_reducible exact H2_) | with_reducible exact H | (rw [hy574]; exact H) | exact H
                have Ny574 := Aside0.mk hy574
                clear hy574
                by_cases c10 : 0 ≤ (rd x2_1 (ji5))
                · rw [if_pos c10] at H
                  have c10b0 : decide (0 ≤ (rd x2_1 (ji5))) = true := decide_eq_true c10
                  clear c10
                  by_cases c11 : (rd x2_1 (ji5)) < (l0.length : Int)
                  · rw [if_pos c11] at H
                    have c11b0 : decide ((rd x2_1 (ji5)) < (l0.length : Int)) = true := decide_eq_true c11
                    clear c11
                    have H' := Aside0.mk H
                    clear H
                    obtain ⟨Ao12, co12, eo12⟩ := Kd.R_slice HO_2.out
                    subst eo12
                    have p570 : 0 ≤ ((ji5) : Int) := of_decide_eq_true (by first | (with_reducible assumption) | assumption)
                    have q570 : (ji5) < (x2_1.length : Int) := of_decide_eq_true (by first | (with_reducible assumption) | assumption)
                    obtain ⟨ad570, e570, hx570_0⟩ := Kd.at_int (Kd.R_reads' HO_2.out).2.2 (ji5) p570 q570
                    cases e570
                    replace p570 := eq_true p570
                    replace q570 := eq_true q570
                    have q13 : ((ji5) : Int) ≤ ((x2_1.length : Int) : Int) := of_decide_eq_true (by first | (with_reducible assumption) | assumption)
                    obtain ⟨i013, hi013, _, hsz13, _⟩ := info_parts info3
                    have hcut13 := cut_to (P := Try.prog) 24 3 .i64 Try.underlying24 hi013 (some ad570) x2_1.length co12 (ji5) (of_decide_eq_true (by first | (with_reducible assumption) | assumption)) q13 (Kd.R_reads' HO_2.out).2.1
                    have hr13 := Kd.R_take (m := ((ji5) : Int).toNat) HO_2.out (by omega)
                    have hy13 : y571.length = ((ji5) : Int).toNat := (by rw [Ny571.out, List.length_take]; omega)
                    rw [← Ny571.out] at hr13
                    rw [← hy13] at hr13 hcut13
                    clear hy13 hi013 hsz13 HO_2
                    have HO573 := Aside0.mk hr13
                    clear hr13
                    replace q13 := eq_true q13
                    go_wp2_with (first | ((with_reducible refine gate_builtin (b := .append) (xs := #[.tmp 25, .tmp 27]) rfl ?_); at_builtin; refine Kd.R_append (Kd.int .i64) (w0 := w0) w0.heap.size rfl (.tmp 25) (.tmp 27) 24 3 (.int .i64 0) 8 rfl Try.underlying24 info3 rfl (by decide) (by omega) u7 x7_1 (rd x2_1 (ji5)) [.int .i64 (rd x2_1 (ji5))] (fun k_ => ((P1_ k_ ∨ P2_ k_) ∨ w.heap.size ≤ k_) ∧ some k_ ≠ (u9000_ : Value).ownBlock ∧ some k_ ≠ (.slice (some ad570) y571.length co12 : Value).ownBlock) (fun _ => False) rfl rfl ?aP (fun _ hk => hk.elim) ?aF ?aO ?aB ?aS ?aL ?_; (case aP => exact rfl); (case aB => exact (by repeat (first | (with_reducible first | exact HB.out | apply below_alloc | apply pw_below_drewN | apply below_drew1) | exact HB.out))); (case aF => exact (fun k_ hk => ⟨(.inr (Nat.le_trans (by first | exact HK.out.1 | exact (show Kept w _ (fun k_ => P1_ k_ ∨ P2_ k_) from by repeat (first | (with_reducible first | exact HK.out | apply Kept.alloc | apply Kept.drewN | apply Kept.drew) | exact HK.out)).1) hk)), Kd.fresh' (Kd.R_lt (by (with_reducible repeat (first | apply Kd.R_alloc | apply Kd.R_drewN | apply Kd.R_drew)); exact HO_1.out)) k_ hk, Kd.fresh' (Kd.R_lt (by (with_reducible repeat (first | apply Kd.R_alloc | apply Kd.R_drewN | apply Kd.R_drew)); exact HO573.out)) k_ hk⟩)); (case aO => exact (by (with_reducible repeat (first | apply Kd.R_alloc | apply Kd.R_drewN | apply Kd.R_drew)); exact HO_7.out)); (case aS => exact (below_size (by repeat (first | (with_reducible first | exact HB.out | apply below_alloc | apply pw_below_drewN | apply below_drew1) | exact HB.out)))); (case aL => have := LMc9.out; omega); intro v575 w14 ho hb hg hat; rw [← Ny574.out] at ho; have n0_ := Aside0.mk (Kd.R_after (ok := (fun k_ => ((P1_ k_ ∨ P2_ k_) ∨ w.heap.size ≤ k_) ∧ some k_ ≠ (.slice (some ad570) y571.length co12 : Value).ownBlock)) (by (with_reducible repeat (first | apply Kd.R_alloc | apply Kd.R_drewN | apply Kd.R_drew)); exact Kd.R_mono HO_1.out (fun _ hk => ⟨⟨hk.1, hk.2.1⟩, hk.2.2⟩)) hg hat); have n1_ := Aside0.mk (Kd.R_after (ok := (fun k_ => ((P1_ k_ ∨ P2_ k_) ∨ w.heap.size ≤ k_) ∧ some k_ ≠ (u9000_ : Value).ownBlock)) (by (with_reducible repeat (first | apply Kd.R_alloc | apply Kd.R_drewN | apply Kd.R_drew)); exact Kd.R_mono HO573.out (fun _ hk => ⟨⟨hk.1, hk.2.1⟩, hk.2.2⟩)) hg hat); have n2_ := Aside0.mk (hb); have n3_ := Aside0.mk (Kept.of_grown (S := (fun k_ => P1_ k_ ∨ P2_ k_)) hg (by repeat (first | (with_reducible first | exact HK.out | apply Kept.alloc | apply Kept.drewN | apply Kept.drew) | exact HK.out)) (fun k_ e_ => (HO_7.out.1 k_ e_).1)); have n4_ := Aside0.mk (ho); clear HO_1; clear HO573; clear HB; clear HK; clear HO_7; have HO_1 := n0_; have HO573 := n1_; have HB := n2_; have HK := n3_; have HO576 := n4_; clear n0_ n1_ n2_ n3_ n4_; clear ho hb hg hat; have p577 : 0 ≤ ((rd x2_1 (ji5)) : Int) := of_decide_eq_true (by first | (with_reducible assumption) | assumption); have q577 : (rd x2_1 (ji5)) < (l0.length : Int) := of_decide_eq_true (by first | (with_reducible assumption) | assumption); obtain ⟨ad577, A577_0, c577_0, e577, hx577_0, hl577_0, hi577_0⟩ := at_L2_kept HR0.out (rd x2_1 (ji5)) p577 q577; replace hx577_0 := hx577_0 _ HK.out; cases e577; have HR577_0 := Aside0.mk hi577_0; have HC577_0 := Aside0.mk hl577_0; clear hi577_0 hl577_0; replace p577 := eq_true p577; replace q577 := eq_true q577))
                    go_loopg [2, 34] k1 (fun kq v2 v34 w' => ∃ (x1_2 : List Int) (x2_2 : List Int) (x34_2 : Int), v34 = .int .i64 x34_2 ∧ Aside0 (impl_freed.l1 kq l0 x1_2 x2_2 y574 (rd_L2 l0 (rd x2_1 (ji5))) ((rd_L2 l0 (rd x2_1 (ji5))).length : Int) x34_2 = some (r1, r2)) ∧ Aside0 (kq ≤ k1) ∧ Aside0 (Kd.R (Kd.int .i64) 3 w' w0.heap.size (fun k_ => ((P1_ k_ ∨ P2_ k_) ∨ w.heap.size ≤ k_) ∧ some k_ ≠ (v2 : Value).ownBlock ∧ some k_ ≠ (v575 : Value).ownBlock) u9000_ x1_2) ∧ Aside0 (Kd.R (Kd.int .i64) 3 w' w0.heap.size (fun k_ => ((P1_ k_ ∨ P2_ k_) ∨ w.heap.size ≤ k_) ∧ some k_ ≠ (u9000_ : Value).ownBlock ∧ some k_ ≠ (v575 : Value).ownBlock) v2 x2_2) ∧ Aside0 (Kd.R (Kd.int .i64) 3 w' w0.heap.size (fun k_ => ((P1_ k_ ∨ P2_ k_) ∨ w.heap.size ≤ k_) ∧ some k_ ≠ (u9000_ : Value).ownBlock ∧ some k_ ≠ (v2 : Value).ownBlock) v575 y574) ∧ Aside0 (Kept w w' (fun k_ => P1_ k_ ∨ P2_ k_)) ∧ Aside0 (Below w0.heap.size w0 w'))
                    case atStart => exact ⟨(x1_1), (y571), (0), (by first | rfl | (simp; done) | (simp [*]; done)), H', ⟨Nat.le_refl _⟩, ⟨by (with_reducible repeat (first | apply Kd.R_alloc | apply Kd.R_drewN | apply Kd.R_drew)); exact Kd.R_mono HO_1.out (fun _ hk => ⟨hk.1.1, ⟨hk.1.2, hk.2⟩⟩)⟩, ⟨by (with_reducible repeat (first | apply Kd.R_alloc | apply Kd.R_drewN | apply Kd.R_drew)); exact Kd.R_mono HO573.out (fun _ hk => ⟨hk.1.1, ⟨hk.1.2, hk.2⟩⟩)⟩, ⟨by (with_reducible repeat (first | apply Kd.R_alloc | apply Kd.R_drewN | apply Kd.R_drew)); exact HO576.out⟩, ⟨by repeat (first | (with_reducible first | exact HK.out | apply Kept.alloc | apply Kept.drewN | apply Kept.drew) | exact HK.out)⟩, ⟨by repeat (first | (with_reducible first | exact HB.out | apply below_alloc | apply pw_below_drewN | apply below_drew1) | exact HB.out)⟩⟩
                    case round =>
                      clear H'
                      try clear c1
                      try clear p1
                      try clear q1
                      try clear p2
                      try clear c4
                      try clear c4b0
                      try clear c4b1
                      try clear c5
                      try clear p5
                      try clear q5
                      try clear hx5
                      try clear c6
                      try clear c6b0
                      try clear p6
                      try clear c7
                      try clear c7b0
                      try clear c8
                      try clear c8b0
                      try clear c8b1
                      try clear c9
                      try clear c10
                      try clear c10b0
                      try clear c11
                      try clear c11b0
                      try clear q13
                      try clear hx570_0
                      try clear hx577_0
                      try clear p1
                      try clear p2
                      try clear p570
                      try clear p577
                      try clear q13
                      try clear q570
                      try clear q577
                      obtain ⟨x1_2, x2_2, x34_2, rfl, HA, HK2, HO_1, HO_2, HO_7, HK, HB⟩ := hrel
                      cases gk with
                      | zero => exact absurd HA.out (by simp [impl_freed.l1])
                      | succ k2 =>
                        have H := HA.out
                        clear HA
                        simp only [impl_freed.l1] at H
                        by_cases c15 : x34_2 < ((rd_L2 l0 (rd x2_1 (ji5))).length : Int)
                        · rw [if_pos c15] at H
                          have c15b0 : decide (x34_2 < ((rd_L2 l0 (rd x2_1 (ji5))).length : Int)) = true := decide_eq_true c15
                          clear c15
                          by_cases c16 : 0 ≤ x34_2
                          · rw [if_pos c16] at H
                            have c16b0 : decide (0 ≤ x34_2) = true := decide_eq_true c16
                            clear c16
                            by_cases c17 : x34_2 < ((rd_L2 l0 (rd x2_1 (ji5))).length : Int)
                            · rw [if_pos c17] at H
                              have c17b0 : decide (x34_2 < ((rd_L2 l0 (rd x2_1 (ji5))).length : Int)) = true := decide_eq_true c17
                              clear c17
                              by_cases c18 : 0 ≤ (rd (rd_L2 l0 (rd x2_1 (ji5))) x34_2)
                              · rw [if_pos c18] at H
                                have c18b0 : decide (0 ≤ (rd (rd_L2 l0 (rd x2_1 (ji5))) x34_2)) = true := decide_eq_true c18
                                clear c18
                                by_cases c19 : (rd (rd_L2 l0 (rd x2_1 (ji5))) x34_2) < (x1_2.length : Int)
                                · rw [if_pos c19] at H
                                  have c19b0 : decide ((rd (rd_L2 l0 (rd x2_1 (ji5))) x34_2) < (x1_2.length : Int)) = true := decide_eq_true c19
                                  clear c19
                                  obtain ⟨y580, hy580⟩ : ∃ y_ : List Int, y_ = (x1_2.set ((rd (rd_L2 l0 (rd x2_1 (ji5))) x34_2) : Int).toNat (wrap64 ((rd x1_2 (rd (rd_L2 l0 (rd x2_1 (ji5))) x34_2)) - 1))) := ⟨_, rfl⟩
                                  replace H : (if (rd y580 (rd (rd_L2 l0 (rd x2_1 (ji5))) x34_2)) = 0 then (if x2_2.length < 17592186044416 then (impl_freed.l1 k2 l0 y580 (x2_2 ++ [rd (rd_L2 l0 (rd x2_1 (ji5))) x34_2]) y574 (rd_L2 l0 (rd x2_1 (ji5))) ((rd_L2 l0 (rd x2_1 (ji5))).length : Int) (wrap64 (x34_2 + 1))) else (none)) else (impl_freed.l1 k2 l0 y580 x2_2 y574 (rd_L2 l0 (rd x2_1 (ji5))) ((rd_L2 l0 (rd x2_1 (ji5))).length : Int) (wrap64 (x34_2 + 1)))) = some (r1, r2) := by first | (rw [hy580]; with_reducible exact H) | (have H2_ := (Option.bind_some _ _).symm.trans H; rw [hy580]; with_reducible exact H2_) | (have H2_ := (Option.bind_some _ _).symm.trans H; with_reducible exact H2_) | with_reducible exact H | (rw [hy580]; exact H) | exact H
                                  have Ny580 := Aside0.mk hy580
                                  clear hy580
                                  by_cases c21 : (rd y580 (rd (rd_L2 l0 (rd x2_1 (ji5))) x34_2)) = 0
                                  · rw [if_pos c21] at H
                                    have c21b0 : ((rd y580 (rd (rd_L2 l0 (rd x2_1 (ji5))) x34_2)) == 0) = true := beq_iff_eq.mpr c21
                                    have c21b1 : ((rd y580 (rd (rd_L2 l0 (rd x2_1 (ji5))) x34_2)) != 0) = false := bne_eq_false_iff_eq.mpr c21
                                    clear c21
                                    by_cases c22 : x2_2.length < 17592186044416
                                    · rw [if_pos c22] at H
                                      have LMc22 := Aside0.mk c22
                                      clear c22
                                      obtain ⟨y582, hy582⟩ : ∃ y_ : List Int, y_ = (x2_2 ++ [rd (rd_L2 l0 (rd x2_1 (ji5))) x34_2]) := ⟨_, rfl⟩
                                      replace H : (impl_freed.l1 k2 l0 y580 y582 y574 (rd_L2 l0 (rd x2_1 (ji5))) ((rd_L2 l0 (rd x2_1 (ji5))).length : Int) (wrap64 (x34_2 + 1))) = some (r1, r2) := by first | (rw [hy582]; with_reducible exact H) | (have H2_ := (Option.bind_some _ _).symm.trans H; rw [hy582]; with_reducible exact H2_) | (have H2_ := (Option.bind_some _ _).symm.trans H; with_reducible exact H2_) | with_reducible exact H | (rw [hy582]; exact H) | exact H
                                      have Ny582 := Aside0.mk hy582
                                      clear hy582
                                      have H' := Aside0.mk H
                                      clear H
                                      have p578 : 0 ≤ (x34_2 : Int) := of_decide_eq_true (by first | (with_reducible assumption) | assumption)
                                      have q578 : x34_2 < ((rd_L2 l0 (rd x2_1 (ji5))).length : Int) := of_decide_eq_true (by first | (with_reducible assumption) | assumption)
                                      obtain ⟨ad578, e578, hx578_0⟩ := Kd.at_int (Kd.C_kept_now HR577_0.out HK.out) x34_2 p578 q578
                                      cases e578
                                      replace p578 := eq_true p578
                                      replace q578 := eq_true q578
                                      obtain ⟨Ao23, co23, eo23⟩ := Kd.R_slice HO_1.out
                                      subst eo23
                                      have p579 : 0 ≤ ((rd (rd_L2 l0 (rd x2_1 (ji5))) x34_2) : Int) := of_decide_eq_true (by first | (with_reducible assumption) | assumption)
                                      have q579 : (rd (rd_L2 l0 (rd x2_1 (ji5))) x34_2) < (x1_2.length : Int) := of_decide_eq_true (by first | (with_reducible assumption) | assumption)
                                      obtain ⟨ad579, e579, hx579_0⟩ := Kd.at_int (Kd.R_reads' HO_1.out).2.2 (rd (rd_L2 l0 (rd x2_1 (ji5))) x34_2) p579 q579
                                      cases e579
                                      replace p579 := eq_true p579
                                      replace q579 := eq_true q579
                                      have p20 : 0 ≤ ((rd (rd_L2 l0 (rd x2_1 (ji5))) x34_2) : Int) := of_decide_eq_true (by first | (with_reducible assumption) | assumption)
                                      have q20 : ((rd (rd_L2 l0 (rd x2_1 (ji5))) x34_2) : Int) < ((x1_2.length : Int) : Int) := of_decide_eq_true (by first | (with_reducible assumption) | assumption)
                                      obtain ⟨go20, co20, eo20, gb20, gl20, cl20, HG20⟩ := Kd.R_form HO_1.out (by omega)
                                      (first | cases eo20 | (injection eo20 with ea_ en_ ec_; (first | subst ea_ | (injection ea_ with ea_; subst ea_)); subst ec_; clear en_))
                                      have GB20 := Aside0.mk gb20
                                      have GG20 := Aside0.mk HG20
                                      clear gb20 gl20 HG20
                                      have HMgo20 := Aside0.mk (show ((P1_ go20 ∨ P2_ go20) ∨ w.heap.size ≤ go20) from (HO_1.out.1 _ rfl).1)
                                      (first | simp only [add_plain] at hx579_0 | skip)
                                      obtain ⟨hx20_0, hf20_0⟩ := Kd.R_celln 0 HO_1.out ((rd (rd_L2 l0 (rd x2_1 (ji5))) x34_2) : Int) p20 q20
                                      replace p20 := eq_true p20
                                      replace q20 := eq_true q20
                                      have HP24 := Kd.R_putg HO_1.out ((rd (rd_L2 l0 (rd x2_1 (ji5))) x34_2) : Int) (wrap64 ((rd x1_2 (rd (rd_L2 l0 (rd x2_1 (ji5))) x34_2)) - 1))
                                      go_wp2_with (first | ((with_reducible refine gate_store (t := 3) (p := 43) rfl ?_); refine store_event (t := 3) (p := 43) (v := ?vo_w25) (w1 := (wr.setCell ⟨go20, ((rd (rd_L2 l0 (rd x2_1 (ji5))) x34_2) : Int).toNat, none⟩ (.int .i64 (wrap64 ((rd x1_2 (rd (rd_L2 l0 (rd x2_1 (ji5))) x34_2)) - 1))))) ?hg ?ho ?hn ?hr ?_; (case ho => rfl); (case hg => rfl); (case hn => rfl); (case hr => first | (go_simp; done) | (go_simp; rfl)); intro w25 hw; have hg : wr.grownBy w25 (some go20) := (by rw [hw]; exact HP24.2); have hp_ : Kd.R (Kd.int .i64) 3 w25 w0.heap.size (fun k_ => ((P1_ k_ ∨ P2_ k_) ∨ w.heap.size ≤ k_) ∧ some k_ ≠ (u2 : Value).ownBlock ∧ some k_ ≠ (v575 : Value).ownBlock) (.slice (some ⟨go20, 0, none⟩) x1_2.length co23) y580 := (by rw [hw, Ny580.out]; exact HP24.1); clear HP24; have n0_ := Aside0.mk (hp_); have n1_ := Aside0.mk (Kd.R_after (v := (.slice (some ⟨go20, 0, none⟩) x1_2.length co23)) (v1 := (.slice (some ⟨go20, 0, none⟩) x1_2.length co23)) (ok := (fun k_ => ((P1_ k_ ∨ P2_ k_) ∨ w.heap.size ≤ k_) ∧ some k_ ≠ (v575 : Value).ownBlock)) (by (with_reducible repeat (first | apply Kd.R_alloc | apply Kd.R_drewN | apply Kd.R_drew)); exact Kd.R_mono HO_2.out (fun _ hk => ⟨⟨hk.1, hk.2.2⟩, hk.2.1⟩)) hg (.inl rfl)); have n2_ := Aside0.mk (Kd.R_after (v := (.slice (some ⟨go20, 0, none⟩) x1_2.length co23)) (v1 := (.slice (some ⟨go20, 0, none⟩) x1_2.length co23)) (ok := (fun k_ => ((P1_ k_ ∨ P2_ k_) ∨ w.heap.size ≤ k_) ∧ some k_ ≠ (u2 : Value).ownBlock)) (by (with_reducible repeat (first | apply Kd.R_alloc | apply Kd.R_drewN | apply Kd.R_drew)); exact Kd.R_mono HO_7.out (fun _ hk => ⟨⟨hk.1, hk.2.2⟩, hk.2.1⟩)) hg (.inl rfl)); have n3_ := Aside0.mk ((by rw [hw]; exact below_set (HB.out) GB20.out : Below w0.heap.size w0 w25)); have n4_ := Aside0.mk (Kept.of_grown (S := (fun k_ => P1_ k_ ∨ P2_ k_)) hg (by repeat (first | (with_reducible first | exact HK.out | apply Kept.alloc | apply Kept.drewN | apply Kept.drew) | exact HK.out)) (fun k_ e_ => (HO_1.out.1 k_ e_).1)); clear HO_1; clear HO_2; clear HO_7; clear HB; clear HK; have HO_1 := n0_; have HO_2 := n1_; have HO_7 := n2_; have HB := n3_; have HK := n4_; clear n0_ n1_ n2_ n3_ n4_; clear hg hw hp_; have p581 : 0 ≤ ((rd (rd_L2 l0 (rd x2_1 (ji5))) x34_2) : Int) := of_decide_eq_true (by first | (with_reducible assumption) | assumption); have q581 : (rd (rd_L2 l0 (rd x2_1 (ji5))) x34_2) < (y580.length : Int) := (by have h_ : ((rd (rd_L2 l0 (rd x2_1 (ji5))) x34_2) : Int) < ((x1_2.length : Int) : Int) := of_decide_eq_true (by first | (with_reducible assumption) | assumption); first | (have e_ := (Kd.R_reads' HO_1.out).1; omega) | simpa only [Ny580.out, List.length_set] using h_); have ql581 : (((rd (rd_L2 l0 (rd x2_1 (ji5))) x34_2) : Int) < ((x1_2.length : Int) : Int)) = True := eq_true (of_decide_eq_true (by first | (with_reducible assumption) | assumption)); obtain ⟨ad581, e581, hx581_0⟩ := Kd.at_int (Kd.R_reads' HO_1.out).2.2 (rd (rd_L2 l0 (rd x2_1 (ji5))) x34_2) p581 q581; obtain rfl : (⟨go20, 0, none⟩ : Addr) = ad581 := (by injection e581); (first | simp only [add_plain] at hx581_0 | simp only [add_at] at hx581_0 | simp only [Addr.add, Nat.zero_add] at hx581_0 | skip); replace p581 := eq_true p581; replace q581 := eq_true q581) | ((with_reducible refine gate_builtin (b := .append) (xs := #[.tmp 49, .tmp 51]) rfl ?_); at_builtin; refine Kd.R_append (Kd.int .i64) (w0 := w0) w0.heap.size rfl (.tmp 49) (.tmp 51) 24 3 (.int .i64 0) 8 rfl Try.underlying24 info3 rfl (by decide) (by omega) u2 x2_2 (rd (rd_L2 l0 (rd x2_1 (ji5))) x34_2) [.int .i64 (rd (rd_L2 l0 (rd x2_1 (ji5))) x34_2)] (fun k_ => ((P1_ k_ ∨ P2_ k_) ∨ w.heap.size ≤ k_) ∧ some k_ ≠ (.slice (some ⟨go20, 0, none⟩) x1_2.length co23 : Value).ownBlock ∧ some k_ ≠ (v575 : Value).ownBlock) (fun _ => False) rfl rfl ?aP (fun _ hk => hk.elim) ?aF ?aO ?aB ?aS ?aL ?_; (case aP => exact rfl); (case aB => exact (by repeat (first | (with_reducible first | exact HB.out | apply below_alloc | apply pw_below_drewN | apply below_drew1) | exact HB.out))); (case aF => exact (fun k_ hk => ⟨(.inr (Nat.le_trans (by first | exact HK.out.1 | exact (show Kept w _ (fun k_ => P1_ k_ ∨ P2_ k_) from by repeat (first | (with_reducible first | exact HK.out | apply Kept.alloc | apply Kept.drewN | apply Kept.drew) | exact HK.out)).1) hk)), Kd.fresh' (Kd.R_lt (by (with_reducible repeat (first | apply Kd.R_alloc | apply Kd.R_drewN | apply Kd.R_drew)); exact HO_1.out)) k_ hk, Kd.fresh' (Kd.R_lt (by (with_reducible repeat (first | apply Kd.R_alloc | apply Kd.R_drewN | apply Kd.R_drew)); exact HO_7.out)) k_ hk⟩)); (case aO => exact (by (with_reducible repeat (first | apply Kd.R_alloc | apply Kd.R_drewN | apply Kd.R_drew)); exact Kd.R_mono HO_2.out (fun _ hk => ⟨hk.1.1, ⟨hk.2, hk.1.2⟩⟩))); (case aS => exact (below_size (by repeat (first | (with_reducible first | exact HB.out | apply below_alloc | apply pw_below_drewN | apply below_drew1) | exact HB.out)))); (case aL => have := LMc22.out; omega); intro v583 w26 ho hb hg hat; rw [← Ny582.out] at ho; have n0_ := Aside0.mk (Kd.R_after (ok := (fun k_ => ((P1_ k_ ∨ P2_ k_) ∨ w.heap.size ≤ k_) ∧ some k_ ≠ (v575 : Value).ownBlock)) (by (with_reducible repeat (first | apply Kd.R_alloc | apply Kd.R_drewN | apply Kd.R_drew)); exact Kd.R_mono HO_1.out (fun _ hk => ⟨⟨hk.1, hk.2.2⟩, hk.2.1⟩)) hg hat); have n1_ := Aside0.mk (Kd.R_after (ok := (fun k_ => ((P1_ k_ ∨ P2_ k_) ∨ w.heap.size ≤ k_) ∧ some k_ ≠ (.slice (some ⟨go20, 0, none⟩) x1_2.length co23 : Value).ownBlock)) (by (with_reducible repeat (first | apply Kd.R_alloc | apply Kd.R_drewN | apply Kd.R_drew)); exact Kd.R_mono HO_7.out (fun _ hk => ⟨⟨hk.1.1, hk.2⟩, hk.1.2⟩)) hg hat); have n2_ := Aside0.mk (hb); have n3_ := Aside0.mk (Kept.of_grown (S := (fun k_ => P1_ k_ ∨ P2_ k_)) hg (by repeat (first | (with_reducible first | exact HK.out | apply Kept.alloc | apply Kept.drewN | apply Kept.drew) | exact HK.out)) (fun k_ e_ => (HO_2.out.1 k_ e_).1.1)); have n4_ := Aside0.mk (ho); clear HO_1; clear HO_7; clear HB; clear HK; clear HO_2; have HO_1 := n0_; have HO_7 := n1_; have HB := n2_; have HK := n3_; have HO584 := n4_; clear n0_ n1_ n2_ n3_ n4_; clear ho hb hg hat))
                                      go_roundg k2
                                      case measure => have := HK1.out; have := HK2.out; omega
                                      case rel => exact ⟨(y580), (y582), (wrap64 (x34_2 + 1)), (by first | rfl | (simp; done) | (simp [*]; done)), H', ⟨by have := HK1.out; have := HK2.out; omega⟩, ⟨by (with_reducible repeat (first | apply Kd.R_alloc | apply Kd.R_drewN | apply Kd.R_drew)); exact Kd.R_mono HO_1.out (fun _ hk => ⟨hk.1.1, ⟨hk.2, hk.1.2⟩⟩)⟩, ⟨by (with_reducible repeat (first | apply Kd.R_alloc | apply Kd.R_drewN | apply Kd.R_drew)); exact HO584.out⟩, ⟨by (with_reducible repeat (first | apply Kd.R_alloc | apply Kd.R_drewN | apply Kd.R_drew)); exact Kd.R_mono HO_7.out (fun _ hk => ⟨hk.1.1, ⟨hk.1.2, hk.2⟩⟩)⟩, ⟨by repeat (first | (with_reducible first | exact HK.out | apply Kept.alloc | apply Kept.drewN | apply Kept.drew) | exact HK.out)⟩, ⟨by repeat (first | (with_reducible first | exact HB.out | apply below_alloc | apply pw_below_drewN | apply below_drew1) | exact HB.out)⟩⟩
                                    · rw [if_neg c22] at H
                                      exact absurd H (by simp)
                                  · rw [if_neg c21] at H
                                    have c21b0 : ((rd y580 (rd (rd_L2 l0 (rd x2_1 (ji5))) x34_2)) == 0) = false := beq_eq_false_iff_ne.mpr c21
                                    have c21b1 : ((rd y580 (rd (rd_L2 l0 (rd x2_1 (ji5))) x34_2)) != 0) = true := bne_iff_ne.mpr c21
                                    have H' := Aside0.mk H
                                    clear H
                                    have p578 : 0 ≤ (x34_2 : Int) := of_decide_eq_true (by first | (with_reducible assumption) | assumption)
                                    have q578 : x34_2 < ((rd_L2 l0 (rd x2_1 (ji5))).length : Int) := of_decide_eq_true (by first | (with_reducible assumption) | assumption)
                                    obtain ⟨ad578, e578, hx578_0⟩ := Kd.at_int (Kd.C_kept_now HR577_0.out HK.out) x34_2 p578 q578
                                    cases e578
                                    replace p578 := eq_true p578
                                    replace q578 := eq_true q578
                                    obtain ⟨Ao27, co27, eo27⟩ := Kd.R_slice HO_1.out
                                    subst eo27
                                    have p579 : 0 ≤ ((rd (rd_L2 l0 (rd x2_1 (ji5))) x34_2) : Int) := of_decide_eq_true (by first | (with_reducible assumption) | assumption)
                                    have q579 : (rd (rd_L2 l0 (rd x2_1 (ji5))) x34_2) < (x1_2.length : Int) := of_decide_eq_true (by first | (with_reducible assumption) | assumption)
                                    obtain ⟨ad579, e579, hx579_0⟩ := Kd.at_int (Kd.R_reads' HO_1.out).2.2 (rd (rd_L2 l0 (rd x2_1 (ji5))) x34_2) p579 q579
                                    cases e579
                                    replace p579 := eq_true p579
                                    replace q579 := eq_true q579
                                    have p20 : 0 ≤ ((rd (rd_L2 l0 (rd x2_1 (ji5))) x34_2) : Int) := of_decide_eq_true (by first | (with_reducible assumption) | assumption)
                                    have q20 : ((rd (rd_L2 l0 (rd x2_1 (ji5))) x34_2) : Int) < ((x1_2.length : Int) : Int) := of_decide_eq_true (by first | (with_reducible assumption) | assumption)
                                    obtain ⟨go20, co20, eo20, gb20, gl20, cl20, HG20⟩ := Kd.R_form HO_1.out (by omega)
                                    (first | cases eo20 | (injection eo20 with ea_ en_ ec_; (first | subst ea_ | (injection ea_ with ea_; subst ea_)); subst ec_; clear en_))
                                    have GB20 := Aside0.mk gb20
                                    have GG20 := Aside0.mk HG20
                                    clear gb20 gl20 HG20
                                    have HMgo20 := Aside0.mk (show ((P1_ go20 ∨ P2_ go20) ∨ w.heap.size ≤ go20) from (HO_1.out.1 _ rfl).1)
                                    (first | simp only [add_plain] at hx579_0 | skip)
                                    obtain ⟨hx20_0, hf20_0⟩ := Kd.R_celln 0 HO_1.out ((rd (rd_L2 l0 (rd x2_1 (ji5))) x34_2) : Int) p20 q20
                                    replace p20 := eq_true p20
                                    replace q20 := eq_true q20
                                    have HP28 := Kd.R_putg HO_1.out ((rd (rd_L2 l0 (rd x2_1 (ji5))) x34_2) : Int) (wrap64 ((rd x1_2 (rd (rd_L2 l0 (rd x2_1 (ji5))) x34_2)) - 1))
                                    go_wp2_with (first | ((with_reducible refine gate_store (t := 3) (p := 43) rfl ?_); refine store_event (t := 3) (p := 43) (v := ?vo_w29) (w1 := (wr.setCell ⟨go20, ((rd (rd_L2 l0 (rd x2_1 (ji5))) x34_2) : Int).toNat, none⟩ (.int .i64 (wrap64 ((rd x1_2 (rd (rd_L2 l0 (rd x2_1 (ji5))) x34_2)) - 1))))) ?hg ?ho ?hn ?hr ?_; (case ho => rfl); (case hg => rfl); (case hn => rfl); (case hr => first | (go_simp; done) | (go_simp; rfl)); intro w29 hw; have hg : wr.grownBy w29 (some go20) := (by rw [hw]; exact HP28.2); have hp_ : Kd.R (Kd.int .i64) 3 w29 w0.heap.size (fun k_ => ((P1_ k_ ∨ P2_ k_) ∨ w.heap.size ≤ k_) ∧ some k_ ≠ (u2 : Value).ownBlock ∧ some k_ ≠ (v575 : Value).ownBlock) (.slice (some ⟨go20, 0, none⟩) x1_2.length co27) y580 := (by rw [hw, Ny580.out]; exact HP28.1); clear HP28; have n0_ := Aside0.mk (hp_); have n1_ := Aside0.mk (Kd.R_after (v := (.slice (some ⟨go20, 0, none⟩) x1_2.length co27)) (v1 := (.slice (some ⟨go20, 0, none⟩) x1_2.length co27)) (ok := (fun k_ => ((P1_ k_ ∨ P2_ k_) ∨ w.heap.size ≤ k_) ∧ some k_ ≠ (v575 : Value).ownBlock)) (by (with_reducible repeat (first | apply Kd.R_alloc | apply Kd.R_drewN | apply Kd.R_drew)); exact Kd.R_mono HO_2.out (fun _ hk => ⟨⟨hk.1, hk.2.2⟩, hk.2.1⟩)) hg (.inl rfl)); have n2_ := Aside0.mk (Kd.R_after (v := (.slice (some ⟨go20, 0, none⟩) x1_2.length co27)) (v1 := (.slice (some ⟨go20, 0, none⟩) x1_2.length co27)) (ok := (fun k_ => ((P1_ k_ ∨ P2_ k_) ∨ w.heap.size ≤ k_) ∧ some k_ ≠ (u2 : Value).ownBlock)) (by (with_reducible repeat (first | apply Kd.R_alloc | apply Kd.R_drewN | apply Kd.R_drew)); exact Kd.R_mono HO_7.out (fun _ hk => ⟨⟨hk.1, hk.2.2⟩, hk.2.1⟩)) hg (.inl rfl)); have n3_ := Aside0.mk ((by rw [hw]; exact below_set (HB.out) GB20.out : Below w0.heap.size w0 w29)); have n4_ := Aside0.mk (Kept.of_grown (S := (fun k_ => P1_ k_ ∨ P2_ k_)) hg (by repeat (first | (with_reducible first | exact HK.out | apply Kept.alloc | apply Kept.drewN | apply Kept.drew) | exact HK.out)) (fun k_ e_ => (HO_1.out.1 k_ e_).1)); clear HO_1; clear HO_2; clear HO_7; clear HB; clear HK; have HO_1 := n0_; have HO_2 := n1_; have HO_7 := n2_; have HB := n3_; have HK := n4_; clear n0_ n1_ n2_ n3_ n4_; clear hg hw hp_; have p581 : 0 ≤ ((rd (rd_L2 l0 (rd x2_1 (ji5))) x34_2) : Int) := of_decide_eq_true (by first | (with_reducible assumption) | assumption); have q581 : (rd (rd_L2 l0 (rd x2_1 (ji5))) x34_2) < (y580.length : Int) := (by have h_ : ((rd (rd_L2 l0 (rd x2_1 (ji5))) x34_2) : Int) < ((x1_2.length : Int) : Int) := of_decide_eq_true (by first | (with_reducible assumption) | assumption); first | (have e_ := (Kd.R_reads' HO_1.out).1; omega) | simpa only [Ny580.out, List.length_set] using h_); have ql581 : (((rd (rd_L2 l0 (rd x2_1 (ji5))) x34_2) : Int) < ((x1_2.length : Int) : Int)) = True := eq_true (of_decide_eq_true (by first | (with_reducible assumption) | assumption)); obtain ⟨ad581, e581, hx581_0⟩ := Kd.at_int (Kd.R_reads' HO_1.out).2.2 (rd (rd_L2 l0 (rd x2_1 (ji5))) x34_2) p581 q581; obtain rfl : (⟨go20, 0, none⟩ : Addr) = ad581 := (by injection e581); (first | simp only [add_plain] at hx581_0 | simp only [add_at] at hx581_0 | simp only [Addr.add, Nat.zero_add] at hx581_0 | skip); replace p581 := eq_true p581; replace q581 := eq_true q581))
                                    go_roundg k2
                                    case measure => have := HK1.out; have := HK2.out; omega
                                    case rel => exact ⟨(y580), (x2_2), (wrap64 (x34_2 + 1)), (by first | rfl | (simp; done) | (simp [*]; done)), H', ⟨by have := HK1.out; have := HK2.out; omega⟩, ⟨by (with_reducible repeat (first | apply Kd.R_alloc | apply Kd.R_drewN | apply Kd.R_drew)); exact HO_1.out⟩, ⟨by (with_reducible repeat (first | apply Kd.R_alloc | apply Kd.R_drewN | apply Kd.R_drew)); exact Kd.R_mono HO_2.out (fun _ hk => ⟨hk.1.1, ⟨hk.2, hk.1.2⟩⟩)⟩, ⟨by (with_reducible repeat (first | apply Kd.R_alloc | apply Kd.R_drewN | apply Kd.R_drew)); exact Kd.R_mono HO_7.out (fun _ hk => ⟨hk.1.1, ⟨hk.2, hk.1.2⟩⟩)⟩, ⟨by repeat (first | (with_reducible first | exact HK.out | apply Kept.alloc | apply Kept.drewN | apply Kept.drew) | exact HK.out)⟩, ⟨by repeat (first | (with_reducible first | exact HB.out | apply below_alloc | apply pw_below_drewN | apply below_drew1) | exact HB.out)⟩⟩
                                · rw [if_neg c19] at H
                                  exact absurd H (by simp)
                              · rw [if_neg c18] at H
                                exact absurd H (by simp)
                            · rw [if_neg c17] at H
                              exact absurd H (by simp)
                          · rw [if_neg c16] at H
                            exact absurd H (by simp)
                        · rw [if_neg c15] at H
                          have c15b0 : decide (x34_2 < ((rd_L2 l0 (rd x2_1 (ji5))).length : Int)) = false := decide_eq_false c15
                          clear c15
                          have H' := Aside0.mk H
                          clear H
                          go_wp2
                          go_roundg k2
                          case measure => have := HK1.out; have := HK2.out; omega
                          case rel => exact ⟨(x1_2), (x2_2), (y574), H', ⟨by have := HK1.out; have := HK2.out; omega⟩, ⟨by (with_reducible repeat (first | apply Kd.R_alloc | apply Kd.R_drewN | apply Kd.R_drew)); exact HO_1.out⟩, ⟨by (with_reducible repeat (first | apply Kd.R_alloc | apply Kd.R_drewN | apply Kd.R_drew)); exact HO_2.out⟩, ⟨by (with_reducible repeat (first | apply Kd.R_alloc | apply Kd.R_drewN | apply Kd.R_drew)); exact HO_7.out⟩, ⟨by repeat (first | (with_reducible first | exact HK.out | apply Kept.alloc | apply Kept.drewN | apply Kept.drew) | exact HK.out)⟩, ⟨by repeat (first | (with_reducible first | exact HB.out | apply below_alloc | apply pw_below_drewN | apply below_drew1) | exact HB.out)⟩⟩
                  · rw [if_neg c11] at H
                    exact absurd H (by simp)
                · rw [if_neg c10] at H
                  exact absurd H (by simp)
              · rw [if_neg c9] at H
                exact absurd H (by simp)
            · rw [if_neg c8] at H
              exact absurd H (by simp)
          · rw [if_neg c7] at H
            exact absurd H (by simp)
        · rw [if_neg c6] at H
          exact absurd H (by simp)
      · rw [if_neg c4] at H
        have c4b0 : decide (0 < (x2_1.length : Int)) = false := decide_eq_false c4
        have c4b1 : decide (0 < x2_1.length) = false := decide_eq_false (by omega)
        clear c4
        simp only [Option.some.injEq, Prod.mk.injEq] at H
        obtain ⟨rfl, rfl⟩ := H
        obtain ⟨Ao30, co30, eo30⟩ := Kd.R_slice HO_2.out
        subst eo30
        go_wp2
        go_ret
        exact ⟨_, by first | rfl | (simp [errW_none, errW_some] <;> rfl) | (simp [*, errW_none, errW_some] <;> rfl), by (with_reducible repeat (first | apply Kd.R_alloc | apply Kd.R_drewN | apply Kd.R_drew)); exact Kd.R_mono HO_7.out (fun _ hk => ⟨hk.1, hk.2.1⟩), by (with_reducible repeat (first | apply Kd.R_alloc | apply Kd.R_drewN | apply Kd.R_drew)); exact Kd.R_mono HO_1.out (fun _ hk => hk.1), by repeat (first | (with_reducible first | exact HB.out | apply below_alloc | apply pw_below_drewN | apply below_drew1) | exact HB.out), by repeat (first | (with_reducible first | exact HK.out | apply Kept.alloc | apply Kept.drewN | apply Kept.drew) | exact HK.out)⟩

end Go.Proofs.Ytljieofkagmdaaa.Q
