-- Printed by a program of this project's own, for this seat.
import Derived.Test.YtckninkpjdcfbaaQ0
import Derived.Test.YtckninkpjdcfbaaQ2
import Derived.Test.YtckninkpjdcfbaaQ3
namespace Go.Proofs.Ytckninkpjdcfbaa.Q
open Go.RowKit Go.Proofs.YtckninkpjdcfbaaW.PrintWords Go.Proofs.YtckninkpjdcfbaaW.PrintLast Go.Proofs.YtckninkpjdcfbaaW.PrintMore
attribute [local go_sem] max2_int min2_int max_two min_two max_three min_three max_four min_four   -- for this text's walks alone
set_option linter.unusedVariables false
set_option linter.unusedSimpArgs false

/-! ### impl_marked: function 42 -/
def impl_marked.l0 : Nat → Bool → List Int → List Bool → Int → Int → Option (List Int)
  | 0, _, _, _, _, _ => none
  | k + 1, x1, x5, x8, x9, x10 => if x10 < x9 then (if 0 ≤ x10 then (if x10 < (x8.length : Int) then (if ((rdOf false x8 x10) == x1) = true then (if x5.length < 17592186044416 then (impl_marked.l0 k x1 (x5 ++ [x10]) x8 x9 (wrap64 (x10 + 1))) else (none)) else (impl_marked.l0 k x1 x5 x8 x9 (wrap64 (x10 + 1)))) else (none)) else (none)) else (some x5)
def impl_marked.f (k : Nat) (l0 : List Bool) (a1 : Bool) : Option (List Int) := impl_marked.l0 k a1 ([] : List Int) l0 (l0.length : Int) 0
theorem impl_marked.mono_l : ∀ k, (∀ y0 y1 y2 y3 y4, LeO (impl_marked.l0 k y0 y1 y2 y3 y4) (impl_marked.l0 (k + 1) y0 y1 y2 y3 y4))
  | 0 => fun _ _ _ _ _ r h => by simp [impl_marked.l0] at h
  | k + 1 => by
    have ih0 := impl_marked.mono_l k
    · intro y0 y1 y2 y3 y4
      unfold impl_marked.l0
      repeat' first
      | (with_reducible exact ih0 _ _ _ _ _)
      | (with_reducible exact LeO.refl _)
      | (with_reducible exact LeO.none _)
      | (with_reducible refine LeO.ite ?_ ?_)
      | (with_reducible refine LeO.bind ?_ (fun _ => ?_))
      | exact ih0 _ _ _ _ _
      | exact LeO.none _
      | refine LeO.ite ?_ ?_
      | refine LeO.bind ?_ (fun _ => ?_)
theorem impl_marked.mono : ∀ a0 a1 k, LeO (impl_marked.f k a0 a1) (impl_marked.f (k + 1) a0 a1) := by
  intro a0 a1 k
  have ih0 := impl_marked.mono_l k
  unfold impl_marked.f
  repeat' first
      | (with_reducible exact ih0 _ _ _ _ _)
      | (with_reducible exact LeO.refl _)
      | (with_reducible exact LeO.none _)
      | (with_reducible refine LeO.ite ?_ ?_)
      | (with_reducible refine LeO.bind ?_ (fun _ => ?_))
      | exact ih0 _ _ _ _ _
      | exact LeO.none _
      | refine LeO.ite ?_ ?_
      | refine LeO.bind ?_ (fun _ => ?_)
set_option maxHeartbeats 8000000 in
set_option maxRecDepth 100000 in
theorem impl_marked.calls (k : Nat) (A0 : Option Addr) (c0 : Nat) (l0 : List Bool) (a1 : Bool) (r : List Int) (w : World) (hr0 : Kd.C Kd.bool w A0 l0.length l0) (hc0 : l0.length ≤ c0) (h : impl_marked.f k l0 a1 = some r) :
    Calls Try.prog 42 #[.slice A0 l0.length c0, .bool a1] w fun e w' => ∃ v0_ : Value, e = .returned (v0_) ∧ Kd.R (Kd.int .i64) 3 w' w.heap.size (fun _ => True) v0_ r ∧ Below w.heap.size w w' := by
  have HR0 := Aside0.mk hr0
  have HC0 := Aside0.mk hc0
  clear hr0 hc0
  have HB := Aside0.mk (Below.refl w.heap.size w)
  have H : (impl_marked.l0 k a1 ([] : List Int) l0 (l0.length : Int) 0) = some r := h
  clear h
  have H' := Aside0.mk H
  clear H
  go_enter Try.func42, Try.ntmps42
  go_wp2
  go_loopg [5, 10] k (fun kq v5 v10 w' => ∃ (x5_1 : List Int) (x10_1 : Int), v10 = .int .i64 x10_1 ∧ Aside0 (impl_marked.l0 kq a1 x5_1 l0 (l0.length : Int) x10_1 = some r) ∧ Aside0 (kq ≤ k) ∧ Aside0 (Kd.R (Kd.int .i64) 3 w' w.heap.size (fun _ => True) v5 x5_1) ∧ Aside0 (Below w.heap.size w w'))
  case atStart => exact ⟨(([] : List Int)), (0), (by first | rfl | (simp; done) | (simp [*]; done)), H', ⟨Nat.le_refl _⟩, ⟨by first | exact Kd.R_nil _ _ _ _ _ | exact Kd.N_nil _ _ _ _ _ | exact Kd.V_nil _ _ _ _ _ | exact Kd.Q_nil _ _ _ _ _ | exact Kd.S_nil _ _ _ _ _⟩, ⟨by repeat (first | (with_reducible first | exact HB.out | apply below_alloc | apply pw_below_drewN | apply below_drew1) | exact HB.out)⟩⟩
  case round =>
    clear H'
    try clear p2
    obtain ⟨x5_1, x10_1, rfl, HA, HK1, HO_5, HB⟩ := hrel
    cases gk with
    | zero => exact absurd HA.out (by simp [impl_marked.l0])
    | succ k1 =>
      have H := HA.out
      clear HA
      simp only [impl_marked.l0] at H
      by_cases c3 : x10_1 < (l0.length : Int)
      · rw [if_pos c3] at H
        have c3b0 : decide (x10_1 < (l0.length : Int)) = true := decide_eq_true c3
        clear c3
        by_cases c4 : 0 ≤ x10_1
        · rw [if_pos c4] at H
          have c4b0 : decide (0 ≤ x10_1) = true := decide_eq_true c4
          clear c4
          by_cases c5 : x10_1 < (l0.length : Int)
          · rw [if_pos c5] at H
            have c5b0 : decide (x10_1 < (l0.length : Int)) = true := decide_eq_true c5
            clear c5
            by_cases c6 : ((rdOf false l0 x10_1) == a1) = true
            · rw [if_pos c6] at H
              have c6b0 : ((rdOf false l0 x10_1) == a1) = true := c6
              (try (have c6b1 : decide ((rdOf false l0 x10_1) = a1) = true := by simpa using c6))
              (try (have c6b2 : ((rdOf false l0 x10_1) == a1) = true := by simpa using c6))
              clear c6
              by_cases c7 : x5_1.length < 17592186044416
              · rw [if_pos c7] at H
                have LMc7 := Aside0.mk c7
                clear c7
                obtain ⟨y175, hy175⟩ : ∃ y_ : List Int, y_ = (x5_1 ++ [x10_1]) := ⟨_, rfl⟩
                replace H : (impl_marked.l0 k1 a1 y175 l0 (l0.length : Int) (wrap64 (x10_1 + 1))) = some r := by first | (rw [hy175]; with_reducible exact H) | (have H2_ := (Option.bind_some _ _).symm.trans H; rw [hy175]; with_reducible exact H2_) | (have H2_ := (Option.bind_some _ _).symm.trans H; with_reducible exact H2_) | with_reducible exact H | (rw [hy175]; exact H) | exact H
                have Ny175 := Aside0.mk hy175
                clear hy175
                have H' := Aside0.mk H
                clear H
                have p174 : 0 ≤ (x10_1 : Int) := of_decide_eq_true (by first | (with_reducible assumption) | assumption)
                have q174 : x10_1 < (l0.length : Int) := of_decide_eq_true (by first | (with_reducible assumption) | assumption)
                obtain ⟨ad174, e174, hx174_0⟩ := Kd.at_bool HR0.out x10_1 p174 q174
                cases e174
                replace hx174_0 := (HB.out.cell (World.block_lt_of_cell? w _ hx174_0)).trans hx174_0
                replace p174 := eq_true p174
                replace q174 := eq_true q174
                go_wp2_with (first | ((with_reducible refine gate_builtin (b := .append) (xs := #[.tmp 18, .tmp 20]) rfl ?_); at_builtin; refine Kd.R_append (Kd.int .i64) (w0 := w) w.heap.size rfl (.tmp 18) (.tmp 20) 24 3 (.int .i64 0) 8 rfl Try.underlying24 info3 rfl (by decide) (by omega) u5 x5_1 x10_1 [.int .i64 x10_1] (fun _ => True) (fun _ => False) rfl rfl ?aP (fun _ hk => hk.elim) ?aF ?aO ?aB ?aS ?aL ?_; (case aP => exact rfl); (case aB => exact (by repeat (first | (with_reducible first | exact HB.out | apply below_alloc | apply pw_below_drewN | apply below_drew1) | exact HB.out))); (case aF => exact (fun _ _ => trivial)); (case aO => exact (by (with_reducible repeat (first | apply Kd.R_alloc | apply Kd.R_drewN | apply Kd.R_drew)); exact HO_5.out)); (case aS => exact (below_size (by repeat (first | (with_reducible first | exact HB.out | apply below_alloc | apply pw_below_drewN | apply below_drew1) | exact HB.out)))); (case aL => have := LMc7.out; omega); intro v176 w8 ho hb hg hat; rw [← Ny175.out] at ho; have n0_ := Aside0.mk (hb); have n1_ := Aside0.mk (ho); clear HB; clear HO_5; have HB := n0_; have HO177 := n1_; clear n0_ n1_; clear ho hb hg hat))
                go_roundg k1
                case measure => have := HK1.out; omega
                case rel => exact ⟨(y175), (wrap64 (x10_1 + 1)), (by first | rfl | (simp; done) | (simp [*]; done)), H', ⟨by have := HK1.out; omega⟩, ⟨by (with_reducible repeat (first | apply Kd.R_alloc | apply Kd.R_drewN | apply Kd.R_drew)); exact HO177.out⟩, ⟨by repeat (first | (with_reducible first | exact HB.out | apply below_alloc | apply pw_below_drewN | apply below_drew1) | exact HB.out)⟩⟩
              · rw [if_neg c7] at H
                exact absurd H (by simp)
            · rw [if_neg c6] at H
              have c6b0 : ((rdOf false l0 x10_1) == a1) = false := by simpa using c6
              (try (have c6b1 : decide ((rdOf false l0 x10_1) = a1) = false := by simpa using c6))
              (try (have c6b2 : ((rdOf false l0 x10_1) == a1) = false := by simpa using c6))
              (try (have c6b3 : ¬ ((rdOf false l0 x10_1) = a1) := by simpa using c6))
              clear c6
              have H' := Aside0.mk H
              clear H
              have p174 : 0 ≤ (x10_1 : Int) := of_decide_eq_true (by first | (with_reducible assumption) | assumption)
              have q174 : x10_1 < (l0.length : Int) := of_decide_eq_true (by first | (with_reducible assumption) | assumption)
              obtain ⟨ad174, e174, hx174_0⟩ := Kd.at_bool HR0.out x10_1 p174 q174
              cases e174
              replace hx174_0 := (HB.out.cell (World.block_lt_of_cell? w _ hx174_0)).trans hx174_0
              replace p174 := eq_true p174
              replace q174 := eq_true q174
              go_wp2
              go_roundg k1
              case measure => have := HK1.out; omega
              case rel => exact ⟨(x5_1), (wrap64 (x10_1 + 1)), (by first | rfl | (simp; done) | (simp [*]; done)), H', ⟨by have := HK1.out; omega⟩, ⟨by (with_reducible repeat (first | apply Kd.R_alloc | apply Kd.R_drewN | apply Kd.R_drew)); exact HO_5.out⟩, ⟨by repeat (first | (with_reducible first | exact HB.out | apply below_alloc | apply pw_below_drewN | apply below_drew1) | exact HB.out)⟩⟩
          · rw [if_neg c5] at H
            exact absurd H (by simp)
        · rw [if_neg c4] at H
          exact absurd H (by simp)
      · rw [if_neg c3] at H
        have c3b0 : decide (x10_1 < (l0.length : Int)) = false := decide_eq_false c3
        clear c3
        obtain rfl := Option.some.inj H
        go_wp2
        go_ret
        exact ⟨_, by first | rfl | (simp [errW_none, errW_some] <;> rfl) | (simp [*, errW_none, errW_some] <;> rfl), by (with_reducible repeat (first | apply Kd.R_alloc | apply Kd.R_drewN | apply Kd.R_drew)); exact HO_5.out, by repeat (first | (with_reducible first | exact HB.out | apply below_alloc | apply pw_below_drewN | apply below_drew1) | exact HB.out)⟩

/-! ### spec_indices: function 47 -/
def spec_indices.l0 : Nat → List Bool → Bool → List Int → Int → Option (List Int)
  | 0, _, _, _, _ => none
  | k + 1, x0, x1, x5, x6 => if x6 < (x0.length : Int) then (if 0 ≤ x6 then (if ((rdOf false x0 x6) == x1) = true then (if x5.length < 17592186044416 then (spec_indices.l0 k x0 x1 (x5 ++ [x6]) (wrap64 (x6 + 1))) else (none)) else (spec_indices.l0 k x0 x1 x5 (wrap64 (x6 + 1)))) else (none)) else (some x5)
def spec_indices.f (k : Nat) (l0 : List Bool) (a1 : Bool) : Option (List Int) := spec_indices.l0 k l0 a1 (([] : List Int)) 0
theorem spec_indices.mono_l : ∀ k, (∀ y0 y1 y2 y3, LeO (spec_indices.l0 k y0 y1 y2 y3) (spec_indices.l0 (k + 1) y0 y1 y2 y3))
  | 0 => fun _ _ _ _ r h => by simp [spec_indices.l0] at h
  | k + 1 => by
    have ih0 := spec_indices.mono_l k
    · intro y0 y1 y2 y3
      unfold spec_indices.l0
      repeat' first
      | (with_reducible exact ih0 _ _ _ _)
      | (with_reducible exact LeO.refl _)
      | (with_reducible exact LeO.none _)
      | (with_reducible refine LeO.ite ?_ ?_)
      | (with_reducible refine LeO.bind ?_ (fun _ => ?_))
      | exact ih0 _ _ _ _
      | exact LeO.none _
      | refine LeO.ite ?_ ?_
      | refine LeO.bind ?_ (fun _ => ?_)
theorem spec_indices.mono : ∀ a0 a1 k, LeO (spec_indices.f k a0 a1) (spec_indices.f (k + 1) a0 a1) := by
  intro a0 a1 k
  have ih0 := spec_indices.mono_l k
  unfold spec_indices.f
  repeat' first
      | (with_reducible exact ih0 _ _ _ _)
      | (with_reducible exact LeO.refl _)
      | (with_reducible exact LeO.none _)
      | (with_reducible refine LeO.ite ?_ ?_)
      | (with_reducible refine LeO.bind ?_ (fun _ => ?_))
      | exact ih0 _ _ _ _
      | exact LeO.none _
      | refine LeO.ite ?_ ?_
      | refine LeO.bind ?_ (fun _ => ?_)
set_option maxHeartbeats 8000000 in
set_option maxRecDepth 100000 in
theorem spec_indices.calls (k : Nat) (A0 : Option Addr) (c0 : Nat) (l0 : List Bool) (a1 : Bool) (r : List Int) (w : World) (hr0 : Kd.C Kd.bool w A0 l0.length l0) (hc0 : l0.length ≤ c0) (h : spec_indices.f k l0 a1 = some r) :
    Calls Try.prog 47 #[.slice A0 l0.length c0, .bool a1] w fun e w' => ∃ v0_ : Value, e = .returned (v0_) ∧ Kd.R (Kd.int .i64) 3 w' w.heap.size (fun _ => True) v0_ r ∧ Below w.heap.size w w' := by
  have HR0 := Aside0.mk hr0
  have HC0 := Aside0.mk hc0
  clear hr0 hc0
  have HB := Aside0.mk (Below.refl w.heap.size w)
  have H : (spec_indices.l0 k l0 a1 (([] : List Int)) 0) = some r := h
  clear h
  obtain ⟨y217, hy217⟩ : ∃ y_ : List Int, y_ = (([] : List Int)) := ⟨_, rfl⟩
  replace H : (spec_indices.l0 k l0 a1 y217 0) = some r := by first | (rw [hy217]; with_reducible exact H) | (have H2_ := (Option.bind_some _ _).symm.trans H; rw [hy217]; with_reducible exact H2_) | (have H2_ := (Option.bind_some _ _).symm.trans H; with_reducible exact H2_) | with_reducible exact H | (rw [hy217]; exact H) | exact H
  have Ny217 := Aside0.mk hy217
  clear hy217
  have H' := Aside0.mk H
  clear H
  go_enter Try.func47, Try.ntmps47
  go_wp2_with (first | ((with_reducible refine gate_dst (N := 7) rfl ?_); refine Kd.R_lit (Kd.int .i64) _ 3 ?hg (N := 7) ?hd (xs := ([] : List Int)) (inner := []) (ok := fun _ => True) (okp := fun _ => True) ?hr ?hp (fun _ hk => hk) trivial (Below.refl _ _) (Nat.le_refl _) (by simp) ?_; (case hd => rfl); (case hg => rfl); (case hr => first | (go_simp; done) | (go_simp; rfl)); (case hp => exact (Reps.none _ _)); intro v218 w3 ho4 hb hg_ hnew_; clear hg_ hnew_; (first | rw [← Ny217.out] at ho4 | (simp only [Int.reduceToNat] at ho4; rw [← Ny217.out] at ho4)); have n0_ := Aside0.mk (Kd.R_lower ho4 (below_size (by repeat (first | (with_reducible first | exact HB.out | apply below_alloc | apply pw_below_drewN | apply below_drew1) | exact HB.out)))); have n1_ := Aside0.mk (below_step (by repeat (first | (with_reducible first | exact HB.out | apply below_alloc | apply pw_below_drewN | apply below_drew1) | exact HB.out)) hb); clear HB; have HO219 := n0_; have HB := n1_; clear n0_ n1_; clear hb ho4))
  go_loopg [5, 6] k (fun kq v5 v6 w' => ∃ (x5_1 : List Int) (x6_1 : Int), v6 = .int .i64 x6_1 ∧ Aside0 (spec_indices.l0 kq l0 a1 x5_1 x6_1 = some r) ∧ Aside0 (kq ≤ k) ∧ Aside0 (Kd.R (Kd.int .i64) 3 w' w.heap.size (fun _ => True) v5 x5_1) ∧ Aside0 (Below w.heap.size w w'))
  case atStart => exact ⟨(y217), (0), (by first | rfl | (simp; done) | (simp [*]; done)), H', ⟨Nat.le_refl _⟩, ⟨by (with_reducible repeat (first | apply Kd.R_alloc | apply Kd.R_drewN | apply Kd.R_drew)); exact HO219.out⟩, ⟨by repeat (first | (with_reducible first | exact HB.out | apply below_alloc | apply pw_below_drewN | apply below_drew1) | exact HB.out)⟩⟩
  case round =>
    clear H'
    try clear p2
    try clear c4
    obtain ⟨x5_1, x6_1, rfl, HA, HK1, HO_5, HB⟩ := hrel
    cases gk with
    | zero => exact absurd HA.out (by simp [spec_indices.l0])
    | succ k1 =>
      have H := HA.out
      clear HA
      simp only [spec_indices.l0] at H
      by_cases c5 : x6_1 < (l0.length : Int)
      · rw [if_pos c5] at H
        have c5b0 : decide (x6_1 < (l0.length : Int)) = true := decide_eq_true c5
        clear c5
        by_cases c6 : 0 ≤ x6_1
        · rw [if_pos c6] at H
          have c6b0 : decide (0 ≤ x6_1) = true := decide_eq_true c6
          clear c6
          by_cases c7 : ((rdOf false l0 x6_1) == a1) = true
          · rw [if_pos c7] at H
            have c7b0 : ((rdOf false l0 x6_1) == a1) = true := c7
            (try (have c7b1 : decide ((rdOf false l0 x6_1) = a1) = true := by simpa using c7))
            (try (have c7b2 : ((rdOf false l0 x6_1) == a1) = true := by simpa using c7))
            clear c7
            by_cases c8 : x5_1.length < 17592186044416
            · rw [if_pos c8] at H
              have LMc8 := Aside0.mk c8
              clear c8
              obtain ⟨y221, hy221⟩ : ∃ y_ : List Int, y_ = (x5_1 ++ [x6_1]) := ⟨_, rfl⟩
              replace H : (spec_indices.l0 k1 l0 a1 y221 (wrap64 (x6_1 + 1))) = some r := by first | (rw [hy221]; with_reducible exact H) | (have H2_ := (Option.bind_some _ _).symm.trans H; rw [hy221]; with_reducible exact H2_) | (have H2_ := (Option.bind_some _ _).symm.trans H; with_reducible exact H2_) | with_reducible exact H | (rw [hy221]; exact H) | exact H
              have Ny221 := Aside0.mk hy221
              clear hy221
              have H' := Aside0.mk H
              clear H
              have p220 : 0 ≤ (x6_1 : Int) := of_decide_eq_true (by first | (with_reducible assumption) | assumption)
              have q220 : x6_1 < (l0.length : Int) := of_decide_eq_true (by first | (with_reducible assumption) | assumption)
              obtain ⟨ad220, e220, hx220_0⟩ := Kd.at_bool HR0.out x6_1 p220 q220
              cases e220
              replace hx220_0 := (HB.out.cell (World.block_lt_of_cell? w _ hx220_0)).trans hx220_0
              replace p220 := eq_true p220
              replace q220 := eq_true q220
              go_wp2_with (first | ((with_reducible refine gate_builtin (b := .append) (xs := #[.tmp 20, .tmp 22]) rfl ?_); at_builtin; refine Kd.R_append (Kd.int .i64) (w0 := w) w.heap.size rfl (.tmp 20) (.tmp 22) 24 3 (.int .i64 0) 8 rfl Try.underlying24 info3 rfl (by decide) (by omega) u5 x5_1 x6_1 [.int .i64 x6_1] (fun _ => True) (fun _ => False) rfl rfl ?aP (fun _ hk => hk.elim) ?aF ?aO ?aB ?aS ?aL ?_; (case aP => exact rfl); (case aB => exact (by repeat (first | (with_reducible first | exact HB.out | apply below_alloc | apply pw_below_drewN | apply below_drew1) | exact HB.out))); (case aF => exact (fun _ _ => trivial)); (case aO => exact (by (with_reducible repeat (first | apply Kd.R_alloc | apply Kd.R_drewN | apply Kd.R_drew)); exact HO_5.out)); (case aS => exact (below_size (by repeat (first | (with_reducible first | exact HB.out | apply below_alloc | apply pw_below_drewN | apply below_drew1) | exact HB.out)))); (case aL => have := LMc8.out; omega); intro v222 w9 ho hb hg hat; rw [← Ny221.out] at ho; have n0_ := Aside0.mk (hb); have n1_ := Aside0.mk (ho); clear HB; clear HO_5; have HB := n0_; have HO223 := n1_; clear n0_ n1_; clear ho hb hg hat))
              go_roundg k1
              case measure => have := HK1.out; omega
              case rel => exact ⟨(y221), (wrap64 (x6_1 + 1)), (by first | rfl | (simp; done) | (simp [*]; done)), H', ⟨by have := HK1.out; omega⟩, ⟨by (with_reducible repeat (first | apply Kd.R_alloc | apply Kd.R_drewN | apply Kd.R_drew)); exact HO223.out⟩, ⟨by repeat (first | (with_reducible first | exact HB.out | apply below_alloc | apply pw_below_drewN | apply below_drew1) | exact HB.out)⟩⟩
            · rw [if_neg c8] at H
              exact absurd H (by simp)
          · rw [if_neg c7] at H
            have c7b0 : ((rdOf false l0 x6_1) == a1) = false := by simpa using c7
            (try (have c7b1 : decide ((rdOf false l0 x6_1) = a1) = false := by simpa using c7))
            (try (have c7b2 : ((rdOf false l0 x6_1) == a1) = false := by simpa using c7))
            (try (have c7b3 : ¬ ((rdOf false l0 x6_1) = a1) := by simpa using c7))
            clear c7
            have H' := Aside0.mk H
            clear H
            have p220 : 0 ≤ (x6_1 : Int) := of_decide_eq_true (by first | (with_reducible assumption) | assumption)
            have q220 : x6_1 < (l0.length : Int) := of_decide_eq_true (by first | (with_reducible assumption) | assumption)
            obtain ⟨ad220, e220, hx220_0⟩ := Kd.at_bool HR0.out x6_1 p220 q220
            cases e220
            replace hx220_0 := (HB.out.cell (World.block_lt_of_cell? w _ hx220_0)).trans hx220_0
            replace p220 := eq_true p220
            replace q220 := eq_true q220
            go_wp2
            go_roundg k1
            case measure => have := HK1.out; omega
            case rel => exact ⟨(x5_1), (wrap64 (x6_1 + 1)), (by first | rfl | (simp; done) | (simp [*]; done)), H', ⟨by have := HK1.out; omega⟩, ⟨by (with_reducible repeat (first | apply Kd.R_alloc | apply Kd.R_drewN | apply Kd.R_drew)); exact HO_5.out⟩, ⟨by repeat (first | (with_reducible first | exact HB.out | apply below_alloc | apply pw_below_drewN | apply below_drew1) | exact HB.out)⟩⟩
        · rw [if_neg c6] at H
          exact absurd H (by simp)
      · rw [if_neg c5] at H
        have c5b0 : decide (x6_1 < (l0.length : Int)) = false := decide_eq_false c5
        clear c5
        obtain rfl := Option.some.inj H
        go_wp2
        go_ret
        exact ⟨_, by first | rfl | (simp [errW_none, errW_some] <;> rfl) | (simp [*, errW_none, errW_some] <;> rfl), by (with_reducible repeat (first | apply Kd.R_alloc | apply Kd.R_drewN | apply Kd.R_drew)); exact HO_5.out, by repeat (first | (with_reducible first | exact HB.out | apply below_alloc | apply pw_below_drewN | apply below_drew1) | exact HB.out)⟩

/-! ### impl_Final_52: function 52 -/
def impl_Final_52.f (l0 : List (S64)) : Option ((List (S64))) := (some (([] : List (S64)) : List (S64))).bind fun y256 => (if y256.length + l0.length < 5864062014805 then (some (y256 ++ l0)) else (none))
set_option maxHeartbeats 8000000 in
set_option maxRecDepth 100000 in
theorem impl_Final_52.calls (A0 : Option Addr) (c0 : Nat) (l0 : List (S64)) (r : List (S64)) (w : World) (hr0 : Kd.C k64 w A0 l0.length l0) (hc0 : l0.length ≤ c0) (h : impl_Final_52.f l0 = some r) :
    Calls Try.prog 52 #[.slice A0 l0.length c0] w fun e w' => ∃ v0_ : Value, e = .returned (v0_) ∧ Kd.R k64 64 w' w.heap.size (fun _ => True) v0_ r ∧ Below w.heap.size w w' := by
  cases A0 with
  | none =>
    obtain rfl : l0 = [] := by
      rcases Nat.eq_zero_or_pos l0.length with h0 | h0
      · exact List.length_eq_zero_iff.1 h0
      · obtain ⟨_, e, _⟩ := hr0.2.2 h0
        cases e
    obtain rfl : r = [] := by simpa [impl_Final_52.f] using h.symm
    have hq_ := fun (W : World) (n c : Nat) => run_eql_slice_nil (P := Try.prog) W 30 64 none n c Try.underlying30
    clear hr0 hc0 h
    go_enter Try.func52, Try.ntmps52
    go_wp2
    go_ret
    exact ⟨_, rfl, Kd.R_nil _ _ _ _ _, Below.refl _ _⟩
  | some ad_ =>
    have HR0 := Aside0.mk hr0
    have HC0 := Aside0.mk hc0
    clear hr0 hc0
    have HB := Aside0.mk (Below.refl w.heap.size w)
    have H : ((some (([] : List (S64)) : List (S64))).bind fun y256 => (if y256.length + l0.length < 5864062014805 then (some (y256 ++ l0)) else (none))) = some r := h
    clear h
    obtain ⟨y256, hy256⟩ : ∃ y_ : List (S64), y_ = (([] : List (S64))) := ⟨_, rfl⟩
    replace H : (if y256.length + l0.length < 5864062014805 then (some (y256 ++ l0)) else (none)) = some r := by first | (rw [hy256]; with_reducible exact H) | (have H2_ := (Option.bind_some _ _).symm.trans H; rw [hy256]; with_reducible exact H2_) | (have H2_ := (Option.bind_some _ _).symm.trans H; with_reducible exact H2_) | with_reducible exact H | (rw [hy256]; exact H) | exact H
    have Ny256 := Aside0.mk hy256
    clear hy256
    by_cases c2 : y256.length + l0.length < 5864062014805
    · rw [if_pos c2] at H
      have LMc2 := Aside0.mk c2
      clear c2
      obtain ⟨y259, hy259⟩ : ∃ y_ : List (S64), y_ = (y256 ++ l0) := ⟨_, rfl⟩
      replace H : (some y259) = some r := by first | (rw [hy259]; with_reducible exact H) | (have H2_ := (Option.bind_some _ _).symm.trans H; rw [hy259]; with_reducible exact H2_) | (have H2_ := (Option.bind_some _ _).symm.trans H; with_reducible exact H2_) | with_reducible exact H | (rw [hy259]; exact H) | exact H
      have Ny259 := Aside0.mk hy259
      clear hy259
      obtain rfl := Option.some.inj H
      have hq_ := fun (W : World) (n c : Nat) => run_eql_slice_nil (P := Try.prog) W 30 64 (some ad_) n c Try.underlying30
      go_enter Try.func52, Try.ntmps52
      go_wp2_with (first | ((with_reducible refine gate_dst (N := 5) rfl ?_); refine Kd.R_lit k64 _ 64 ?hg (N := 5) ?hd (xs := ([] : List (S64))) (inner := []) (ok := fun _ => True) (okp := fun _ => True) ?hr ?hp (fun _ hk => hk) trivial (Below.refl _ _) (Nat.le_refl _) (by simp) ?_; (case hd => rfl); (case hg => rfl); (case hr => first | (go_simp; done) | (go_simp; rfl)); (case hp => exact (Reps.none _ _)); intro v257 w3 ho4 hb hg_ hnew_; clear hg_ hnew_; (first | rw [← Ny256.out] at ho4 | (simp only [Int.reduceToNat] at ho4; rw [← Ny256.out] at ho4)); have n0_ := Aside0.mk (Kd.R_lower ho4 (below_size (by repeat (first | (with_reducible first | exact HB.out | apply below_alloc | apply pw_below_drewN | apply below_drew1) | exact HB.out)))); have n1_ := Aside0.mk (below_step (by repeat (first | (with_reducible first | exact HB.out | apply below_alloc | apply pw_below_drewN | apply below_drew1) | exact HB.out)) hb); clear HB; have HO258 := n0_; have HB := n1_; clear n0_ n1_; clear hb ho4) | ((with_reducible refine gate_builtin (b := .append) (xs := #[.tmp 5, .tmp 6]) rfl ?_); at_builtin; refine Kd.R_append_rows k64 (w0 := w) w.heap.size rfl (.tmp 5) (.tmp 6) 30 64 (.agg #[(.int .i64 0), (.int .i64 0), (.bool false)]) 24 rfl Try.underlying30 info64 rfl (by decide) (by omega) v257 y256 l0 _ _ _ (fun _ => True) (fun _ => False) rfl rfl ?aO ?aR (fun _ _ h => h) (fun _ h => h.elim) ?aF ?aB ?aS ?aL ?_; (case aR => repeat (first | exact (Kd.C_below HR0.out HB.out) | (with_reducible refine Kd.C_alloc ?_ _) | (with_reducible refine Kd.C_drewN ?_ _) | (with_reducible refine Kd.C_drew ?_))); (case aB => exact (by repeat (first | (with_reducible first | exact HB.out | apply below_alloc | apply pw_below_drewN | apply below_drew1) | exact HB.out))); (case aF => exact (fun _ _ => trivial)); (case aO => exact (by (with_reducible repeat (first | apply Kd.R_alloc | apply Kd.R_drewN | apply Kd.R_drew)); exact HO258.out)); (case aS => exact (below_size (by repeat (first | (with_reducible first | exact HB.out | apply below_alloc | apply pw_below_drewN | apply below_drew1) | exact HB.out)))); (case aL => have := LMc2.out; omega); intro v260 w5 ho hb hg hat; rw [← Ny259.out] at ho; have n0_ := Aside0.mk (hb); have n1_ := Aside0.mk (ho); clear HB; clear HO258; have HB := n0_; have HO261 := n1_; clear n0_ n1_; clear ho hb hg hat))
      go_ret
      exact ⟨_, by first | rfl | (simp [errW_none, errW_some] <;> rfl) | (simp [*, errW_none, errW_some] <;> rfl), by (with_reducible repeat (first | apply Kd.R_alloc | apply Kd.R_drewN | apply Kd.R_drew)); exact HO261.out, by repeat (first | (with_reducible first | exact HB.out | apply below_alloc | apply pw_below_drewN | apply below_drew1) | exact HB.out)⟩
    · rw [if_neg c2] at H
      exact absurd H (by simp)

/-! ### impl_FinalSweep: function 15 -/
/-- What a collection without finalizers does, for graphs that are valid. -/
def impl_FinalSweep.f (k : Nat) (l0 : List (List Int)) (l1 : List Int) (l2 : List (S64)) : Option (List Int × List Int × List Int × List (S64)) :=
  if l2 = [] ∧ l1.length ≤ 1000 then (impl_GraphOk.f k l0 l1).bind fun t => (if t = true then ((impl_reached.f k l0 l1).bind fun s => ((impl_marked.f k s false).bind fun g => (some ([], l1, g, [])))) else none) else none
theorem impl_FinalSweep.mono : ∀ a0 a1 a2 k, LeO (impl_FinalSweep.f k a0 a1 a2) (impl_FinalSweep.f (k + 1) a0 a1 a2) := fun a0 a1 a2 k => by
  unfold impl_FinalSweep.f
  exact LeO.ite (LeO.bind (impl_GraphOk.mono _ _ _) (fun _ => LeO.ite (LeO.bind (impl_reached.mono _ _ _) (fun _ => LeO.bind (impl_marked.mono _ _ _) (fun _ => LeO.refl _))) (LeO.refl _))) (LeO.refl _)
theorem fs_ok (A0 : Option Addr) (n c0 : Nat) (A2 : Option Addr) (c2 : Nat) (w : World) : Calls Try.prog 50 #[.slice A0 n c0, .slice A2 0 c2] w fun e w' => e = .returned (.bool true) ∧ w' = w := by
  go_enter Try.func50, Try.ntmps50
  go_wp2
  go_loop [12] (fun s12 => s12 = .int .i64 0) (fun _ => 0)
  case atStart => rfl
  case round =>
    subst hrel
    go_wp2
    go_ret
    exact ⟨rfl, rfl⟩
theorem fs_clone (A2 : Option Addr) (c2 : Nat) (base : Nat) (w : World) (hb : base ≤ w.heap.size) : Calls Try.prog 52 #[.slice A2 0 c2] w fun e w' => ∃ v : Value, e = .returned v ∧ Kd.R k64 64 w' base (fun _ => True) v [] ∧ Below w.heap.size w w' := by
  cases A2 with
  | none =>
    have hq_ := fun (W : World) (n c : Nat) => run_eql_slice_nil (P := Try.prog) W 30 64 none n c Try.underlying30
    go_enter Try.func52, Try.ntmps52
    go_wp2
    go_ret
    exact ⟨_, rfl, Kd.R_nil _ _ _ _ _, Below.refl _ _⟩
  | some ad =>
    have hq_ := fun (W : World) (n c : Nat) => run_eql_slice_nil (P := Try.prog) W 30 64 (some ad) n c Try.underlying30
    go_enter Try.func52, Try.ntmps52
    go_wp2
    go_ret
    refine ⟨_, rfl, ⟨fun _ _ => trivial, [], ?_, ?_⟩, below_alloc (Below.refl _ _) _⟩
    · exact World.ownsRow_lit (base := base) (e := 64) (size := k64.sz) w #[] 0 hb (by unfold maxLen; omega) (by simp)
    · exact ⟨by simp, fun j p hj => by simp at hj⟩
theorem fs_gen {P : Program} {c : Code} {Q : Exit → Act → World → Prop} {a : Act} {W : World} {F : World → Prop} (hF : F W) (h : ∀ W', F W' → Code.wp P c Q a W') : Code.wp P c Q a W := h W hF
set_option maxHeartbeats 4000000 in
set_option maxRecDepth 100000 in
theorem fs_walk (k : Nat) (A0 : Option Addr) (c0 : Nat) (l0 : List (List Int)) (A1 : Option Addr) (c1 : Nat) (l1 : List Int) (A2 : Option Addr) (c2 : Nat) (s1 : List Bool) (g1 : List Int) (w : World) (hr0 : Kd.C (Kd.slice 3 (Kd.int .i64)) w A0 l0.length l0) (hc0 : l0.length ≤ c0) (hr1 : Kd.C (Kd.int .i64) w A1 l1.length l1) (hc1 : l1.length ≤ c1) (hn : l1.length ≤ 1000)
    (hg : impl_GraphOk.f k l0 l1 = some true) (hs : impl_reached.f k l0 l1 = some s1) (hm : impl_marked.f k s1 false = some g1) :
    Calls Try.prog 15 #[.slice A0 l0.length c0, .slice A1 l1.length c1, .slice A2 0 c2] w fun e w' => ∃ v1 v2 v3 : Value, e = .returned (.agg #[.slice none 0 0, v1, v2, v3]) ∧ Kd.R (Kd.int .i64) 3 w' w.heap.size (fun k_ => some k_ ≠ (v2 : Value).ownBlock) v1 l1 ∧ Kd.R (Kd.int .i64) 3 w' w.heap.size (fun k_ => some k_ ≠ (v1 : Value).ownBlock) v2 g1 ∧ Kd.R k64 64 w' w.heap.size (fun _ => True) v3 [] ∧ Below w.heap.size w w' := by
  have HG := Aside0.mk hg
  have HS := Aside0.mk hs
  have HM := Aside0.mk hm
  have HR0 := Aside0.mk hr0
  have HR1 := Aside0.mk hr1
  have HC : Aside0 (slices_Clone_int_int.f l1 = some l1) := ⟨by
    unfold slices_Clone_int_int.f
    simp only [Option.bind_some, List.length_nil, List.nil_append]
    rw [if_pos (by omega)]⟩
  clear hg hs hm hr0 hr1
  have hu32 := Try.underlying32
  have HB := Aside0.mk (Below.refl w.heap.size w)
  go_enter Try.func15, Try.ntmps15
  go_upto_region 3 with (first | (go_at_call 14; refine (impl_GraphOk.calls k A0 c0 l0 A1 c1 l1 true _ (Kd.C_alloc HR0.out _) hc0 (Kd.C_alloc HR1.out _) hc1 HG.out).mono ?_; rintro e w1 ⟨rfl, ⟨nd, rfl⟩⟩) | (go_at_call 50; refine (fs_ok A0 l0.length c0 A2 c2 _).mono ?_; rintro e w2 ⟨rfl, rfl⟩))
  refine fs_gen (F := fun W => Below w.heap.size w W ∧ W.heap[w.heap.size]? = some (.cells #[.slice none 0 0, .slice none 0 0, .slice none 0 0, .slice none 0 0] 32 (0, 0)) ∧ w.heap.size < W.heap.size) ⟨pw_below_drewN (below_alloc (Below.refl _ _) _) _, blk_drewN (blk_new w _) _, by simp⟩ ?_
  intro W0 hW
  clear HB
  have HB := Aside0.mk hW.1
  have BR := Aside0.mk hW.2.1
  have HZ := Aside0.mk hW.2.2
  clear hW
  go_upto_region 4 with (first | (go_at_call 51; refine (slices_Clone_int_int.calls A1 c1 l1 l1 _ (Kd.C_below HR1.out HB.out) hc1 HC.out).mono ?_; rintro e w3 ⟨v1, rfl, ho1, hb1⟩; obtain ⟨a1, k1, rfl⟩ := Kd.R_slice ho1; have HO1 := Aside0.mk ho1; have HB1 := Aside0.mk hb1; clear ho1 hb1) | (go_at_call 52; refine (fs_clone A2 c2 W0.heap.size _ HB1.out.size).mono ?_; rintro e w4 ⟨v3, rfl, ho3, hb3⟩; obtain ⟨a3, k3, rfl⟩ := Kd.R_slice ho3; have HO3 := Aside0.mk ho3; have HB3 := Aside0.mk hb3; clear ho3 hb3))
  have hs1 := HB1.out.size
  have hs3 := HB3.out.size
  have hz := HZ.out
  refine fs_gen (F := fun W => Below w.heap.size w W ∧ W.heap[w.heap.size]? = some (.cells #[.slice none 0 0, .slice none 0 0, .slice none 0 0, .slice none 0 0] 32 (0, 0)) ∧ W.heap[w4.heap.size]? = some (.cells #[.slice none 0 0, .slice a1 l1.length k1, .slice none 0 0, .slice a3 0 k3] 32 (0, 0)) ∧ W.heap.size = w4.heap.size + 1 ∧ Kd.R (Kd.int .i64) 3 W w.heap.size (fun q => w.heap.size < q ∧ q < w4.heap.size) (.slice a1 l1.length k1) l1 ∧ Kd.R k64 64 W w.heap.size (fun q => w.heap.size < q ∧ q < w4.heap.size) (.slice a3 0 k3) []) ⟨?_, ?_, ?_, ?_, ?_, ?_⟩ ?_
  · exact below_alloc (below_step (below_step HB.out HB1.out) HB3.out) _
  · exact blk_alloc (blk_below (blk_below BR.out HB1.out) HB3.out) _
  · exact blk_new w4 _
  · simp
  · exact Kd.R_alloc (Kd.R_mono (Kd.R_bound (Kd.R_lower (Kd.R_below (Kd.R_mono (Kd.R_bound HO1.out) (ok' := fun q => W0.heap.size ≤ q ∧ q < w3.heap.size) (fun q hq => ⟨hq.2.1, hq.2.2.1⟩)) HB3.out) (Nat.le_of_lt hz))) (fun q hq => ⟨by have := hq.1; omega, by have := hq.1; omega⟩)) _
  · exact Kd.R_alloc (Kd.R_mono (Kd.R_lower (Kd.R_mono (Kd.R_bound HO3.out) (ok' := fun q => W0.heap.size ≤ q ∧ q < w4.heap.size) (fun q hq => ⟨hq.2.1, hq.2.2.1⟩)) (Nat.le_of_lt hz)) (fun q hq => ⟨by omega, by omega⟩)) _
  have hz4 : w.heap.size < w4.heap.size := by omega
  generalize w4.heap.size = b at *
  clear HB BR HO1 HO3 hs3 HB3
  intro W4 hW
  obtain ⟨hB, hR, hX, hsz, hO1, hO3⟩ := hW
  have HB := Aside0.mk hB
  have BR := Aside0.mk hR
  have BX := Aside0.mk hX
  have HO1 := Aside0.mk hO1
  have HO3 := Aside0.mk hO3
  clear hB hR hX hO1 hO3
  go_upto_region 5 with (go_at_call 43; refine (impl_reached.calls k A0 c0 l0 A1 c1 l1 s1 _ (Kd.C_below HR0.out HB.out) hc0 (Kd.C_below HR1.out HB.out) hc1 HS.out).mono ?_; rintro e w5 ⟨vS, rfl, hoS, hb5⟩; have HB5 := Aside0.mk hb5; clear hoS hb5)
  have HBa := Aside0.mk (below_step HB.out HB5.out)
  have BRa := Aside0.mk (blk_below BR.out HB5.out)
  have BXa := Aside0.mk (blk_below BX.out HB5.out)
  have HO1a := Aside0.mk (Kd.R_below HO1.out HB5.out)
  have HO3a := Aside0.mk (Kd.R_below HO3.out HB5.out)
  have hsz5 := HB5.out.size
  have hw5 : b < w5.heap.size := by omega
  clear HB BR BX HO1 HO3 HB5 hsz5 hsz
  have k3_ := (blk_cell BXa.out 3).trans rfl
  go_wp2
  go_loop [33] (fun s33 => s33 = .int .i64 0) (fun _ => 0)
  case atStart => rfl
  case round =>
    subst hrel
    clear k3_
    have k1_ := (blk_cell BXa.out 1).trans rfl
    obtain ⟨_, hle1, hcc1⟩ := Kd.R_reads' HO1a.out
    have HCC := Aside0.mk hcc1
    clear hcc1
    go_upto_region 16 with (first | (go_at_call 43; refine (impl_reached.calls k A0 c0 l0 a1 k1 l1 s1 _ (Kd.C_below HR0.out HBa.out) hc0 HCC.out hle1 HS.out).mono ?_; rintro e w6 ⟨vS2, rfl, hoS, hb6⟩; obtain ⟨aS, kS, rfl⟩ := Kd.R_slice hoS; have HOS := Aside0.mk (Kd.R_reads' hoS); have HB6 := Aside0.mk hb6; clear hoS hb6) | (go_at_call 42; refine (impl_marked.calls k aS kS s1 false g1 _ HOS.out.2.2 HOS.out.2.1 HM.out).mono ?_; rintro e w7 ⟨v2, rfl, ho2, hb7⟩; obtain ⟨a2, k2, rfl⟩ := Kd.R_slice ho2; have HO2 := Aside0.mk ho2; have HB7 := Aside0.mk hb7; clear ho2 hb7; have BXb := Aside0.mk (blk_below (blk_below BXa.out HB6.out) HB7.out); have BRb := Aside0.mk (blk_below (blk_below BRa.out HB6.out) HB7.out); have y2_ := (blk_cell BXb.out 2).trans rfl; have yf2_ := blk_frozen BXb.out 2))
    have hz7 : b < w7.heap.size := by have := HB6.out.size; have := HB7.out.size; omega
    refine fs_gen (F := fun W => Below w.heap.size w W ∧ W.heap[w.heap.size]? = some (.cells #[.slice none 0 0, .slice none 0 0, .slice none 0 0, .slice none 0 0] 32 (0, 0)) ∧ W.heap[b]? = some (.cells #[.slice none 0 0, .slice a1 l1.length k1, .slice a2 g1.length k2, .slice a3 0 k3] 32 (0, 0)) ∧ Kd.R (Kd.int .i64) 3 W w.heap.size (fun q => w.heap.size < q ∧ q < b) (.slice a1 l1.length k1) l1 ∧ Kd.R (Kd.int .i64) 3 W w.heap.size (fun q => b < q) (.slice a2 g1.length k2) g1 ∧ Kd.R k64 64 W w.heap.size (fun q => w.heap.size < q ∧ q < b) (.slice a3 0 k3) []) ⟨?_, ?_, ?_, ?_, ?_, ?_⟩ ?_
    · exact (below_step (below_step HBa.out HB6.out) HB7.out).setCell (Nat.le_of_lt hz4) _
    · exact (Below.heap_setCell _ _ _ _ (by show w.heap.size ≠ b; omega)).trans BRb.out
    · exact blk_put BXb.out 2 _ rfl
    · exact Kd.R_far (Kd.R_below (Kd.R_below HO1a.out HB6.out) HB7.out) (fun q hq => by have := hq.2; show q ≠ b; omega) _
    · exact Kd.R_far (Kd.R_mono (Kd.R_lower (Kd.R_bound HO2.out) (by have := HB6.out.size; omega)) (fun q hq => by have := hq.2.1; have := HB6.out.size; omega)) (fun q hq => by show q ≠ b; omega) _
    · exact Kd.R_far (Kd.R_below (Kd.R_below HO3a.out HB6.out) HB7.out) (fun q hq => by have := hq.2; show q ≠ b; omega) _
    clear HBa BRa BXa HO1a HO3a HCC HB6 HB7 HO2 BXb BRb y2_ yf2_ k1_ HOS
    intro W8 hW
    obtain ⟨hB, hR, hX, hO1, hO2, hO3⟩ := hW
    have HB := Aside0.mk hB
    have HO1 := Aside0.mk hO1
    have HO2 := Aside0.mk hO2
    have HO3 := Aside0.mk hO3
    have BR := Aside0.mk hR
    have c0_ := (blk_cell hX 0).trans rfl
    have c1_ := (blk_cell hX 1).trans rfl
    have c2_ := (blk_cell hX 2).trans rfl
    have c3_ := (blk_cell hX 3).trans rfl
    have r0_ := (blk_cell hR 0).trans rfl
    have r1_ := (blk_cell hR 1).trans rfl
    have r2_ := (blk_cell hR 2).trans rfl
    have r3_ := (blk_cell hR 3).trans rfl
    have f0_ := blk_frozen hR 0
    have f1_ := blk_frozen hR 1
    have f2_ := blk_frozen hR 2
    have f3_ := blk_frozen hR 3
    clear hB hR hX hO1 hO2 hO3
    go_wp2
    refine bodyPost_ret (results_cell_row rfl _ _ w.heap.size 32 #[.slice none 0 0, .slice a1 l1.length k1, .slice a2 g1.length k2, .slice a3 0 k3] (0, 0) _ rfl (blk_put (blk_put (blk_put (blk_put BR.out 0 (.slice none 0 0) rfl) 1 (.slice a1 l1.length k1) rfl) 2 (.slice a2 g1.length k2) rfl) 3 (.slice a3 0 k3) rfl) Try.underlying32 rfl (by kernel_rfl)) rfl ?_
    have far : ∀ {α : Type} {d : Kd α} {e : Nat} {ok : Nat → Prop} {v : Value} {xs : List α} {W : World}, (∀ q, ok q → q ≠ w.heap.size) → Kd.R d e W w.heap.size ok v xs → ∀ u0 u1 u2 u3, Kd.R d e ((((W.setCell ⟨w.heap.size, 0, none⟩ u0).setCell ⟨w.heap.size, 1, none⟩ u1).setCell ⟨w.heap.size, 2, none⟩ u2).setCell ⟨w.heap.size, 3, none⟩ u3) w.heap.size ok v xs :=
      fun h hr u0 u1 u2 u3 => Kd.R_far (Kd.R_far (Kd.R_far (Kd.R_far hr h u0) h u1) h u2) h u3
    have q1 : ∀ q, (Value.slice a1 l1.length k1).ownBlock = some q → q < b := fun q hq => (HO1.out.1 q hq).2
    have q2 : ∀ q, (Value.slice a2 g1.length k2).ownBlock = some q → b < q := fun q hq => HO2.out.1 q hq
    refine ⟨_, _, _, rfl, ?_, ?_, ?_, (((HB.out.setCell (Nat.le_refl _) _).setCell (Nat.le_refl _) _).setCell (Nat.le_refl _) _).setCell (Nat.le_refl _) _⟩
    · exact Kd.R_mono (far (fun q hq => by omega) HO1.out _ _ _ _) (fun q hq e => by have := q2 q e.symm; omega)
    · exact Kd.R_mono (far (fun q hq => by omega) HO2.out _ _ _ _) (fun q hq e => by have := q1 q e.symm; omega)
    · exact Kd.R_mono (far (fun q hq => by omega) HO3.out _ _ _ _) (fun q hq => trivial)
theorem impl_FinalSweep.calls (k : Nat) (A0 : Option Addr) (c0 : Nat) (l0 : List (List Int)) (A1 : Option Addr) (c1 : Nat) (l1 : List Int) (A2 : Option Addr) (c2 : Nat) (l2 : List (S64)) (r1 : List Int) (r2 : List Int) (r3 : List Int) (r4 : List (S64)) (w : World) (hr0 : Kd.C (Kd.slice 3 (Kd.int .i64)) w A0 l0.length l0) (hc0 : l0.length ≤ c0) (hr1 : Kd.C (Kd.int .i64) w A1 l1.length l1) (hc1 : l1.length ≤ c1) (hr2 : Kd.C k64 w A2 l2.length l2) (hc2 : l2.length ≤ c2) (h : impl_FinalSweep.f k l0 l1 l2 = some (r1, r2, r3, r4)) :
    Calls Try.prog 15 #[.slice A0 l0.length c0, .slice A1 l1.length c1, .slice A2 l2.length c2] w fun e w' => ∃ v0_ v1_ v2_ v3_ : Value, e = .returned (.agg #[v0_, v1_, v2_, v3_]) ∧ Kd.R (Kd.int .i64) 3 w' w.heap.size (fun k_ => some k_ ≠ (v1_ : Value).ownBlock ∧ some k_ ≠ (v2_ : Value).ownBlock) v0_ r1 ∧ Kd.R (Kd.int .i64) 3 w' w.heap.size (fun k_ => some k_ ≠ (v0_ : Value).ownBlock ∧ some k_ ≠ (v2_ : Value).ownBlock) v1_ r2 ∧ Kd.R (Kd.int .i64) 3 w' w.heap.size (fun k_ => some k_ ≠ (v0_ : Value).ownBlock ∧ some k_ ≠ (v1_ : Value).ownBlock) v2_ r3 ∧ Kd.R k64 64 w' w.heap.size (fun _ => True) v3_ r4 ∧ Below w.heap.size w w' := by
  unfold impl_FinalSweep.f at h
  split at h
  · rename_i hq
    obtain ⟨rfl, hn⟩ := hq
    obtain ⟨t, ht, h⟩ := Option.bind_eq_some_iff.mp h
    cases t with
    | false => simp at h
    | true =>
      simp only [if_true] at h
      obtain ⟨s, hs, h⟩ := Option.bind_eq_some_iff.mp h
      obtain ⟨g, hg, h⟩ := Option.bind_eq_some_iff.mp h
      simp only [Option.some.injEq, Prod.mk.injEq] at h
      obtain ⟨rfl, rfl, rfl, rfl⟩ := h
      exact (fs_walk k A0 c0 l0 A1 c1 l1 A2 c2 s g w hr0 hc0 hr1 hc1 hn ht hs hg).mono fun e w' ⟨v1, v2, v3, he, h1, h2, h3, hb⟩ => ⟨_, v1, v2, v3, he, Kd.R_nil _ _ _ _ _, Kd.R_mono h1 (fun k hk => ⟨by simp [Value.ownBlock], hk⟩), Kd.R_mono h2 (fun k hk => ⟨by simp [Value.ownBlock], hk⟩), h3, hb⟩
  · cases h

end Go.Proofs.Ytckninkpjdcfbaa.Q
