-- Printed by a program of this project's own, for this seat.
import Derived.Test.YtckninkpjdcfbaaQ0
import Derived.Test.YtckninkpjdcfbaaQ2
import Derived.Test.YtckninkpjdcfbaaQ3
namespace Go.Proofs.Ytckninkpjdcfbaa.Q
open Go.RowKit Go.Proofs.YtckninkpjdcfbaaW.PrintWords Go.Proofs.YtckninkpjdcfbaaW.PrintLast Go.Proofs.YtckninkpjdcfbaaW.PrintMore
attribute [local go_sem] max2_int min2_int max_two min_two max_three min_three max_four min_four   -- for this text's walks alone
set_option linter.unusedVariables false
set_option linter.unusedSimpArgs false

/-! ### impl_marked: function 42 -/
def impl_marked.l0 : Nat → Bool → List Int → List Bool → Int → Int → Option (List Int)
  | 0, _, _, _, _, _ => none
  | k + 1, x1, x5, x8, x9, x10 => if x10 < x9 then (if 0 ≤ x10 then (if x10 < (x8.length : Int) then (if ((rdOf false x8 x10) == x1) = true then (if x5.length < 17592186044416 then (impl_marked.l0 k x1 (x5 ++ [x10]) x8 x9 (wrap64 (x10 + 1))) else (none)) else (impl_marked.l0 k x1 x5 x8 x9 (wrap64 (x10 + 1)))) else (none)) else (none)) else (some x5)
def impl_marked.f (k : Nat) (l0 : List Bool) (a1 : Bool) : Option (List Int) := impl_marked.l0 k a1 ([] : List Int) l0 (l0.length : Int) 0
theorem impl_marked.mono_l : ∀ k, (∀ y0 y1 y2 y3 y4, LeO (impl_marked.l0 k y0 y1 y2 y3 y4) (impl_marked.l0 (k + 1) y0 y1 y2 y3 y4))
  | 0 => fun _ _ _ _ _ r h => by simp [impl_marked.l0] at h
  | k + 1 => by
    have ih0 := impl_marked.mono_l k
    · intro y0 y1 y2 y3 y4
      unfold impl_marked.l0
      repeat' first
      | (with_reducible exact ih0 _ _ _ _ _)
      | (with_reducible exact LeO.refl _)
      | (with_reducible exact LeO.none _)
      | (with_reducible refine LeO.ite ?_ ?_)
      | (with_reducible refine LeO.bind ?_ (fun _ => ?_))
      | exact ih0 _ _ _ _ _
      | exact LeO.none _
      | refine LeO.ite ?_ ?_
      | refine LeO.bind ?_ (fun _ => ?_)
theorem impl_marked.mono : ∀ a0 a1 k, LeO (impl_marked.f k a0 a1) (impl_marked.f (k + 1) a0 a1) := by
  intro a0 a1 k
  have ih0 := impl_marked.mono_l k
  unfold impl_marked.f
  repeat' first
      | (with_reducible exact ih0 _ _ _ _ _)
      | (with_reducible exact LeO.refl _)
      | (with_reducible exact LeO.none _)
      | (with_reducible refine LeO.ite ?_ ?_)
      | (with_reducible refine LeO.bind ?_ (fun _ => ?_))
      | exact ih0 _ _ _ _ _
      | exact LeO.none _
      | refine LeO.ite ?_ ?_
      | refine LeO.bind ?_ (fun _ => ?_)
set_option maxHeartbeats 8000000 in
set_option maxRecDepth 100000 in
theorem impl_marked.calls (k : Nat) (A0 : Option Addr) (c0 : Nat) (l0 : List Bool) (a1 : Bool) (r : List Int) (w : World) (hr0 : Kd.C Kd.bool w A0 l0.length l0) (hc0 : l0.length ≤ c0) (h : impl_marked.f k l0 a1 = some r) :
    Calls Try.prog 42 #[.slice A0 l0.length c0, .bool a1] w fun e w' => ∃ v0_ : Value, e = .returned (v0_) ∧ Kd.R (Kd.int .i64) 3 w' w.heap.size (fun _ => True) v0_ r ∧ Below w.heap.size w w' := by
  have HR0 := Aside0.mk hr0
  have HC0 := Aside0.mk hc0
  clear hr0 hc0
  have HB := Aside0.mk (Below.refl w.heap.size w)
  have H : (impl_marked.l0 k a1 ([] : List Int) l0 (l0.length : Int) 0) = some r := h
  clear h
  have H' := Aside0.mk H
  clear H
  go_enter Try.func42, Try.ntmps42
  go_wp2
  go_loopg [5, 10] k (fun kq v5 v10 w' => ∃ (x5_1 : List Int) (x10_1 : Int), v10 = .int .i64 x10_1 ∧ Aside0 (impl_marked.l0 kq a1 x5_1 l0 (l0.length : Int) x10_1 = some r) ∧ Aside0 (kq ≤ k) ∧ Aside0 (Kd.R (Kd.int .i64) 3 w' w.heap.size (fun _ => True) v5 x5_1) ∧ Aside0 (Below w.heap.size w w'))
  case atStart => exact ⟨(([] : List Int)), (0), (by first | rfl | (simp; done) | (simp [*]; done)), H', ⟨Nat.le_refl _⟩, ⟨by first | exact Kd.R_nil _ _ _ _ _ | exact Kd.N_nil _ _ _ _ _ | exact Kd.V_nil _ _ _ _ _ | exact Kd.Q_nil _ _ _ _ _ | exact Kd.S_nil _ _ _ _ _⟩, ⟨by repeat (first | (with_reducible first | exact HB.out | apply below_alloc | apply pw_below_drewN | apply below_drew1) | exact HB.out)⟩⟩
  case round =>
    clear H'
    try clear p2
    obtain ⟨x5_1, x10_1, rfl, HA, HK1, HO_5, HB⟩ := hrel
    cases gk with
    | zero => exact absurd HA.out (by simp [impl_marked.l0])
    | succ k1 =>
      have H := HA.out
      clear HA
      simp only [impl_marked.l0] at H
      by_cases c3 : x10_1 < (l0.length : Int)
      · rw [if_pos c3] at H
        have c3b0 : decide (x10_1 < (l0.length : Int)) = true := decide_eq_true c3
        clear c3
        by_cases c4 : 0 ≤ x10_1
        · rw [if_pos c4] at H
          have c4b0 : decide (0 ≤ x10_1) = true := decide_eq_true c4
          clear c4
          by_cases c5 : x10_1 < (l0.length : Int)
          · rw [if_pos c5] at H
            have c5b0 : decide (x10_1 < (l0.length : Int)) = true := decide_eq_true c5
            clear c5
            by_cases c6 : ((rdOf false l0 x10_1) == a1) = true
            · rw [if_pos c6] at H
              have c6b0 : ((rdOf false l0 x10_1) == a1) = true := c6
              (try (have c6b1 : decide ((rdOf false l0 x10_1) = a1) = true := by simpa using c6))
              (try (have c6b2 : ((rdOf false l0 x10_1) == a1) = true := by simpa using c6))
              clear c6
              by_cases c7 : x5_1.length < 17592186044416
              · rw [if_pos c7] at H
                have LMc7 := Aside0.mk c7
                clear c7
                obtain ⟨y175, hy175⟩ : ∃ y_ : List Int, y_ = (x5_1 ++ [x10_1]) := ⟨_, rfl⟩
                replace H : (impl_marked.l0 k1 a1 y175 l0 (l0.length : Int) (wrap64 (x10_1 + 1))) = some r := by first | (rw [hy175]; with_reducible exact H) | (have H2_ := (Option.bind_some _ _).symm.trans H; rw [hy175]; with_reducible exact H2_) | (have H2_ := (Option.bind_some _ _).symm.trans H; with_reducible exact H2_) | with_reducible exact H | (rw [hy175]; exact H) | exact H
                have Ny175 := Aside0.mk hy175
                clear hy175
                have H' := Aside0.mk H
                clear H
                have p174 : 0 ≤ (x10_1 : Int) := of_decide_eq_true (by first | (with_reducible assumption) | assumption)
                have q174 : x10_1 < (l0.length : Int) := of_decide_eq_true (by first | (with_reducible assumption) | assumption)
                obtain ⟨ad174, e174, hx174_0⟩ := Kd.at_bool HR0.out x10_1 p174 q174
                cases e174
                replace hx174_0 := (HB.out.cell (World.block_lt_of_cell? w _ hx174_0)).trans hx174_0
                replace p174 := eq_true p174
                replace q174 := eq_true q174
                go_wp2_with (first | ((with_reducible refine gate_builtin (b := .append) (xs := #[.tmp 18, .tmp 20]) rfl ?_); at_builtin; refine Kd.R_append (Kd.int .i64) (w0 := w) w.heap.size rfl (.tmp 18) (.tmp 20) 24 3 (.int .i64 0) 8 rfl Try.underlying24 info3 rfl (by decide) (by omega) u5 x5_1 x10_1 [.int .i64 x10_1] (fun _ => True) (fun _ => False) rfl rfl ?aP (fun _ hk => hk.elim) ?aF ?aO ?aB ?aS ?aL ?_; (case aP => exact rfl); (case aB => exact (by repeat (first | (with_reducible first | exact HB.out | apply below_alloc | apply pw_below_drewN | apply below_drew1) | exact HB.out))); (case aF => exact (fun _ _ => trivial)); (case aO => exact (by (with_reducible repeat (first | apply Kd.R_alloc | apply Kd.R_drewN | apply Kd.R_drew)); exact HO_5.out)); (case aS => exact (below_size (by repeat (first | (with_reducible first | exact HB.out | apply below_alloc | apply pw_below_drewN | apply below_drew1) | exact HB.out)))); (case aL => have := LMc7.out; omega); intro v176 w8 ho hb hg hat; rw [← Ny175.out] at ho; have n0_ := Aside0.mk (hb); have n1_ := Aside0.mk (ho); clear HB; clear HO_5; have HB := n0_; have HO177 := n1_; clear n0_ n1_; clear ho hb hg hat))
                go_roundg k1
                case measure => have := HK1.out; omega
                case rel => exact ⟨(y175), (wrap64 (x10_1 + 1)), (by first | rfl | (simp; done) | (simp [*]; done)), H', ⟨by have := HK1.out; omega⟩, ⟨by (with_reducible repeat (first | apply Kd.R_alloc | apply Kd.R_drewN | apply Kd.R_drew)); exact HO177.out⟩, ⟨by repeat (first | (with_reducible first | exact HB.out | apply below_alloc | apply pw_below_drewN | apply below_drew1) | exact HB.out)⟩⟩
              · rw [if_neg c7] at H
                exact absurd H (by simp)
            · rw [if_neg c6] at H
              have c6b0 : ((rdOf false l0 x10_1) == a1) = false := by simpa using c6
              (try (have c6b1 : decide ((rdOf false l0 x10_1) = a1) = false := by simpa using c6))
              (try (have c6b2 : ((rdOf false l0 x10_1) == a1) = false := by simpa using c6))
              (try (have c6b3 : ¬ ((rdOf false l0 x10_1) = a1) := by simpa using c6))
              clear c6
              have H' := Aside0.mk H
              clear H
              have p174 : 0 ≤ (x10_1 : Int) := of_decide_eq_true (by first | (with_reducible assumption) | assumption)
              have q174 : x10_1 < (l0.length : Int) := of_decide_eq_true (by first | (with_reducible assumption) | assumption)
              obtain ⟨ad174, e174, hx174_0⟩ := Kd.at_bool HR0.out x10_1 p174 q174
              cases e174
              replace hx174_0 := (HB.out.cell (World.block_lt_of_cell? w _ hx174_0)).trans hx174_0
              replace p174 := eq_true p174
              replace q174 := eq_true q174
              go_wp2
              go_roundg k1
              case measure => have := HK1.out; omega
              case rel => exact ⟨(x5_1), (wrap64 (x10_1 + 1)), (by first | rfl | (simp; done) | (simp [*]; done)), H', ⟨by have := HK1.out; omega⟩, ⟨by (with_reducible repeat (first | apply Kd.R_alloc | apply Kd.R_drewN | apply Kd.R_drew)); exact HO_5.out⟩, ⟨by repeat (first | (with_reducible first | exact HB.out | apply below_alloc | apply pw_below_drewN | apply below_drew1) | exact HB.out)⟩⟩
          · rw [if_neg c5] at H
            exact absurd H (by simp)
        · rw [if_neg c4] at H
          exact absurd H (by simp)
      · rw [if_neg c3] at H
        have c3b0 : decide (x10_1 < (l0.length : Int)) = false := decide_eq_false c3
        clear c3
        obtain rfl := Option.some.inj H
        go_wp2
        go_ret
        exact ⟨_, by first | rfl | (simp [errW_none, errW_some] <;> rfl) | (simp [*, errW_none, errW_some] <;> rfl), by (with_reducible repeat (first | apply Kd.R_alloc | apply Kd.R_drewN | apply Kd.R_drew)); exact HO_5.out, by repeat (first | (with_reducible first | exact HB.out | apply below_alloc | apply pw_below_drewN | apply below_drew1) | exact HB.out)⟩

/-! ### spec_indices: function 47 -/
def spec_indices.l0 : Nat → List Bool → Bool → List Int → Int → Option (List Int)
  | 0, _, _, _, _ => none
  | k + 1, x0, x1, x5, x6 => if x6 < (x0.length : Int) then (if 0 ≤ x6 then (if ((rdOf false x0 x6) == x1) = true then (if x5.length < 17592186044416 then (spec_indices.l0 k x0 x1 (x5 ++ [x6]) (wrap64 (x6 + 1))) else (none)) else (spec_indices.l0 k x0 x1 x5 (wrap64 (x6 + 1)))) else (none)) else (some x5)
def spec_indices.f (k : Nat) (l0 : List Bool) (a1 : Bool) : Option (List Int) := spec_indices.l0 k l0 a1 (([] : List Int)) 0
theorem spec_indices.mono_l : ∀ k, (∀ y0 y1 y2 y3, LeO (spec_indices.l0 k y0 y1 y2 y3) (spec_indices.l0 (k + 1) y0 y1 y2 y3))
  | 0 => fun _ _ _ _ r h => by simp [spec_indices.l0] at h
  | k + 1 => by
    have ih0 := spec_indices.mono_l k
    · intro y0 y1 y2 y3
      unfold spec_indices.l0
      repeat' first
      | (with_reducible exact ih0 _ _ _ _)
      | (with_reducible exact LeO.refl _)
      | (with_reducible exact LeO.none _)
      | (with_reducible refine LeO.ite ?_ ?_)
      | (with_reducible refine LeO.bind ?_ (fun _ => ?_))
      | exact ih0 _ _ _ _
      | exact LeO.none _
      | refine LeO.ite ?_ ?_
      | refine LeO.bind ?_ (fun _ => ?_)
theorem spec_indices.mono : ∀ a0 a1 k, LeO (spec_indices.f k a0 a1) (spec_indices.f (k + 1) a0 a1) := by
  intro a0 a1 k
  have ih0 := spec_indices.mono_l k
  unfold spec_indices.f
  repeat' first
      | (with_reducible exact ih0 _ _ _ _)
      | (with_reducible exact LeO.refl _)
      | (with_reducible exact LeO.none _)
      | (with_reducible refine LeO.ite ?_ ?_)
      | (with_reducible refine LeO.bind ?_ (fun _ => ?_))
      | exact ih0 _ _ _ _
      | exact LeO.none _
      | refine LeO.ite ?_ ?_
      | refine LeO.bind ?_ (fun _ => ?_)
set_option maxHeartbeats 8000000 in
set_option maxRecDepth 100000 in
theorem spec_indices.calls (k : Nat) (A0 : Option Addr) (c0 : Nat) (l0 : List Bool) (a1 : Bool) (r : List Int) (w : World) (hr0 : Kd.C Kd.bool w A0 l0.length l0) (hc0 : l0.length ≤ c0) (h : spec_indices.f k l0 a1 = some r) :
    Calls Try.prog 47 #[.slice A0 l0.length c0, .bool a1] w fun e w' => ∃ v0_ : Value, e = .returned (v0_) ∧ Kd.R (Kd.int .i64) 3 w' w.heap.size (fun _ => True) v0_ r ∧ Below w.heap.size w w' := by
  have HR0 := Aside0.mk hr0
  have HC0 := Aside0.mk hc0
  clear hr0 hc0
  have HB := Aside0.mk (Below.refl w.heap.size w)
  have H : (spec_indices.l0 k l0 a1 (([] : List Int)) 0) = some r := h
  clear h
  obtain ⟨y217, hy217⟩ : ∃ y_ : List Int, y_ = (([] : List Int)) := ⟨_, rfl⟩
  replace H : (spec_indices.l0 k l0 a1 y217 0) = some r := by first | (rw [hy217]; with_reducible exact H) | (have H2_ := (Option.bind_some _ _).symm.trans H; rw [hy217]; with_reducible exact H2_) | (have H2_ := (Option.bind_some _ _).symm.trans H; with_reducible exact H2_) | with_reducible exact H | (rw [hy217]; exact H) | exact H
  have Ny217 := Aside0.mk hy217
  clear hy217
  have H' := Aside0.mk H
  clear H
  go_enter Try.func47, Try.ntmps47
  go_wp2_with (first | ((with_reducible refine gate_dst (N := 7) rfl ?_); refine Kd.R_lit (Kd.int .i64) _ 3 ?hg (N := 7) ?hd (xs := ([] : List Int)) (inner := []) (ok := fun _ => True) (okp := fun _ => True) ?hr ?hp (fun _ hk => hk) trivial (Below.refl _ _) (Nat.le_refl _) (by simp) ?_; (case hd => rfl); (case hg => rfl); (case hr => first | (go_simp; done) | (go_simp; rfl)); (case hp => exact (Reps.none _ _)); intro v218 w3 ho4 hb hg_ hnew_; clear hg_ hnew_; (first | rw [← Ny217.out] at ho4 | (simp only [Int.reduceToNat] at ho4; rw [← Ny217.out] at ho4)); have n0_ := Aside0.mk (Kd.R_lower ho4 (below_size (by repeat (first | (with_reducible first | exact HB.out | apply below_alloc | apply pw_below_drewN | apply below_drew1) | exact HB.out)))); have n1_ := Aside0.mk (below_step (by repeat (first | (with_reducible first | exact HB.out | apply below_alloc | apply pw_below_drewN | apply below_drew1) | exact HB.out)) hb); clear HB; have HO219 := n0_; have HB := n1_; clear n0_ n1_; clear hb ho4))
  go_loopg [5, 6] k (fun kq v5 v6 w' => ∃ (x5_1 : List Int) (x6_1 : Int), v6 = .int .i64 x6_1 ∧ Aside0 (spec_indices.l0 kq l0 a1 x5_1 x6_1 = some r) ∧ Aside0 (kq ≤ k) ∧ Aside0 (Kd.R (Kd.int .i64) 3 w' w.heap.size (fun _ => True) v5 x5_1) ∧ Aside0 (Below w.heap.size w w'))
  case atStart => exact ⟨(y217), (0), (by first | rfl | (simp; done) | (simp [*]; done)), H', ⟨Nat.le_refl _⟩, ⟨by (with_reducible repeat (first | apply Kd.R_alloc | apply Kd.R_drewN | apply Kd.R_drew)); exact HO219.out⟩, ⟨by repeat (first | (with_reducible first | exact HB.out | apply below_alloc | apply pw_below_drewN | apply below_drew1) | exact HB.out)⟩⟩
  case round =>
    clear H'
    try clear p2
    try clear c4
    obtain ⟨x5_1, x6_1, rfl, HA, HK1, HO_5, HB⟩ := hrel
    cases gk with
    | zero => exact absurd HA.out (by simp [spec_indices.l0])
    | succ k1 =>
      have H := HA.out
      clear HA
      simp only [spec_indices.l0] at H
      by_cases c5 : x6_1 < (l0.length : Int)
      · rw [if_pos c5] at H
        have c5b0 : decide (x6_1 < (l0.length : Int)) = true := decide_eq_true c5
        clear c5
        by_cases c6 : 0 ≤ x6_1
        · rw [if_pos c6] at H
          have c6b0 : decide (0 ≤ x6_1) = true := decide_eq_true c6
          clear c6
          by_cases c7 : ((rdOf false l0 x6_1) == a1) = true
          · rw [if_pos c7] at H
            have c7b0 : ((rdOf false l0 x6_1) == a1) = true := c7
            (try (have c7b1 : decide ((rdOf false l0 x6_1) = a1) = true := by simpa using c7))
            (try (have c7b2 : ((rdOf false l0 x6_1) == a1) = true := by simpa using c7))
            clear c7
            by_cases c8 : x5_1.length < 17592186044416
            · rw [if_pos c8] at H
              have LMc8 := Aside0.mk c8
              clear c8
              obtain ⟨y221, hy221⟩ : ∃ y_ : List Int, y_ = (x5_1 ++ [x6_1]) := ⟨_, rfl⟩
              replace H : (spec_indices.l0 k1 l0 a1 y221 (wrap64 (x6_1 + 1))) = some r := by first | (rw [hy221]; with_reducible exact H) | (have H2_ := (Option.bind_some _ _).symm.trans H; rw [hy221]; with_reducible exact H2_) | (have H2_ := (Option.bind_some _ _).symm.trans H; with_reducible exact H2_) | with_reducible exact H | (rw [hy221]; exact H) | exact H
              have Ny221 := Aside0.mk hy221
              clear hy221
              have H' := Aside0.mk H
              clear H
              have p220 : 0 ≤ (x6_1 : Int) := of_decide_eq_true (by first | (with_reducible assumption) | assumption)
              have q220 : x6_1 < (l0.length : Int) := of_decide_eq_true (by first | (with_reducible assumption) | assumption)
              obtain ⟨ad220, e220, hx220_0⟩ := Kd.at_bool HR0.out x6_1 p220 q220
              cases e220
              replace hx220_0 := (HB.out.cell (World.block_lt_of_cell? w _ hx220_0)).trans hx220_0
              replace p220 := eq_true p220
              replace q220 := eq_true q220
              go_wp2_with (first | ((with_reducible refine gate_builtin (b := .append) (xs := #[.tmp 20, .tmp 22]) rfl ?_); at_builtin; refine Kd.R_append (Kd.int .i64) (w0 := w) w.heap.size rfl (.tmp 20) (.tmp 22) 24 3 (.int .i64 0) 8 rfl Try.underlying24 info3 rfl (by decide) (by omega) u5 x5_1 x6_1 [.int .i64 x6_1] (fun _ => True) (fun _ => False) rfl rfl ?aP (fun _ hk => hk.elim) ?aF ?aO ?aB ?aS ?aL ?_; (case aP => exact rfl); (case aB => exact (by repeat (first | (with_reducible first | exact HB.out | apply below_alloc | apply pw_below_drewN | apply below_drew1) | exact HB.out))); (case aF => exact (fun _ _ => trivial)); (case aO => exact (by (with_reducible repeat (first | apply Kd.R_alloc | apply Kd.R_drewN | apply Kd.R_drew)); exact HO_5.out)); (case aS => exact (below_size (by repeat (first | (with_reducible first | exact HB.out | apply below_alloc | apply pw_below_drewN | apply below_drew1) | exact HB.out)))); (case aL => have := LMc8.out; omega); intro v222 w9 ho hb hg hat; rw [← Ny221.out] at ho; have n0_ := Aside0.mk (hb); have n1_ := Aside0.mk (ho); clear HB; clear HO_5; have HB := n0_; have HO223 := n1_; clear n0_ n1_; clear ho hb hg hat))
              go_roundg k1
              case measure => have := HK1.out; omega
              case rel => exact ⟨(y221), (wrap64 (x6_1 + 1)), (by first | rfl | (simp; done) | (simp [*]; done)), H', ⟨by have := HK1.out; omega⟩, ⟨by (with_reducible repeat (first | apply Kd.R_alloc | apply Kd.R_drewN | apply Kd.R_drew)); exact HO223.out⟩, ⟨by repeat (first | (with_reducible first | exact HB.out | apply below_alloc | apply pw_below_drewN | apply below_drew1) | exact HB.out)⟩⟩
            · rw [if_neg c8] at H
              exact absurd H (by simp)
          · rw [if_neg c7] at H
            have c7b0 : ((rdOf false l0 x6_1) == a1) = false := by simpa using c7
            (try (have c7b1 : decide ((rdOf false l0 x6_1) = a1) = false := by simpa using c7))
            (try (have c7b2 : ((rdOf false l0 x6_1) == a1) = false := by simpa using c7))
            (try (have c7b3 : ¬ ((rdOf false l0 x6_1) = a1) := by simpa using c7))
            clear c7
            have H' := Aside0.mk H
            clear H
            have p220 : 0 ≤ (x6_1 : Int) := of_decide_eq_true (by first | (with_reducible assumption) | assumption)
            have q220 : x6_1 < (l0.length : Int) := of_decide_eq_true (by first | (with_reducible assumption) | assumption)
            obtain ⟨ad220, e220, hx220_0⟩ := Kd.at_bool HR0.out x6_1 p220 q220
            cases e220
            replace hx220_0 := (HB.out.cell (World.block_lt_of_cell? w _ hx220_0)).trans hx220_0
            replace p220 := eq_true p220
            replace q220 := eq_true q220
            go_wp2
            go_roundg k1
            case measure => have := HK1.out; omega
            case rel => exact ⟨(x5_1), (wrap64 (x6_1 + 1)), (by first | rfl | (simp; done) | (simp [*]; done)), H', ⟨by have := HK1.out; omega⟩, ⟨by (with_reducible repeat (first | apply Kd.R_alloc | apply Kd.R_drewN | apply Kd.R_drew)); exact HO_5.out⟩, ⟨by repeat (first | (with_reducible first | exact HB.out | apply below_alloc | apply pw_below_drewN | apply below_drew1) | exact HB.out)⟩⟩
        · rw [if_neg c6] at H
          exact absurd H (by simp)
      · rw [if_neg c5] at H
        have c5b0 : decide (x6_1 < (l0.length : Int)) = false := decide_eq_false c5
        clear c5
        obtain rfl := Option.some.inj H
        go_wp2
        go_ret
        exact ⟨_, by first | rfl | (simp [errW_none, errW_some] <;> rfl) | (simp [*, errW_none, errW_some] <;> rfl), by (with_reducible repeat (first | apply Kd.R_alloc | apply Kd.R_drewN | apply Kd.R_drew)); exact HO_5.out, by repeat (first | (with_reducible first | exact HB.out | apply below_alloc | apply pw_below_drewN | apply below_drew1) | exact HB.out)⟩

/-! ### impl_finalsOk: function 50 -/
theorem fo_eq (x : S64) (g : Nat) (a : Int) (w : World) (hc : w.cell? ⟨g, 0, none⟩ = some (.int .i64 a)) : Calls Try.prog 77 #[.agg #[.int .i64 x.f0, .int .i64 x.f1, .bool x.f2], .pointer (some ⟨g, 0, none⟩)] w fun e w' => e = .returned (.bool (decide (x.f0 = a))) ∧ Below w.heap.size w w' := by
  have hu64 := Try.underlying64
  have hg := World.block_lt_of_cell? w _ hc
  go_enter Try.func77, Try.ntmps77
  go_wp2
  go_ret
  exact ⟨rfl, below_alloc (Below.refl _ _) _⟩
set_option maxHeartbeats 1000000 in
theorem fo_index (l : List S64) (A : Option Addr) (c : Nat) (g : Nat) (a : Int) (w : World) (hr : Kd.C k64 w A l.length l) (hlen : l.length ≤ c) (hm : l.length ≤ 1000) (hc : w.cell? ⟨g, 0, none⟩ = some (.int .i64 a)) :
    Calls Try.prog 81 #[.slice A l.length c, .func (.func 77) #[] #[.pointer (some ⟨g, 0, none⟩)]] w fun e w' => ∃ r : Int, e = .returned (.int .i64 r) ∧ decide (0 ≤ r) = l.any (fun y => decide (y.f0 = a)) ∧ Below w.heap.size w w' := by
  have HR := Aside0.mk hr
  have HC := Aside0.mk hc
  have hg := Aside0.mk (World.block_lt_of_cell? w _ hc)
  clear hr hc
  have hu64 := Try.underlying64
  go_enter Try.func81, Try.ntmps81
  go_wp2
  go_loopg [8] (l.length) (fun q s8 w' => ∃ i : Nat, s8 = .int .i64 (i : Int) ∧ Aside0 (q = l.length - i) ∧ Aside0 (i ≤ l.length) ∧ Aside0 (∀ j, j < i → ¬ (rd_T64 l (j : Int)).f0 = a) ∧ Aside0 (Below w.heap.size w w'))
  case atStart => exact ⟨0, rfl, ⟨rfl⟩, ⟨Nat.zero_le _⟩, ⟨fun j hj => absurd hj (Nat.not_lt_zero j)⟩, ⟨Below.refl _ _⟩⟩
  case round =>
    obtain ⟨i, rfl, hq, hi, hn, HB⟩ := hrel
    by_cases hlt : i < l.length
    · have hltz : decide ((i : Int) < (l.length : Int)) = true := decide_eq_true (by omega)
      have hlt2 : decide (i < l.length) = true := decide_eq_true hlt
      obtain ⟨ad, e0, x0, x1, x2⟩ := at_T64 (Kd.C_below HR.out HB.out) (i : Int) (by omega) (by omega)
      cases e0
      rw [Int.toNat_natCast] at x0 x1 x2
      have hcw := (HB.out.cell (p := ⟨g, 0, none⟩) hg.out).trans HC.out
      have HCW := Aside0.mk hcw
      clear hcw
      go_wp2_with (go_at_call 77; refine (fo_eq (rd_T64 l (i : Int)) g a _ HCW.out).mono ?_; rintro e w3 ⟨rfl, hb⟩; have HB3 := Aside0.mk hb; clear hb)
      · rename_i hx
        go_ret
        refine ⟨(i : Int), rfl, ?_, below_step HB.out HB3.out⟩
        rw [decide_eq_true (Int.natCast_nonneg i), eq_comm, List.any_eq_true]
        refine ⟨rd_T64 l (i : Int), ?_, by simpa using hx⟩
        unfold rd_T64
        rw [Int.toNat_natCast, List.getD_eq_getElem?_getD, List.getElem?_eq_getElem hlt]
        exact List.getElem_mem hlt
      · rename_i hx
        have hx' : ¬ (rd_T64 l (i : Int)).f0 = a := by simpa using hx
        go_roundg (l.length - (i + 1))
        case measure => have := hq.out; omega
        case rel => exact ⟨i + 1, by go_num, ⟨rfl⟩, ⟨by omega⟩, ⟨fun j hj => by
          rcases Nat.lt_or_ge j i with q | q
          · exact hn.out j q
          · obtain rfl : j = i := by omega
            exact hx'⟩, ⟨below_step HB.out HB3.out⟩⟩
    · have hltz : decide ((i : Int) < (l.length : Int)) = false := decide_eq_false (by omega)
      go_wp2
      go_ret
      refine ⟨-1, rfl, ?_, HB.out⟩
      rw [show decide ((0 : Int) ≤ -1) = false from rfl, eq_comm, List.any_eq_false]
      intro y hy
      obtain ⟨j, hj, rfl⟩ := List.getElem_of_mem hy
      have := hn.out j (by omega)
      unfold rd_T64 at this
      rw [Int.toNat_natCast, List.getD_eq_getElem?_getD, List.getElem?_eq_getElem hj] at this
      simpa using this
theorem fo_contains (l : List S64) (A : Option Addr) (c : Nat) (g : Nat) (a : Int) (w : World) (hr : Kd.C k64 w A l.length l) (hlen : l.length ≤ c) (hm : l.length ≤ 1000) (hc : w.cell? ⟨g, 0, none⟩ = some (.int .i64 a)) :
    Calls Try.prog 76 #[.slice A l.length c, .func (.func 77) #[] #[.pointer (some ⟨g, 0, none⟩)]] w fun e w' => e = .returned (.bool (l.any fun y => decide (y.f0 = a))) ∧ Below w.heap.size w w' := by
  have H := Aside0.mk (fo_index l A c g a w hr hlen hm hc)
  clear hr hc
  go_enter Try.func76, Try.ntmps76
  go_wp2_with (go_at_call 81; refine (H.out).mono ?_; rintro e w3 ⟨r, rfl, hd, hb⟩; have HD := Aside0.mk hd; have HB3 := Aside0.mk hb; clear hd hb)
  go_ret
  exact ⟨by rw [← HD.out]; rfl, HB3.out⟩
/-- Whether the finalizer i is valid, and no other ahead of it is at its object. -/
def finRow (n : Int) (l : List S64) (i : Nat) : Bool := (!decide ((rd_T64 l (i : Int)).f0 < 0) && !decide ((rd_T64 l (i : Int)).f0 ≥ n) && !decide ((rd_T64 l (i : Int)).f1 < -1) && !decide ((rd_T64 l (i : Int)).f1 ≥ n)) && !((l.take i).any fun y => decide (y.f0 = (rd_T64 l (i : Int)).f0))
def finOk (n : Int) (l : List S64) : Bool := decide (l.length ≤ 12) && (List.range l.length).all fun i => finRow n l i
theorem finOk_no {n : Int} {l : List S64} {i : Nat} (hi : i < l.length) (h : finRow n l i = false) : finOk n l = false := by
  unfold finOk
  rw [Bool.and_eq_false_iff, List.all_eq_false]
  exact .inr ⟨i, List.mem_range.2 hi, by rw [h]; decide⟩
theorem fr_bad {n a b : Int} (q : Bool) (h : a < 0 ∨ n ≤ a ∨ b < -1 ∨ n ≤ b) : ((!decide (a < 0) && !decide (a ≥ n) && !decide (b < -1) && !decide (b ≥ n)) && !q) = false := by
  rcases h with h | h | h | h
  · rw [decide_eq_true h]; simp
  · rw [decide_eq_true (show a ≥ n from h)]; simp
  · rw [decide_eq_true h]; simp
  · rw [decide_eq_true (show b ≥ n from h)]; simp
theorem fr_ok {n a b : Int} (q : Bool) (h : 0 ≤ a ∧ a < n ∧ -1 ≤ b ∧ b < n) : ((!decide (a < 0) && !decide (a ≥ n) && !decide (b < -1) && !decide (b ≥ n)) && !q) = !q := by
  rw [decide_eq_false (show ¬ a < 0 by omega), decide_eq_false (show ¬ a ≥ n by omega), decide_eq_false (show ¬ b < -1 by omega), decide_eq_false (show ¬ b ≥ n by omega)]
  simp
set_option maxHeartbeats 2000000 in
theorem fo_walk (n c0 : Nat) (A0 : Option Addr) (l : List S64) (A : Option Addr) (c : Nat) (w : World) (hr : Kd.C k64 w A l.length l) (hlen : l.length ≤ c) :
    Calls Try.prog 50 #[.slice A0 n c0, .slice A l.length c] w fun e w' => e = .returned (.bool (finOk (n : Int) l)) ∧ Below w.heap.size w w' := by
  have HR := Aside0.mk hr
  clear hr
  have hu64 := Try.underlying64
  by_cases h12 : l.length ≤ 12
  · have hz : decide ((l.length : Int) > 12) = false := decide_eq_false (by omega)
    go_enter Try.func50, Try.ntmps50
    go_wp2
    go_loopg [12] (l.length) (fun q s12 w' => ∃ i : Nat, s12 = .int .i64 (i : Int) ∧ Aside0 (q = l.length - i) ∧ Aside0 (i ≤ l.length) ∧ Aside0 (∀ j, j < i → finRow (n : Int) l j = true) ∧ Aside0 (Below w.heap.size w w'))
    case atStart => exact ⟨0, rfl, ⟨rfl⟩, ⟨Nat.zero_le _⟩, ⟨fun j hj => absurd hj (Nat.not_lt_zero j)⟩, ⟨Below.refl _ _⟩⟩
    case round =>
      obtain ⟨i, rfl, hq, hi, hn, HB⟩ := hrel
      by_cases hlt : i < l.length
      · have hltz : decide ((i : Int) < (l.length : Int)) = true := decide_eq_true (by omega)
        have hlt2 : decide (i < l.length) = true := decide_eq_true hlt
        obtain ⟨ad, e0, x0, x1, x2⟩ := at_T64 (Kd.C_below HR.out HB.out) (i : Int) (by omega) (by omega)
        cases e0
        rw [Int.toNat_natCast] at x0 x1 x2
        have hfr : finRow (n : Int) l i = finRow (n : Int) l i := rfl
        conv at hfr => rhs; unfold finRow
        generalize (rd_T64 l (i : Int)).f0 = a at *
        generalize (rd_T64 l (i : Int)).f1 = b at *
        generalize (rd_T64 l (i : Int)).f2 = d at *
        have HFR := Aside0.mk hfr
        clear hfr
        have hti : (l.take i).length = i := by rw [List.length_take]; omega
        have hcon := fo_contains (l.take i) (some ad) c wr.heap.size a (wr.alloc (Obj.cells #[.int .i64 a, .int .i64 b, .bool d] 64)) (Kd.C_take (Kd.C_alloc (Kd.C_below HR.out HB.out) _) hi.out) (by omega) (by omega) (by simp)
        rw [hti] at hcon
        have HCON := Aside0.mk hcon
        clear hcon hti
        generalize ((l.take i).any fun y => decide (y.f0 = a)) = q at *
        go_upto_region 8 with (fail)
        all_goals first
          | (go_ret; exact ⟨by rw [finOk_no hlt (HFR.out.trans (fr_bad _ (by omega)))]; rfl, below_alloc HB.out _⟩)
          | skip
        have HQ := Aside0.mk (HFR.out.trans (fr_ok q (by omega)))
        clear HFR
        go_wp2_with (go_at_call 76; refine (HCON.out).mono ?_; rintro e w3 ⟨rfl, hb⟩; have HB3 := Aside0.mk (below_step (below_alloc HB.out _) hb); clear hb)
        · rename_i hx
          go_ret
          exact ⟨by rw [finOk_no hlt (HQ.out.trans (by rw [hx]; rfl))]; rfl, HB3.out⟩
        · rename_i hx
          have hrow : finRow (n : Int) l i = true := HQ.out.trans (by rw [hx]; rfl)
          go_roundg (l.length - (i + 1))
          case measure => have := hq.out; omega
          case rel => exact ⟨i + 1, by go_num, ⟨rfl⟩, ⟨by omega⟩, ⟨fun j hj => by
            rcases Nat.lt_or_ge j i with q | q
            · exact hn.out j q
            · obtain rfl : j = i := by omega
              exact hrow⟩, HB3⟩
      · have hltz : decide ((i : Int) < (l.length : Int)) = false := decide_eq_false (by omega)
        have e1 : finOk (n : Int) l = true := by
          unfold finOk
          rw [Bool.and_eq_true, List.all_eq_true]
          exact ⟨decide_eq_true h12, fun j hj => hn.out j (by have := List.mem_range.1 hj; omega)⟩
        have E1 := Aside0.mk e1
        clear e1
        go_wp2
        go_ret
        exact ⟨by rw [E1.out]; rfl, HB.out⟩
  · have hz : decide ((l.length : Int) > 12) = true := decide_eq_true (by omega)
    have e1 : finOk (n : Int) l = false := by
      unfold finOk
      rw [decide_eq_false h12, Bool.false_and]
    have E1 := Aside0.mk e1
    clear e1
    go_enter Try.func50, Try.ntmps50
    go_wp2
    go_ret
    exact ⟨by rw [E1.out]; rfl, Below.refl _ _⟩
def impl_finalsOk.f (l0 : List (List Int)) (l1 : List (S64)) : Option Bool := some (finOk (l0.length : Int) l1)
theorem impl_finalsOk.calls (A0 : Option Addr) (c0 : Nat) (l0 : List (List Int)) (A1 : Option Addr) (c1 : Nat) (l1 : List (S64)) (r : Bool) (w : World) (hr0 : Kd.C (Kd.slice 3 (Kd.int .i64)) w A0 l0.length l0) (hc0 : l0.length ≤ c0) (hr1 : Kd.C k64 w A1 l1.length l1) (hc1 : l1.length ≤ c1) (h : impl_finalsOk.f l0 l1 = some r) :
    Calls Try.prog 50 #[.slice A0 l0.length c0, .slice A1 l1.length c1] w fun e w' => e = .returned (.bool r) ∧ Below w.heap.size w w' := by
  obtain rfl := Option.some.inj h
  exact fo_walk l0.length c0 A0 l1 A1 c1 w hr1 hc1

/-! ### impl_Final_52: function 52 -/
def impl_Final_52.f (l0 : List (S64)) : Option ((List (S64))) := (some (([] : List (S64)) : List (S64))).bind fun y250 => (if y250.length + l0.length < 5864062014805 then (some (y250 ++ l0)) else (none))
set_option maxHeartbeats 8000000 in
set_option maxRecDepth 100000 in
theorem impl_Final_52.calls (A0 : Option Addr) (c0 : Nat) (l0 : List (S64)) (r : List (S64)) (w : World) (hr0 : Kd.C k64 w A0 l0.length l0) (hc0 : l0.length ≤ c0) (h : impl_Final_52.f l0 = some r) :
    Calls Try.prog 52 #[.slice A0 l0.length c0] w fun e w' => ∃ v0_ : Value, e = .returned (v0_) ∧ Kd.R k64 64 w' w.heap.size (fun _ => True) v0_ r ∧ Below w.heap.size w w' := by
  cases A0 with
  | none =>
    obtain rfl : l0 = [] := by
      rcases Nat.eq_zero_or_pos l0.length with h0 | h0
      · exact List.length_eq_zero_iff.1 h0
      · obtain ⟨_, e, _⟩ := hr0.2.2 h0
        cases e
    obtain rfl : r = [] := by simpa [impl_Final_52.f] using h.symm
    have hq_ := fun (W : World) (n c : Nat) => run_eql_slice_nil (P := Try.prog) W 30 64 none n c Try.underlying30
    clear hr0 hc0 h
    go_enter Try.func52, Try.ntmps52
    go_wp2
    go_ret
    exact ⟨_, rfl, Kd.R_nil _ _ _ _ _, Below.refl _ _⟩
  | some ad_ =>
    have HR0 := Aside0.mk hr0
    have HC0 := Aside0.mk hc0
    clear hr0 hc0
    have HB := Aside0.mk (Below.refl w.heap.size w)
    have H : ((some (([] : List (S64)) : List (S64))).bind fun y250 => (if y250.length + l0.length < 5864062014805 then (some (y250 ++ l0)) else (none))) = some r := h
    clear h
    obtain ⟨y250, hy250⟩ : ∃ y_ : List (S64), y_ = (([] : List (S64))) := ⟨_, rfl⟩
    replace H : (if y250.length + l0.length < 5864062014805 then (some (y250 ++ l0)) else (none)) = some r := by first | (rw [hy250]; with_reducible exact H) | (have H2_ := (Option.bind_some _ _).symm.trans H; rw [hy250]; with_reducible exact H2_) | (have H2_ := (Option.bind_some _ _).symm.trans H; with_reducible exact H2_) | with_reducible exact H | (rw [hy250]; exact H) | exact H
    have Ny250 := Aside0.mk hy250
    clear hy250
    by_cases c2 : y250.length + l0.length < 5864062014805
    · rw [if_pos c2] at H
      have LMc2 := Aside0.mk c2
      clear c2
      obtain ⟨y253, hy253⟩ : ∃ y_ : List (S64), y_ = (y250 ++ l0) := ⟨_, rfl⟩
      replace H : (some y253) = some r := by first | (rw [hy253]; with_reducible exact H) | (have H2_ := (Option.bind_some _ _).symm.trans H; rw [hy253]; with_reducible exact H2_) | (have H2_ := (Option.bind_some _ _).symm.trans H; with_reducible exact H2_) | with_reducible exact H | (rw [hy253]; exact H) | exact H
      have Ny253 := Aside0.mk hy253
      clear hy253
      obtain rfl := Option.some.inj H
      have hq_ := fun (W : World) (n c : Nat) => run_eql_slice_nil (P := Try.prog) W 30 64 (some ad_) n c Try.underlying30
      go_enter Try.func52, Try.ntmps52
      go_wp2_with (first | ((with_reducible refine gate_dst (N := 5) rfl ?_); refine Kd.R_lit k64 _ 64 ?hg (N := 5) ?hd (xs := ([] : List (S64))) (inner := []) (ok := fun _ => True) (okp := fun _ => True) ?hr ?hp (fun _ hk => hk) trivial (Below.refl _ _) (Nat.le_refl _) (by simp) ?_; (case hd => rfl); (case hg => rfl); (case hr => first | (go_simp; done) | (go_simp; rfl)); (case hp => exact (Reps.none _ _)); intro v251 w3 ho4 hb hg_ hnew_; clear hg_ hnew_; (first | rw [← Ny250.out] at ho4 | (simp only [Int.reduceToNat] at ho4; rw [← Ny250.out] at ho4)); have n0_ := Aside0.mk (Kd.R_lower ho4 (below_size (by repeat (first | (with_reducible first | exact HB.out | apply below_alloc | apply pw_below_drewN | apply below_drew1) | exact HB.out)))); have n1_ := Aside0.mk (below_step (by repeat (first | (with_reducible first | exact HB.out | apply below_alloc | apply pw_below_drewN | apply below_drew1) | exact HB.out)) hb); clear HB; have HO252 := n0_; have HB := n1_; clear n0_ n1_; clear hb ho4) | ((with_reducible refine gate_builtin (b := .append) (xs := #[.tmp 5, .tmp 6]) rfl ?_); at_builtin; refine Kd.R_append_rows k64 (w0 := w) w.heap.size rfl (.tmp 5) (.tmp 6) 30 64 (.agg #[(.int .i64 0), (.int .i64 0), (.bool false)]) 24 rfl Try.underlying30 info64 rfl (by decide) (by omega) v251 y250 l0 _ _ _ (fun _ => True) (fun _ => False) rfl rfl ?aO ?aR (fun _ _ h => h) (fun _ h => h.elim) ?aF ?aB ?aS ?aL ?_; (case aR => repeat (first | exact (Kd.C_below HR0.out HB.out) | (with_reducible refine Kd.C_alloc ?_ _) | (with_reducible refine Kd.C_drewN ?_ _) | (with_reducible refine Kd.C_drew ?_))); (case aB => exact (by repeat (first | (with_reducible first | exact HB.out | apply below_alloc | apply pw_below_drewN | apply below_drew1) | exact HB.out))); (case aF => exact (fun _ _ => trivial)); (case aO => exact (by (with_reducible repeat (first | apply Kd.R_alloc | apply Kd.R_drewN | apply Kd.R_drew)); exact HO252.out)); (case aS => exact (below_size (by repeat (first | (with_reducible first | exact HB.out | apply below_alloc | apply pw_below_drewN | apply below_drew1) | exact HB.out)))); (case aL => have := LMc2.out; omega); intro v254 w5 ho hb hg hat; rw [← Ny253.out] at ho; have n0_ := Aside0.mk (hb); have n1_ := Aside0.mk (ho); clear HB; clear HO252; have HB := n0_; have HO255 := n1_; clear n0_ n1_; clear ho hb hg hat))
      go_ret
      exact ⟨_, by first | rfl | (simp [errW_none, errW_some] <;> rfl) | (simp [*, errW_none, errW_some] <;> rfl), by (with_reducible repeat (first | apply Kd.R_alloc | apply Kd.R_drewN | apply Kd.R_drew)); exact HO255.out, by repeat (first | (with_reducible first | exact HB.out | apply below_alloc | apply pw_below_drewN | apply below_drew1) | exact HB.out)⟩
    · rw [if_neg c2] at H
      exact absurd H (by simp)

/-! ### impl_FinalSweep: function 15 -/
theorem fs_gen {P : Program} {c : Code} {Q : Exit → Act → World → Prop} {a : Act} {W : World} {F : World → Prop} (hF : F W) (h : ∀ W', F W' → Code.wp P c Q a W') : Code.wp P c Q a W := h W hF
/-- What running the finalizers does: what ran, the roots, the finalizers. -/
def swGo (seen : List Bool) : List S64 → List Int → List Int → List S64 → List Int × List Int × List S64
  | [], ran, roots, out => (ran, roots, out)
  | x :: xs, ran, roots, out => if (x.f2 || rdOf false seen x.f0) = true then swGo seen xs ran roots (out ++ [x]) else swGo seen xs (ran ++ [x.f0]) (if 0 ≤ x.f1 ∧ roots.length < 12 then roots ++ [x.f1] else roots) (out ++ [⟨x.f0, x.f1, true⟩])
theorem finOk_at {n : Int} {l : List S64} (h : finOk n l = true) : l.length ≤ 12 ∧ ∀ i, i < l.length → 0 ≤ (rd_T64 l (i : Int)).f0 ∧ (rd_T64 l (i : Int)).f0 < n := by
  unfold finOk at h
  rw [Bool.and_eq_true, List.all_eq_true] at h
  refine ⟨of_decide_eq_true h.1, fun i hi => ?_⟩
  have := h.2 i (List.mem_range.2 hi)
  unfold finRow at this
  simp only [Bool.and_eq_true, Bool.not_eq_true', decide_eq_false_iff_not] at this
  omega
theorem fg_set {α : Type} {d : Kd α} {e base : Nat} {w : World} {ok : Nat → Prop} {v : Value} {xs : List α} (h : d.R e w base ok v xs) {g t : Nat} {cells : Array Value} (hb : w.heap[g]? = some (.cells cells t (0, 0))) (ht : ∀ q, q ∈ e :: d.E → q ≠ t) (j : Nat) (u : Value) : d.R e (w.setCell ⟨g, j, none⟩ u) base ok v xs :=
  Kd.R_mono (Kd.R_far (p := ⟨g, j, none⟩) (Kd.R_types h hb ht) (fun _ hk => hk.2) u) (fun _ hk => hk.1)
set_option maxHeartbeats 2000000 in
theorem fs_bad (k : Nat) (A0 : Option Addr) (c0 : Nat) (l0 : List (List Int)) (A1 : Option Addr) (c1 : Nat) (l1 : List Int) (A2 : Option Addr) (c2 : Nat) (l2 : List S64) (w : World) (hr0 : Kd.C (Kd.slice 3 (Kd.int .i64)) w A0 l0.length l0) (hc0 : l0.length ≤ c0) (hr1 : Kd.C (Kd.int .i64) w A1 l1.length l1) (hc1 : l1.length ≤ c1) (hr2 : Kd.C k64 w A2 l2.length l2) (hc2 : l2.length ≤ c2)
    (h : impl_GraphOk.f k l0 l1 = some false ∨ (impl_GraphOk.f k l0 l1 = some true ∧ finOk (l0.length : Int) l2 = false)) :
    Calls Try.prog 15 #[.slice A0 l0.length c0, .slice A1 l1.length c1, .slice A2 l2.length c2] w fun e w' => e = .returned (.agg #[.slice none 0 0, .slice none 0 0, .slice none 0 0, .slice none 0 0]) ∧ Below w.heap.size w w' := by
  have HR0 := Aside0.mk hr0
  have HR1 := Aside0.mk hr1
  have HR2 := Aside0.mk hr2
  clear hr0 hr1 hr2
  have hu32 := Try.underlying32
  rcases h with hg | ⟨hg, ho⟩
  · have HG := Aside0.mk hg
    clear hg
    go_enter Try.func15, Try.ntmps15
    go_upto_region 2 with (first | (go_at_call 14; refine (impl_GraphOk.calls k A0 c0 l0 A1 c1 l1 false _ (Kd.C_alloc HR0.out _) hc0 (Kd.C_alloc HR1.out _) hc1 HG.out).mono ?_; rintro e w1 ⟨rfl, ⟨nd, rfl⟩⟩))
    refine fs_gen (F := fun W => Below w.heap.size w W ∧ W.heap[w.heap.size]? = some (.cells #[.slice none 0 0, .slice none 0 0, .slice none 0 0, .slice none 0 0] 32 (0, 0))) ⟨pw_below_drewN (below_alloc (Below.refl _ _) _) _, blk_drewN (blk_new w _) _⟩ ?_
    intro W hW
    obtain ⟨hB, hR⟩ := hW
    have HB := Aside0.mk hB
    have BR := Aside0.mk hR
    have r0_ := (blk_cell hR 0).trans rfl
    have r1_ := (blk_cell hR 1).trans rfl
    have r2_ := (blk_cell hR 2).trans rfl
    have r3_ := (blk_cell hR 3).trans rfl
    have f0_ := blk_frozen hR 0
    have f1_ := blk_frozen hR 1
    have f2_ := blk_frozen hR 2
    have f3_ := blk_frozen hR 3
    clear hB hR
    go_wp2
    refine bodyPost_ret (results_cell_row rfl _ _ w.heap.size 32 #[.slice none 0 0, .slice none 0 0, .slice none 0 0, .slice none 0 0] (0, 0) _ rfl (blk_put (blk_put (blk_put (blk_put BR.out 0 (.slice none 0 0) rfl) 1 (.slice none 0 0) rfl) 2 (.slice none 0 0) rfl) 3 (.slice none 0 0) rfl) Try.underlying32 rfl (by kernel_rfl)) rfl ?_
    exact ⟨rfl, (((HB.out.setCell (Nat.le_refl _) _).setCell (Nat.le_refl _) _).setCell (Nat.le_refl _) _).setCell (Nat.le_refl _) _⟩
  · have HG := Aside0.mk hg
    have HOK := Aside0.mk (fo_walk l0.length c0 A0 l2 A2 c2)
    rw [ho] at HOK
    clear hg ho
    go_enter Try.func15, Try.ntmps15
    go_upto_region 2 with (first | (go_at_call 14; refine (impl_GraphOk.calls k A0 c0 l0 A1 c1 l1 true _ (Kd.C_alloc HR0.out _) hc0 (Kd.C_alloc HR1.out _) hc1 HG.out).mono ?_; rintro e w1 ⟨rfl, ⟨nd, rfl⟩⟩) | (go_at_call 50; refine (HOK.out _ (Kd.C_drewN (Kd.C_alloc HR2.out _) _) hc2).mono ?_; rintro e w2 ⟨rfl, hbo⟩; have HBO := Aside0.mk hbo; clear hbo))
    refine fs_gen (F := fun W => Below w.heap.size w W ∧ W.heap[w.heap.size]? = some (.cells #[.slice none 0 0, .slice none 0 0, .slice none 0 0, .slice none 0 0] 32 (0, 0))) ⟨below_step (pw_below_drewN (below_alloc (Below.refl _ _) _) _) HBO.out, blk_below (blk_drewN (blk_new w _) _) HBO.out⟩ ?_
    intro W hW
    obtain ⟨hB, hR⟩ := hW
    have HB := Aside0.mk hB
    have BR := Aside0.mk hR
    have r0_ := (blk_cell hR 0).trans rfl
    have r1_ := (blk_cell hR 1).trans rfl
    have r2_ := (blk_cell hR 2).trans rfl
    have r3_ := (blk_cell hR 3).trans rfl
    have f0_ := blk_frozen hR 0
    have f1_ := blk_frozen hR 1
    have f2_ := blk_frozen hR 2
    have f3_ := blk_frozen hR 3
    clear hB hR HBO
    go_wp2
    refine bodyPost_ret (results_cell_row rfl _ _ w.heap.size 32 #[.slice none 0 0, .slice none 0 0, .slice none 0 0, .slice none 0 0] (0, 0) _ rfl (blk_put (blk_put (blk_put (blk_put BR.out 0 (.slice none 0 0) rfl) 1 (.slice none 0 0) rfl) 2 (.slice none 0 0) rfl) 3 (.slice none 0 0) rfl) Try.underlying32 rfl (by kernel_rfl)) rfl ?_
    exact ⟨rfl, (((HB.out.setCell (Nat.le_refl _) _).setCell (Nat.le_refl _) _).setCell (Nat.le_refl _) _).setCell (Nat.le_refl _) _⟩
set_option maxHeartbeats 8000000 in
set_option maxRecDepth 100000 in
theorem fs_walk (k : Nat) (A0 : Option Addr) (c0 : Nat) (l0 : List (List Int)) (A1 : Option Addr) (c1 : Nat) (l1 : List Int) (A2 : Option Addr) (c2 : Nat) (l2 : List S64) (s1 s2 : List Bool) (ran' roots' g1 : List Int) (fins' : List S64) (w : World) (hr0 : Kd.C (Kd.slice 3 (Kd.int .i64)) w A0 l0.length l0) (hc0 : l0.length ≤ c0) (hr1 : Kd.C (Kd.int .i64) w A1 l1.length l1) (hc1 : l1.length ≤ c1) (hr2 : Kd.C k64 w A2 l2.length l2) (hc2 : l2.length ≤ c2) (hn : l1.length ≤ 1000)
    (hg : impl_GraphOk.f k l0 l1 = some true) (ho : finOk (l0.length : Int) l2 = true) (hs : impl_reached.f k l0 l1 = some s1) (hsl : s1.length = l0.length) (hgo : swGo s1 l2 [] l1 [] = (ran', roots', fins')) (hs2 : impl_reached.f k l0 roots' = some s2) (hm : impl_marked.f k s2 false = some g1) :
    Calls Try.prog 15 #[.slice A0 l0.length c0, .slice A1 l1.length c1, .slice A2 l2.length c2] w fun e w' => ∃ v0 v1 v2 v3 : Value, e = .returned (.agg #[v0, v1, v2, v3]) ∧ Kd.R (Kd.int .i64) 3 w' w.heap.size (fun k_ => some k_ ≠ (v1 : Value).ownBlock ∧ some k_ ≠ (v2 : Value).ownBlock) v0 ran' ∧ Kd.R (Kd.int .i64) 3 w' w.heap.size (fun k_ => some k_ ≠ (v0 : Value).ownBlock ∧ some k_ ≠ (v2 : Value).ownBlock) v1 roots' ∧ Kd.R (Kd.int .i64) 3 w' w.heap.size (fun k_ => some k_ ≠ (v0 : Value).ownBlock ∧ some k_ ≠ (v1 : Value).ownBlock) v2 g1 ∧ Kd.R k64 64 w' w.heap.size (fun _ => True) v3 fins' ∧ Below w.heap.size w w' := by
  obtain ⟨hl12, hat⟩ := finOk_at ho
  have HG := Aside0.mk hg
  have HS := Aside0.mk hs
  have HS2 := Aside0.mk hs2
  have HM := Aside0.mk hm
  have HGO := Aside0.mk hgo
  have HR0 := Aside0.mk hr0
  have HR1 := Aside0.mk hr1
  have HR2 := Aside0.mk hr2
  have HAT := Aside0.mk hat
  have HSL := Aside0.mk hsl
  have HC : Aside0 (slices_Clone_int_int.f l1 = some l1) := ⟨by
    unfold slices_Clone_int_int.f
    simp only [Option.bind_some, List.length_nil, List.nil_append]
    rw [if_pos (by omega)]⟩
  have HC2 : Aside0 (impl_Final_52.f l2 = some l2) := ⟨by
    unfold impl_Final_52.f
    simp only [Option.bind_some, List.length_nil, List.nil_append]
    rw [if_pos (by omega)]⟩
  have HOK := Aside0.mk (fo_walk l0.length c0 A0 l2 A2 c2)
  rw [ho] at HOK
  clear hg hs hs2 hm hgo hr0 hr1 hr2 hat hsl ho
  have hu32 := Try.underlying32
  have hu64 := Try.underlying64
  go_enter Try.func15, Try.ntmps15
  go_upto_region 3 with (first | (go_at_call 14; refine (impl_GraphOk.calls k A0 c0 l0 A1 c1 l1 true _ (Kd.C_alloc HR0.out _) hc0 (Kd.C_alloc HR1.out _) hc1 HG.out).mono ?_; rintro e w1 ⟨rfl, ⟨nd, rfl⟩⟩) | (go_at_call 50; refine (HOK.out _ (Kd.C_drewN (Kd.C_alloc HR2.out _) _) hc2).mono ?_; rintro e w2 ⟨rfl, hbo⟩; have HBO := Aside0.mk hbo; clear hbo))
  refine fs_gen (F := fun W => Below w.heap.size w W ∧ W.heap[w.heap.size]? = some (.cells #[.slice none 0 0, .slice none 0 0, .slice none 0 0, .slice none 0 0] 32 (0, 0)) ∧ w.heap.size < W.heap.size) ⟨below_step (pw_below_drewN (below_alloc (Below.refl _ _) _) _) HBO.out, blk_below (blk_drewN (blk_new w _) _) HBO.out, by have := HBO.out.size; simp at this; omega⟩ ?_
  intro W0 hW
  have HB := Aside0.mk hW.1
  have BR := Aside0.mk hW.2.1
  have HZ := Aside0.mk hW.2.2
  clear hW HBO HOK
  go_upto_region 4 with (first | (go_at_call 51; refine (slices_Clone_int_int.calls A1 c1 l1 l1 _ (Kd.C_below HR1.out HB.out) hc1 HC.out).mono ?_; rintro e w3 ⟨v1, rfl, ho1, hb1⟩; obtain ⟨a1, k1, rfl⟩ := Kd.R_slice ho1; have HO1 := Aside0.mk ho1; have HB1 := Aside0.mk hb1; clear ho1 hb1) | (go_at_call 52; refine (impl_Final_52.calls A2 c2 l2 l2 _ (Kd.C_below HR2.out (below_step HB.out HB1.out)) hc2 HC2.out).mono ?_; rintro e w4 ⟨v3, rfl, ho3, hb3⟩; obtain ⟨a3, k3, rfl⟩ := Kd.R_slice ho3; have HO3 := Aside0.mk ho3; have HB3 := Aside0.mk hb3; clear ho3 hb3))
  have hs1 := HB1.out.size
  have hs3 := HB3.out.size
  have hz := HZ.out
  refine fs_gen (F := fun W => Below w.heap.size w W ∧ W.heap[w.heap.size]? = some (.cells #[.slice none 0 0, .slice none 0 0, .slice none 0 0, .slice none 0 0] 32 (0, 0)) ∧ W.heap[w4.heap.size]? = some (.cells #[.slice none 0 0, .slice a1 l1.length k1, .slice none 0 0, .slice a3 l2.length k3] 32 (0, 0)) ∧ Kd.R (Kd.int .i64) 3 W w.heap.size (fun _ => True) (.slice a1 l1.length k1) l1 ∧ Kd.R k64 64 W w.heap.size (fun _ => True) (.slice a3 l2.length k3) l2) ⟨?_, ?_, ?_, ?_, ?_⟩ ?_
  · exact below_alloc (below_step (below_step HB.out HB1.out) HB3.out) _
  · exact blk_alloc (blk_below (blk_below BR.out HB1.out) HB3.out) _
  · exact blk_new w4 _
  · exact Kd.R_alloc (Kd.R_lower (Kd.R_below HO1.out HB3.out) (Nat.le_of_lt hz)) _
  · exact Kd.R_alloc (Kd.R_lower HO3.out (by omega)) _
  have hz4 : w.heap.size < w4.heap.size := by omega
  generalize w4.heap.size = b at *
  clear HB BR HO1 HO3 hs3 HB3 hs1 HB1 HZ hz HC HC2 HG
  intro W4 hW
  obtain ⟨hB, hR, hX, hO1, hO3⟩ := hW
  have HB := Aside0.mk hB
  have BR := Aside0.mk hR
  have BX := Aside0.mk hX
  have HO1 := Aside0.mk hO1
  have HO3 := Aside0.mk hO3
  clear hB hR hX hO1 hO3
  go_upto_region 5 with (go_at_call 43; refine (impl_reached.calls k A0 c0 l0 A1 c1 l1 s1 _ (Kd.C_below HR0.out HB.out) hc0 (Kd.C_below HR1.out HB.out) hc1 HS.out).mono ?_; rintro e w5 ⟨vS, rfl, hoS, hb5⟩; obtain ⟨aS, kS, rfl⟩ := Kd.R_slice hoS; have HOS := Aside0.mk (Kd.R_lower hoS HB.out.size); have HB5 := Aside0.mk hb5; clear hoS hb5)
  have HBa := Aside0.mk (below_step HB.out HB5.out)
  have BRa := Aside0.mk (blk_below BR.out HB5.out)
  have BXa := Aside0.mk (blk_below BX.out HB5.out)
  have HO1a := Aside0.mk (Kd.R_below HO1.out HB5.out)
  have HO3a := Aside0.mk (Kd.R_below HO3.out HB5.out)
  clear HB BR BX HO1 HO3 HB5
  have k3_ := (blk_cell BXa.out 3).trans rfl
  go_wp2
  clear k3_
  go_loopg [33] (l2.length) (fun q s33 w' => ∃ (i : Nat) (ran roots : List Int) (out : List S64) (e0 : Option Addr) (m0 : Nat) (e1 : Option Addr) (m1 : Nat), s33 = .int .i64 (i : Int) ∧ Aside0 (q = l2.length - i) ∧ Aside0 (i ≤ l2.length) ∧ Aside0 (out.length = i) ∧ Aside0 (swGo s1 (l2.drop i) ran roots out = (ran', roots', fins')) ∧ Aside0 (ran.length ≤ i ∧ roots.length ≤ 1000 + i) ∧ Aside0 (Below w.heap.size w w') ∧ Aside0 (w'.heap[w.heap.size]? = some (.cells #[.slice none 0 0, .slice none 0 0, .slice none 0 0, .slice none 0 0] 32 (0, 0))) ∧ Aside0 (w'.heap[b]? = some (.cells #[.slice e0 ran.length m0, .slice e1 roots.length m1, .slice none 0 0, .slice a3 l2.length k3] 32 (0, 0))) ∧ Aside0 (Kd.R (Kd.int .i64) 3 w' w.heap.size (fun q => some q ≠ (Value.slice e1 roots.length m1).ownBlock) (.slice e0 ran.length m0) ran) ∧ Aside0 (Kd.R (Kd.int .i64) 3 w' w.heap.size (fun q => some q ≠ (Value.slice e0 ran.length m0).ownBlock) (.slice e1 roots.length m1) roots) ∧ Aside0 (Kd.R k64 64 w' w.heap.size (fun _ => True) (.slice a3 l2.length k3) (out ++ l2.drop i)) ∧ Aside0 (Kd.R Kd.bool 4 w' w.heap.size (fun _ => True) (.slice aS s1.length kS) s1))
  case atStart => exact ⟨0, [], l1, [], none, 0, a1, k1, rfl, ⟨rfl⟩, ⟨Nat.zero_le _⟩, ⟨rfl⟩, HGO, ⟨Nat.zero_le _, by omega⟩, HBa, BRa, BXa, ⟨Kd.R_nil _ _ _ _ _⟩, ⟨Kd.R_mono HO1a.out (fun _ _ => by simp [Value.ownBlock])⟩, HO3a, HOS⟩
  case round =>
    clear HGO HBa BRa BXa HO1a HO3a HOS HS
    obtain ⟨i, ran, roots, out, e0, m0, e1, m1, rfl, hq, hi, hout, HGO, hlen, HB, BR, BX, HN, HT, HF, HOS⟩ := hrel
    by_cases hlt : i < l2.length
    · have hltz : decide ((i : Int) < (l2.length : Int)) = true := decide_eq_true (by omega)
      have hlt2 : decide (i < l2.length) = true := decide_eq_true hlt
      have hfl : (out ++ l2.drop i).length = l2.length := by rw [List.length_append, List.length_drop, hout.out]; omega
      obtain ⟨g3, cap3, e3, hg3, hg3', cells3, hcells3⟩ := Kd.R_form HF.out (by omega)
      rw [hfl] at e3
      injection e3 with e3 _ e3'
      subst e3
      subst e3'
      obtain ⟨cs, hcl, hM, hcc, hff⟩ := Kd.R_elem HF.out z64 (i : Int) (by omega) (by omega)
      have hx : (out ++ l2.drop i).getD (i : Int).toNat z64 = rd_T64 l2 (i : Int) := by
        unfold rd_T64
        rw [Int.toNat_natCast, List.getD_eq_getElem?_getD, List.getD_eq_getElem?_getD, List.getElem?_append_right (by rw [hout.out]; exact Nat.le_refl _), hout.out, Nat.sub_self, List.getElem?_drop, Nat.add_zero]
      rw [hx] at hM
      obtain rfl := k64_openM hM
      have x0 := hcc 0 _ rfl
      have x1 := hcc 1 _ rfl
      have x2 := hcc 2 _ rfl
      have xf := hff 2
      have hdr : l2.drop i = rd_T64 l2 (i : Int) :: l2.drop (i + 1) := by
        unfold rd_T64
        rw [Int.toNat_natCast, List.getD_eq_getElem?_getD, List.getElem?_eq_getElem hlt]
        exact (List.getElem_cons_drop hlt).symm
      have hrange := HAT.out i hlt
      obtain ⟨adS, eS, xs⟩ := Kd.at_bool (Kd.R_reads' HOS.out).2.2 (rd_T64 l2 (i : Int)).f0 hrange.1 (by have := HSL.out; omega)
      cases eS
      have hr1 : decide (0 ≤ (rd_T64 l2 (i : Int)).f0) = true := decide_eq_true hrange.1
      have hr2 : decide ((rd_T64 l2 (i : Int)).f0 < (s1.length : Int)) = true := decide_eq_true (by have := HSL.out; omega)
      have hgo := HGO.out
      rw [hdr] at hgo
      unfold swGo at hgo
      have HFF := Aside0.mk hgo
      have HCL := Aside0.mk hcc
      clear hgo hcc hff HGO hM hx hcl
      generalize hX : rd_T64 l2 (i : Int) = X at *
      obtain ⟨a, bb, d⟩ := X
      simp only at x0 x1 x2 xs hr1 hr2 hrange
      generalize hsb : rdOf false s1 a = sb at *
      have c3_ := (blk_cell BX.out 3).trans rfl
      rw [Int.toNat_natCast, show k64.sz = 3 from rfl] at x0 x1 x2 xf
      rw [Nat.add_zero] at x0
      have hnn : (0 : Int) ≤ (i : Int) := Int.natCast_nonneg i
      have hp1 := eq_true hrange.1
      have hp2 := eq_true (show a < (s1.length : Int) by have := HSL.out; omega)
      clear hr1 hr2
      cases d with
      | true =>
        have hgo2 := HFF.out
        simp only [Bool.true_or, Bool.or_true, if_true] at hgo2
        go_upto_region 10 with (fail)
        go_roundg (l2.length - (i + 1))
        case measure => have := hq.out; omega
        case rel => exact ⟨i + 1, ran, roots, _, e0, m0, e1, m1, by go_num, ⟨rfl⟩, ⟨by omega⟩, ⟨by rw [List.length_append, hout.out]; rfl⟩, ⟨hgo2⟩, ⟨by have := hlen.out.1; omega, by have := hlen.out.2; omega⟩, HB, BR, BX, HN, HT, ⟨by rw [List.append_assoc]; have := HF.out; rw [hdr] at this; exact this⟩, HOS⟩
      | false =>
        cases sb with
        | true =>
          have hgo2 := HFF.out
          simp only [Bool.true_or, Bool.or_true, if_true] at hgo2
          go_upto_region 10 with (fail)
          go_roundg (l2.length - (i + 1))
          case measure => have := hq.out; omega
          case rel => exact ⟨i + 1, ran, roots, _, e0, m0, e1, m1, by go_num, ⟨rfl⟩, ⟨by omega⟩, ⟨by rw [List.length_append, hout.out]; rfl⟩, ⟨hgo2⟩, ⟨by have := hlen.out.1; omega, by have := hlen.out.2; omega⟩, HB, BR, BX, HN, HT, ⟨by rw [List.append_assoc]; have := HF.out; rw [hdr] at this; exact this⟩, HOS⟩
        | false =>
          have hgo2 := HFF.out
          simp only [Bool.or_false, Bool.false_eq_true, if_false] at hgo2
          have HGO2 := Aside0.mk hgo2
          clear hgo2 HFF
          go_upto_region 11 with (fail)
          have hb3 : b ≠ g3 := fun e => by
            have h_ := BX.out
            rw [e, hcells3] at h_
            simp at h_
          have hw3 : w.heap.size ≠ g3 := fun e => by
            have h_ := BR.out
            rw [e, hcells3] at h_
            simp at h_
          refine fs_gen (F := fun W => Below w.heap.size w W ∧ W.heap[w.heap.size]? = some (.cells #[.slice none 0 0, .slice none 0 0, .slice none 0 0, .slice none 0 0] 32 (0, 0)) ∧ W.heap[b]? = some (.cells #[.slice e0 ran.length m0, .slice e1 roots.length m1, .slice none 0 0, .slice (some ⟨g3, 0, none⟩) l2.length k3] 32 (0, 0)) ∧ Kd.R (Kd.int .i64) 3 W w.heap.size (fun q => some q ≠ (Value.slice e1 roots.length m1).ownBlock) (.slice e0 ran.length m0) ran ∧ Kd.R (Kd.int .i64) 3 W w.heap.size (fun q => some q ≠ (Value.slice e0 ran.length m0).ownBlock) (.slice e1 roots.length m1) roots ∧ Kd.R k64 64 W w.heap.size (fun _ => True) (.slice (some ⟨g3, 0, none⟩) l2.length k3) (out ++ [(⟨a, bb, true⟩ : S64)] ++ l2.drop (i + 1)) ∧ Kd.R Kd.bool 4 W w.heap.size (fun _ => True) (.slice (some adS) s1.length kS) s1 ∧ W.cell? ⟨g3, i * 3, none⟩ = some (.int .i64 a) ∧ W.cell? ⟨g3, i * 3 + 1, none⟩ = some (.int .i64 bb)) ⟨?_, ?_, ?_, ?_, ?_, ?_, ?_, ?_, ?_⟩ ?_
          · exact HB.out.setCell hg3 _
          · exact (Below.heap_setCell _ _ _ _ hw3).trans BR.out
          · exact (Below.heap_setCell _ _ _ _ hb3).trans BX.out
          · exact fg_set HN.out hcells3 (by decide) _ _
          · exact fg_set HT.out hcells3 (by decide) _ _
          · have h_ := (Kd.R_seg HF.out (i : Int) (by omega) (by omega) (c := [.int .i64 a, .int .i64 bb, .bool false]) (seg := [.bool true]) (j := 2) (okp := fun _ => False) (x' := ⟨a, bb, true⟩) rfl HCL.out (by decide) (k64_mkM _ _ _ _) (fun _ h => h.elim)).1
            rw [Int.toNat_natCast] at h_
            have e_ : (out ++ l2.drop i).set i (⟨a, bb, true⟩ : S64) = out ++ [(⟨a, bb, true⟩ : S64)] ++ l2.drop (i + 1) := by
              rw [hdr, List.set_append_right _ _ (by rw [hout.out]; exact Nat.le_refl _), hout.out, Nat.sub_self, List.set_cons_zero, List.append_assoc]; rfl
            rw [e_] at h_
            exact h_
          · exact fg_set HOS.out hcells3 (by decide) _ _
          · go_simp
          · go_simp
          clear HB BR BX HN HT HF HOS HCL c3_ x0 x1 x2 xf xs hcells3
          intro W hW
          obtain ⟨hB, hR, hX, hN, hT, hF, hS, x0, x1⟩ := hW
          have HB := Aside0.mk hB
          have BR := Aside0.mk hR
          have BX := Aside0.mk hX
          have HN := Aside0.mk hN
          have HT := Aside0.mk hT
          have HF := Aside0.mk hF
          have HOS := Aside0.mk hS
          clear hB hR hX hN hT hF hS
          have hfl2 : (out ++ [(⟨a, bb, true⟩ : S64)] ++ l2.drop (i + 1)).length = l2.length := by simp [hout.out]; omega
          obtain ⟨g3', cap3', e3', _, _, cells3, hcells3⟩ := Kd.R_form HF.out (by omega)
          obtain rfl : g3' = g3 := by
            injection e3' with e3' _ _
            injection e3' with e3'
            injection e3' with e3' _ _
            exact e3'.symm
          clear e3'
          have c0_ := (blk_cell BX.out 0).trans rfl
          have hne0 := Kd.R_ne HN.out BX.out (by decide)
          have hneR := Kd.R_ne HN.out BR.out (by decide)
          have hne3 := Kd.R_ne HN.out hcells3 (by decide)
          have hbl := blk_lt BX.out
          have hbn : ¬ b = W.heap.size := by omega
          have hgl := blk_lt hcells3
          have hgn : ¬ g3' = W.heap.size := by omega
          go_region_law (refine Kd.R_append_step (Kd.int .i64) (w0 := w) w.heap.size (by rfl) (.tmp 57) (.tmp 62) 24 3 (.int .i64 0) 8 rfl Try.underlying24 info3 rfl (by decide) (by omega) (.slice e0 ran.length m0) ran a [.int .i64 a] (fun _ => True) (fun _ => False) rfl rfl rfl (fun _ hk => hk.elim) (fun _ _ => trivial) (Kd.R_drew (Kd.R_mono HN.out (fun _ _ => trivial))) (below_drew HB.out) HB.out.size (by have := hlen.out.1; omega) ?_; intro v2 w2 ho2 hb2 hg2 hat2; obtain ⟨e2, m2, rfl⟩ := Kd.R_slice ho2; have BXg := Aside0.mk (blk_grown (blk_drew BX.out) hg2 hne0); have y0_ := (blk_cell BXg.out 0).trans rfl; have yf0_ := blk_frozen BXg.out 0)
          all_goals
            have hL : (ran ++ [a]).length = ran.length + 1 := by simp
            rw [hL] at ho2 hat2
            have hty : ∀ k, (Value.slice e0 ran.length m0).ownBlock = some k → ∃ cells, W.heap[k]? = some (.cells cells 3 (0, 0)) := fun k hk => by
              obtain ⟨_, ho⟩ := Kd.R_own HN.out
              exact own_typed ho k hk
            have hsep : ∀ k, (Value.slice e2 (ran.length + 1) m2).ownBlock = some k → some k ≠ (Value.slice e1 roots.length m1).ownBlock := fun k hk e_ => by
              rcases hat2 with h_ | ⟨b', h_, hb'⟩
              · exact HN.out.1 k (h_.symm.trans hk) e_
              · have h1_ := Kd.R_lt HT.out k e_.symm
                rw [h_] at hk
                injection hk with hk
                have : W.heap.size ≤ b' := hb'
                omega
            go_upto_region 12 with (fail)
            refine fs_gen (F := fun W' => Below w.heap.size w W' ∧ W'.heap[w.heap.size]? = some (.cells #[.slice none 0 0, .slice none 0 0, .slice none 0 0, .slice none 0 0] 32 (0, 0)) ∧ W'.heap[b]? = some (.cells #[.slice e2 (ran.length + 1) m2, .slice e1 roots.length m1, .slice none 0 0, .slice (some ⟨g3', 0, none⟩) l2.length k3] 32 (0, 0)) ∧ Kd.R (Kd.int .i64) 3 W' w.heap.size (fun q => some q ≠ (Value.slice e1 roots.length m1).ownBlock) (.slice e2 (ran.length + 1) m2) (ran ++ [a]) ∧ Kd.R (Kd.int .i64) 3 W' w.heap.size (fun q => some q ≠ (Value.slice e2 (ran.length + 1) m2).ownBlock) (.slice e1 roots.length m1) roots ∧ Kd.R k64 64 W' w.heap.size (fun _ => True) (.slice (some ⟨g3', 0, none⟩) l2.length k3) (out ++ [(⟨a, bb, true⟩ : S64)] ++ l2.drop (i + 1)) ∧ Kd.R Kd.bool 4 W' w.heap.size (fun _ => True) (.slice (some adS) s1.length kS) s1 ∧ W'.cell? ⟨g3', i * 3 + 1, none⟩ = some (.int .i64 bb)) ⟨?_, ?_, ?_, ?_, ?_, ?_, ?_, ?_⟩ ?_
            · exact hb2.setCell (by show w.heap.size ≤ b; omega) _
            · exact (Below.heap_setCell _ _ _ _ (by show w.heap.size ≠ b; omega)).trans (blk_grown (blk_drew BR.out) hg2 hneR)
            · exact blk_put BXg.out 0 _ rfl
            · exact fg_set (Kd.R_reok rfl ho2 hsep) BXg.out (by decide) _ _
            · exact fg_set (Kd.R_mono (Kd.R_after (Kd.R_drew (Kd.R_mono HT.out (ok' := fun q => True ∧ some q ≠ (Value.slice e0 ran.length m0).ownBlock) (fun _ hk => ⟨trivial, hk⟩))) hg2 hat2) (fun _ hk => hk.2)) BXg.out (by decide) _ _
            · exact fg_set (Kd.R_mono (Kd.R_grown (Kd.R_drew (Kd.R_apart' HF.out hty (by decide))) hg2 (fun k hk => hk.2)) (fun _ _ => trivial)) BXg.out (by decide) _ _
            · exact fg_set (Kd.R_mono (Kd.R_grown (Kd.R_drew (Kd.R_apart' HOS.out hty (by decide))) hg2 (fun k hk => hk.2)) (fun _ _ => trivial)) BXg.out (by decide) _ _
            · have x1g := cell_grown hg2 (a := ⟨g3', i * 3 + 1, none⟩) (v := .int .i64 bb) x1 hne3
              have hb3' : ¬ g3' = b := fun e => hb3 e.symm
              go_simp
            clear HB BR BX HN HT HF HOS BXg y0_ yf0_ c0_ x0 x1 ho2 hb2 hg2 hat2 hsep hty hne0 hneR hne3 hcells3 hbl hbn hgl hgn
            intro W2 hW
            obtain ⟨hB, hR, hX, hN, hT, hF, hS, x1⟩ := hW
            have HB := Aside0.mk hB
            have BR := Aside0.mk hR
            have BX := Aside0.mk hX
            have HN := Aside0.mk hN
            have HT := Aside0.mk hT
            have HF := Aside0.mk hF
            have HOS := Aside0.mk hS
            clear hB hR hX hN hT hF hS
            have c1_ := (blk_cell BX.out 1).trans rfl
            by_cases hsv : 0 ≤ bb ∧ roots.length < 12
            · have hgo3 := HGO2.out
              rw [if_pos hsv] at hgo3
              obtain ⟨hsv1, hsv2⟩ := hsv
              have hd1 : decide (bb ≥ 0) = true := decide_eq_true hsv1
              have hd2 : decide (roots.length < 12) = true := decide_eq_true hsv2
              have hd3 : decide ((roots.length : Int) < 12) = true := decide_eq_true (by omega)
              go_upto_region 13 with (fail)
              obtain ⟨g4, cap4, e4, _, _, cells3, hcells3⟩ := Kd.R_form HF.out (by omega)
              obtain rfl : g4 = g3' := by
                injection e4 with e4 _ _
                injection e4 with e4
                injection e4 with e4 _ _
                exact e4.symm
              clear e4
              have hne0 := Kd.R_ne HT.out BX.out (by decide)
              have hneR := Kd.R_ne HT.out BR.out (by decide)
              have hty : ∀ k, (Value.slice e1 roots.length m1).ownBlock = some k → ∃ cells, W2.heap[k]? = some (.cells cells 3 (0, 0)) := fun k hk => by
                obtain ⟨_, ho⟩ := Kd.R_own HT.out
                exact own_typed ho k hk
              have hbl := blk_lt BX.out
              have hbn : ¬ b = W2.heap.size := by omega
              have hgl := blk_lt hcells3
              have hgn : ¬ g4 = W2.heap.size := by omega
              go_region_law (refine Kd.R_append_step (Kd.int .i64) (w0 := w) w.heap.size (by rfl) (.tmp 77) (.tmp 82) 24 3 (.int .i64 0) 8 rfl Try.underlying24 info3 rfl (by decide) (by omega) (.slice e1 roots.length m1) roots bb [.int .i64 bb] (fun _ => True) (fun _ => False) rfl rfl rfl (fun _ hk => hk.elim) (fun _ _ => trivial) (Kd.R_drew (Kd.R_mono HT.out (fun _ _ => trivial))) (below_drew HB.out) HB.out.size (by omega) ?_; intro v5 w5' ho5 hb5 hg5 hat5; obtain ⟨e5, m5, rfl⟩ := Kd.R_slice ho5; have BXg := Aside0.mk (blk_grown (blk_drew BX.out) hg5 hne0); have y0_ := (blk_cell BXg.out 1).trans rfl; have yf0_ := blk_frozen BXg.out 1)
              all_goals
                have hL5 : (roots ++ [bb]).length = roots.length + 1 := by simp
                rw [hL5] at ho5 hat5
                have hsep : ∀ k, (Value.slice e5 (roots.length + 1) m5).ownBlock = some k → some k ≠ (Value.slice e2 (ran.length + 1) m2).ownBlock := fun k hk e_ => by
                  rcases hat5 with h_ | ⟨b', h_, hb'⟩
                  · exact HT.out.1 k (h_.symm.trans hk) e_
                  · have h1_ := Kd.R_lt HN.out k e_.symm
                    rw [h_] at hk
                    injection hk with hk
                    have : W2.heap.size ≤ b' := hb'
                    omega
                have HBn := Aside0.mk (hb5.setCell (p := ⟨b, 1, none⟩) (by show w.heap.size ≤ b; omega) (.slice e5 (roots.length + 1) m5))
                have BRn := Aside0.mk ((Below.heap_setCell w5' ⟨b, 1, none⟩ (.slice e5 (roots.length + 1) m5) w.heap.size (by show w.heap.size ≠ b; omega)).trans (blk_grown (blk_drew BR.out) hg5 hneR))
                have BXn := Aside0.mk (blk_put BXg.out 1 (.slice e5 (roots.length + 1) m5) rfl)
                have HTn := Aside0.mk (fg_set (Kd.R_reok (ok := fun q => some q ≠ (Value.slice e2 (ran.length + 1) m2).ownBlock) rfl ho5 hsep) BXg.out (by decide) 1 (.slice e5 (roots.length + 1) m5))
                have HNn := Aside0.mk (fg_set (Kd.R_mono (Kd.R_after (Kd.R_drew (Kd.R_mono HN.out (ok' := fun q => True ∧ some q ≠ (Value.slice e1 roots.length m1).ownBlock) (fun _ hk => ⟨trivial, hk⟩))) hg5 hat5) (ok' := fun q => some q ≠ (Value.slice e5 (roots.length + 1) m5).ownBlock) (fun _ hk => hk.2)) BXg.out (by decide) 1 (.slice e5 (roots.length + 1) m5))
                have HFn := Aside0.mk (fg_set (Kd.R_mono (Kd.R_grown (Kd.R_drew (Kd.R_apart' HF.out hty (by decide))) hg5 (fun k hk => hk.2)) (ok' := fun _ => True) (fun _ _ => trivial)) BXg.out (by decide) 1 (.slice e5 (roots.length + 1) m5))
                have HSn := Aside0.mk (fg_set (Kd.R_mono (Kd.R_grown (Kd.R_drew (Kd.R_apart' HOS.out hty (by decide))) hg5 (fun k hk => hk.2)) (ok' := fun _ => True) (fun _ _ => trivial)) BXg.out (by decide) 1 (.slice e5 (roots.length + 1) m5))
                clear HB BR BX HN HT HF HOS BXg y0_ yf0_ c1_ x1 ho5 hb5 hg5 hat5 hsep hty hne0 hneR hcells3 hbl hbn hgl hgn
                generalize w5'.setCell ⟨b, 1, none⟩ (.slice e5 (roots.length + 1) m5) = W6 at *
                go_upto_region 15 with (fail)
                go_roundg (l2.length - (i + 1))
                case measure => have := hq.out; omega
                case rel => exact ⟨i + 1, ran ++ [a], roots ++ [bb], _, e2, m2, e5, m5, by go_num, ⟨rfl⟩, ⟨by omega⟩, ⟨by rw [List.length_append, hout.out]; rfl⟩, ⟨hgo3⟩, ⟨by rw [hL]; have := hlen.out.1; omega, by rw [hL5]; have := hlen.out.2; omega⟩, HBn, BRn, ⟨by rw [hL, hL5]; exact BXn.out⟩, ⟨by rw [hL, hL5]; exact HNn.out⟩, ⟨by rw [hL, hL5]; exact HTn.out⟩, HFn, HSn⟩
            · have hgo3 := HGO2.out
              rw [if_neg hsv] at hgo3
              have hsv' : bb < 0 ∨ 12 ≤ roots.length := by omega
              go_upto_region 13 with (fail)
              all_goals
                go_roundg (l2.length - (i + 1))
                case measure => have := hq.out; omega
                case rel => exact ⟨i + 1, ran ++ [a], roots, _, e2, m2, e1, m1, by go_num, ⟨rfl⟩, ⟨by omega⟩, ⟨by rw [List.length_append, hout.out]; rfl⟩, ⟨hgo3⟩, ⟨by rw [hL]; have := hlen.out.1; omega, by have := hlen.out.2; omega⟩, HB, BR, ⟨by rw [hL]; exact BX.out⟩, ⟨by rw [hL]; exact HN.out⟩, ⟨by rw [hL]; exact HT.out⟩, HF, HOS⟩
    · have hltz : decide ((i : Int) < (l2.length : Int)) = false := decide_eq_false (by omega)
      have hil : i = l2.length := by have := hi.out; omega
      have hgo := HGO.out
      rw [hil, List.drop_length] at hgo
      unfold swGo at hgo
      simp only [Prod.mk.injEq] at hgo
      obtain ⟨rfl, rfl, rfl⟩ := hgo
      have hF := HF.out
      rw [hil, List.drop_length, List.append_nil] at hF
      have HF2 := Aside0.mk hF
      have hol : out.length = l2.length := by rw [hout.out]; exact hil
      clear HF hF HOS HGO
      have k1_ := (blk_cell BX.out 1).trans rfl
      obtain ⟨_, hle1, hcc1⟩ := Kd.R_reads' HT.out
      have HCC := Aside0.mk hcc1
      clear hcc1
      have hbl := blk_lt BX.out
      go_upto_region 16 with (first | (go_at_call 43; refine (impl_reached.calls k A0 c0 l0 e1 m1 roots s2 _ (Kd.C_below HR0.out HB.out) hc0 HCC.out hle1 HS2.out).mono ?_; rintro e w6 ⟨vS2, rfl, hoS, hb6⟩; obtain ⟨aS2, kS2, rfl⟩ := Kd.R_slice hoS; have HOS2 := Aside0.mk (Kd.R_reads' hoS); have HB6 := Aside0.mk hb6; clear hoS hb6) | (go_at_call 42; refine (impl_marked.calls k aS2 kS2 s2 false g1 _ HOS2.out.2.2 HOS2.out.2.1 HM.out).mono ?_; rintro e w7 ⟨v2, rfl, ho2, hb7⟩; obtain ⟨a2, k2, rfl⟩ := Kd.R_slice ho2; have HO2 := Aside0.mk ho2; have HB7 := Aside0.mk hb7; clear ho2 hb7; have BXb := Aside0.mk (blk_below (blk_below BX.out HB6.out) HB7.out); have BRb := Aside0.mk (blk_below (blk_below BR.out HB6.out) HB7.out); have y2_ := (blk_cell BXb.out 2).trans rfl; have yf2_ := blk_frozen BXb.out 2))
      have hs6 := HB6.out.size
      have hs7 := HB7.out.size
      have h20 : ∀ q, (Value.slice e0 ran.length m0).ownBlock = some q → q < wr.heap.size := fun q hq => Kd.R_lt HN.out q hq
      have h21 : ∀ q, (Value.slice e1 roots.length m1).ownBlock = some q → q < wr.heap.size := fun q hq => Kd.R_lt HT.out q hq
      have h22 : ∀ q, (Value.slice a2 g1.length k2).ownBlock = some q → w6.heap.size ≤ q := fun q hq => Kd.R_base HO2.out q hq
      have HNn := Aside0.mk (fg_set (Kd.R_reok (ok := fun q => some q ≠ (Value.slice e1 roots.length m1).ownBlock ∧ some q ≠ (Value.slice a2 g1.length k2).ownBlock) rfl (Kd.R_below (Kd.R_below HN.out HB6.out) HB7.out) (fun q hq => ⟨HN.out.1 q hq, fun e_ => by have := h20 q hq; have := h22 q e_.symm; omega⟩)) BXb.out (by decide) 2 (.slice a2 g1.length k2))
      have HTn := Aside0.mk (fg_set (Kd.R_reok (ok := fun q => some q ≠ (Value.slice e0 ran.length m0).ownBlock ∧ some q ≠ (Value.slice a2 g1.length k2).ownBlock) rfl (Kd.R_below (Kd.R_below HT.out HB6.out) HB7.out) (fun q hq => ⟨HT.out.1 q hq, fun e_ => by have := h21 q hq; have := h22 q e_.symm; omega⟩)) BXb.out (by decide) 2 (.slice a2 g1.length k2))
      have HGn := Aside0.mk (fg_set (Kd.R_reok (ok := fun q => some q ≠ (Value.slice e0 ran.length m0).ownBlock ∧ some q ≠ (Value.slice e1 roots.length m1).ownBlock) rfl (Kd.R_lower (base' := w.heap.size) HO2.out (by omega)) (fun q hq => ⟨fun e_ => by have := h20 q e_.symm; have := h22 q hq; omega, fun e_ => by have := h21 q e_.symm; have := h22 q hq; omega⟩)) BXb.out (by decide) 2 (.slice a2 g1.length k2))
      have HFn := Aside0.mk (fg_set (Kd.R_below (Kd.R_below HF2.out HB6.out) HB7.out) BXb.out (by decide) 2 (.slice a2 g1.length k2))
      have HBn := Aside0.mk ((below_step (below_step HB.out HB6.out) HB7.out).setCell (p := ⟨b, 2, none⟩) (by show w.heap.size ≤ b; omega) (.slice a2 g1.length k2))
      have BRn := Aside0.mk ((Below.heap_setCell w7 ⟨b, 2, none⟩ (.slice a2 g1.length k2) w.heap.size (by show w.heap.size ≠ b; omega)).trans BRb.out)
      have BXn := Aside0.mk (blk_put BXb.out 2 (.slice a2 g1.length k2) rfl)
      clear HB BR BX HN HT HF2 HCC HB6 HB7 HO2 BXb BRb y2_ yf2_ k1_ HOS2 h20 h21 h22 hs6 hs7 hbl
      generalize w7.setCell ⟨b, 2, none⟩ (.slice a2 g1.length k2) = W8 at *
      have c0_ := (blk_cell BXn.out 0).trans rfl
      have c1_ := (blk_cell BXn.out 1).trans rfl
      have c2_ := (blk_cell BXn.out 2).trans rfl
      have c3_ := (blk_cell BXn.out 3).trans rfl
      have r0_ := (blk_cell BRn.out 0).trans rfl
      have r1_ := (blk_cell BRn.out 1).trans rfl
      have r2_ := (blk_cell BRn.out 2).trans rfl
      have r3_ := (blk_cell BRn.out 3).trans rfl
      have f0_ := blk_frozen BRn.out 0
      have f1_ := blk_frozen BRn.out 1
      have f2_ := blk_frozen BRn.out 2
      have f3_ := blk_frozen BRn.out 3
      go_wp2
      have P0 := blk_put BRn.out 0 (.slice e0 ran.length m0) rfl
      have P1 := blk_put P0 1 (.slice e1 roots.length m1) rfl
      have P2 := blk_put P1 2 (.slice a2 g1.length k2) rfl
      have P3 := blk_put P2 3 (.slice a3 l2.length k3) rfl
      refine bodyPost_ret (results_cell_row rfl _ _ w.heap.size 32 #[.slice e0 ran.length m0, .slice e1 roots.length m1, .slice a2 g1.length k2, .slice a3 l2.length k3] (0, 0) _ rfl P3 Try.underlying32 rfl (by kernel_rfl)) rfl ?_
      refine ⟨_, _, _, _, rfl, ?_, ?_, ?_, ?_, (((HBn.out.setCell (Nat.le_refl _) _).setCell (Nat.le_refl _) _).setCell (Nat.le_refl _) _).setCell (Nat.le_refl _) _⟩
      · exact fg_set (fg_set (fg_set (fg_set HNn.out BRn.out (by decide) _ _) P0 (by decide) _ _) P1 (by decide) _ _) P2 (by decide) _ _
      · exact fg_set (fg_set (fg_set (fg_set HTn.out BRn.out (by decide) _ _) P0 (by decide) _ _) P1 (by decide) _ _) P2 (by decide) _ _
      · exact fg_set (fg_set (fg_set (fg_set HGn.out BRn.out (by decide) _ _) P0 (by decide) _ _) P1 (by decide) _ _) P2 (by decide) _ _
      · exact fg_set (fg_set (fg_set (fg_set HFn.out BRn.out (by decide) _ _) P0 (by decide) _ _) P1 (by decide) _ _) P2 (by decide) _ _
def impl_FinalSweep.f (k : Nat) (l0 : List (List Int)) (l1 : List Int) (l2 : List (S64)) : Option (List Int × List Int × List Int × List (S64)) :=
  (impl_GraphOk.f k l0 l1).bind fun t => (if t = true then ((impl_finalsOk.f l0 l2).bind fun u => (if u = true then (if l1.length ≤ 1000 then ((impl_reached.f k l0 l1).bind fun s => (if s.length = l0.length then ((impl_reached.f k l0 (swGo s l2 [] l1 []).2.1).bind fun s2 => ((impl_marked.f k s2 false).bind fun g => (some ((swGo s l2 [] l1 []).1, (swGo s l2 [] l1 []).2.1, g, (swGo s l2 [] l1 []).2.2)))) else none)) else none) else (some ([], [], [], [])))) else (some ([], [], [], [])))
theorem impl_FinalSweep.mono : ∀ a0 a1 a2 k, LeO (impl_FinalSweep.f k a0 a1 a2) (impl_FinalSweep.f (k + 1) a0 a1 a2) := fun a0 a1 a2 k => by
  unfold impl_FinalSweep.f
  refine LeO.bind (impl_GraphOk.mono _ _ _) (fun _ => LeO.ite (LeO.bind (LeO.refl _) (fun _ => LeO.ite (LeO.ite (LeO.bind (impl_reached.mono _ _ _) (fun _ => LeO.ite (LeO.bind (impl_reached.mono _ _ _) (fun _ => LeO.bind (impl_marked.mono _ _ _) (fun _ => LeO.refl _))) (LeO.refl _))) (LeO.refl _)) (LeO.refl _))) (LeO.refl _))
theorem impl_FinalSweep.calls (k : Nat) (A0 : Option Addr) (c0 : Nat) (l0 : List (List Int)) (A1 : Option Addr) (c1 : Nat) (l1 : List Int) (A2 : Option Addr) (c2 : Nat) (l2 : List (S64)) (r1 : List Int) (r2 : List Int) (r3 : List Int) (r4 : List (S64)) (w : World) (hr0 : Kd.C (Kd.slice 3 (Kd.int .i64)) w A0 l0.length l0) (hc0 : l0.length ≤ c0) (hr1 : Kd.C (Kd.int .i64) w A1 l1.length l1) (hc1 : l1.length ≤ c1) (hr2 : Kd.C k64 w A2 l2.length l2) (hc2 : l2.length ≤ c2) (h : impl_FinalSweep.f k l0 l1 l2 = some (r1, r2, r3, r4)) :
    Calls Try.prog 15 #[.slice A0 l0.length c0, .slice A1 l1.length c1, .slice A2 l2.length c2] w fun e w' => ∃ v0_ v1_ v2_ v3_ : Value, e = .returned (.agg #[v0_, v1_, v2_, v3_]) ∧ Kd.R (Kd.int .i64) 3 w' w.heap.size (fun k_ => some k_ ≠ (v1_ : Value).ownBlock ∧ some k_ ≠ (v2_ : Value).ownBlock) v0_ r1 ∧ Kd.R (Kd.int .i64) 3 w' w.heap.size (fun k_ => some k_ ≠ (v0_ : Value).ownBlock ∧ some k_ ≠ (v2_ : Value).ownBlock) v1_ r2 ∧ Kd.R (Kd.int .i64) 3 w' w.heap.size (fun k_ => some k_ ≠ (v0_ : Value).ownBlock ∧ some k_ ≠ (v1_ : Value).ownBlock) v2_ r3 ∧ Kd.R k64 64 w' w.heap.size (fun _ => True) v3_ r4 ∧ Below w.heap.size w w' := by
  unfold impl_FinalSweep.f at h
  obtain ⟨t, ht, h⟩ := Option.bind_eq_some_iff.mp h
  have none_ : ∀ (h : (some (([] : List Int), ([] : List Int), ([] : List Int), ([] : List (S64))) : Option _) = some (r1, r2, r3, r4)) (hb : impl_GraphOk.f k l0 l1 = some false ∨ (impl_GraphOk.f k l0 l1 = some true ∧ finOk (l0.length : Int) l2 = false)), Calls Try.prog 15 #[.slice A0 l0.length c0, .slice A1 l1.length c1, .slice A2 l2.length c2] w fun e w' => ∃ v0_ v1_ v2_ v3_ : Value, e = .returned (.agg #[v0_, v1_, v2_, v3_]) ∧ Kd.R (Kd.int .i64) 3 w' w.heap.size (fun k_ => some k_ ≠ (v1_ : Value).ownBlock ∧ some k_ ≠ (v2_ : Value).ownBlock) v0_ r1 ∧ Kd.R (Kd.int .i64) 3 w' w.heap.size (fun k_ => some k_ ≠ (v0_ : Value).ownBlock ∧ some k_ ≠ (v2_ : Value).ownBlock) v1_ r2 ∧ Kd.R (Kd.int .i64) 3 w' w.heap.size (fun k_ => some k_ ≠ (v0_ : Value).ownBlock ∧ some k_ ≠ (v1_ : Value).ownBlock) v2_ r3 ∧ Kd.R k64 64 w' w.heap.size (fun _ => True) v3_ r4 ∧ Below w.heap.size w w' := by
    intro h hb
    simp only [Option.some.injEq, Prod.mk.injEq] at h
    obtain ⟨rfl, rfl, rfl, rfl⟩ := h
    exact (fs_bad k A0 c0 l0 A1 c1 l1 A2 c2 l2 w hr0 hc0 hr1 hc1 hr2 hc2 hb).mono fun e w' ⟨he, hb⟩ => ⟨_, _, _, _, he, Kd.R_nil _ _ _ _ _, Kd.R_nil _ _ _ _ _, Kd.R_nil _ _ _ _ _, Kd.R_nil _ _ _ _ _, hb⟩
  cases t with
  | false => exact none_ h (.inl ht)
  | true =>
    simp only [if_true, impl_finalsOk.f, Option.bind_some] at h
    cases ho : finOk (l0.length : Int) l2 with
    | false =>
      rw [ho] at h
      exact none_ h (.inr ⟨ht, ho⟩)
    | true =>
      rw [ho] at h
      simp only [if_true] at h
      split at h
      · rename_i hn
        obtain ⟨s, hs, h⟩ := Option.bind_eq_some_iff.mp h
        split at h
        · rename_i hsl
          obtain ⟨s2, hs2, h⟩ := Option.bind_eq_some_iff.mp h
          obtain ⟨g, hg, h⟩ := Option.bind_eq_some_iff.mp h
          simp only [Option.some.injEq, Prod.mk.injEq] at h
          obtain ⟨rfl, rfl, rfl, rfl⟩ := h
          exact fs_walk k A0 c0 l0 A1 c1 l1 A2 c2 l2 s s2 _ _ g _ w hr0 hc0 hr1 hc1 hr2 hc2 hn ht ho hs hsl rfl hs2 hg
        · cases h
      · cases h

end Go.Proofs.Ytckninkpjdcfbaa.Q
