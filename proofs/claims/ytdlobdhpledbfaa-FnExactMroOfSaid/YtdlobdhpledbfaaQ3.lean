-- Printed by a program of this project's own, for this seat.
import Derived.Test.YtdlobdhpledbfaaQ0
import Derived.Test.YtdlobdhpledbfaaQ2
namespace Go.Proofs.Ytdlobdhpledbfaa.Q
open Go.RowKit Go.Proofs.YtdlobdhpledbfaaW.PrintWords Go.Proofs.YtdlobdhpledbfaaW.PrintLast Go.Proofs.YtdlobdhpledbfaaW.PrintMore
attribute [local go_sem] max2_int min2_int max_two min_two max_three min_three max_four min_four   -- for this text's walks alone
set_option linter.unusedVariables false
set_option linter.unusedSimpArgs false

/-! ### spec_orderOf: function 32 -/
mutual
def spec_orderOf.l0 : Nat → List (List Int) → Int → List (List Int) → Int → Option (List Int × Bool)
  | 0, _, _, _, _ => none
  | k + 1, x0, x1, x6, x7 => if 0 ≤ x1 then (if x1 < (x0.length : Int) then (if x7 < ((rd_L1 x0 x1).length : Int) then (if 0 ≤ x7 then ((spec_orderOf.f k x0 (rd (rd_L1 x0 x1) x7)).bind fun bt159 => (if bt159.2 = true then (if x6.length < 5864062014805 then (spec_orderOf.l0 k x0 x1 (x6 ++ [bt159.1]) (wrap64 (x7 + 1))) else (none)) else (some (([] : List Int), false)))) else (none)) else ((some (([] : List Int) : List Int)).bind fun y166 => (if y166.length + (rd_L1 x0 x1).length < 17592186044416 then (if x6.length < 5864062014805 then ((spec_mergeOrders.f k (x6 ++ [(y166 ++ (rd_L1 x0 x1))])).bind fun bt176 => (if bt176.2 = true then ((some (([x1] : List Int) : List Int)).bind fun y180 => (if y180.length + bt176.1.length < 17592186044416 then (some ((y180 ++ bt176.1), true)) else (none))) else (some (([] : List Int), false)))) else (none)) else (none)))) else (none)) else (none)
def spec_orderOf.f : Nat → List (List Int) → Int → Option (List Int × Bool)
  | 0, _, _ => none
  | k + 1, l0, a1 => spec_orderOf.l0 k l0 a1 (([] : List (List Int))) 0
end
theorem spec_orderOf.mono_l : ∀ k, (∀ y0 y1, LeO (spec_orderOf.f k y0 y1) (spec_orderOf.f (k + 1) y0 y1)) ∧ (∀ y0 y1 y2 y3, LeO (spec_orderOf.l0 k y0 y1 y2 y3) (spec_orderOf.l0 (k + 1) y0 y1 y2 y3))
  | 0 => ⟨fun _ _ r h => by simp [spec_orderOf.f] at h, fun _ _ _ _ r h => by simp [spec_orderOf.l0] at h⟩
  | k + 1 => by
    obtain ⟨ih0, ih1⟩ := spec_orderOf.mono_l k
    refine ⟨?_, ?_⟩
    · intro y0 y1
      unfold spec_orderOf.f
      repeat' first
      | (with_reducible exact ih0 _ _)
      | (with_reducible exact ih1 _ _ _ _)
      | (with_reducible exact spec_mergeOrders.mono _ _)
      | (with_reducible exact LeO.refl _)
      | (with_reducible exact LeO.none _)
      | (with_reducible refine LeO.ite ?_ ?_)
      | (with_reducible refine LeO.bind ?_ (fun _ => ?_))
      | exact ih0 _ _
      | exact ih1 _ _ _ _
      | exact spec_mergeOrders.mono _ _
      | exact LeO.none _
      | refine LeO.ite ?_ ?_
      | refine LeO.bind ?_ (fun _ => ?_)
    · intro y0 y1 y2 y3
      unfold spec_orderOf.l0
      repeat' first
      | (with_reducible exact ih0 _ _)
      | (with_reducible exact ih1 _ _ _ _)
      | (with_reducible exact spec_mergeOrders.mono _ _)
      | (with_reducible exact LeO.refl _)
      | (with_reducible exact LeO.none _)
      | (with_reducible refine LeO.ite ?_ ?_)
      | (with_reducible refine LeO.bind ?_ (fun _ => ?_))
      | exact ih0 _ _
      | exact ih1 _ _ _ _
      | exact spec_mergeOrders.mono _ _
      | exact LeO.none _
      | refine LeO.ite ?_ ?_
      | refine LeO.bind ?_ (fun _ => ?_)
theorem spec_orderOf.mono : ∀ a0 a1 k, LeO (spec_orderOf.f k a0 a1) (spec_orderOf.f (k + 1) a0 a1) := by
  intro a0 a1 k
  obtain ⟨ih0, ih1⟩ := spec_orderOf.mono_l k
  exact ih0 a0 a1
set_option maxHeartbeats 8000000 in
set_option maxRecDepth 100000 in
theorem spec_orderOf.calls (k : Nat) : ∀ (A0 : Option Addr) (c0 : Nat) (l0 : List (List Int)) (a1 : Int) (r1 : List Int) (r2 : Bool) (w : World) (hr0 : Kd.C (Kd.slice 3 (Kd.int .i64)) w A0 l0.length l0) (hc0 : l0.length ≤ c0) (h : spec_orderOf.f k l0 a1 = some (r1, r2)),
    Calls Try.prog 32 #[.slice A0 l0.length c0, .int .i64 a1] w fun e w' => ∃ v0_ : Value, e = .returned (.tuple #[v0_, .bool r2]) ∧ Kd.R (Kd.int .i64) 3 w' w.heap.size (fun _ => True) v0_ r1 ∧ Below w.heap.size w w' := by
  induction k using Nat.strongRecOn with
  | _ k ih =>
  intro A0 c0 l0 a1 r1 r2 w hr0 hc0 h
  cases k with
  | zero => exact absurd h (by simp [spec_orderOf.f])
  | succ k =>
  simp only [spec_orderOf.f] at h
  have HR0 := Aside0.mk hr0
  have HC0 := Aside0.mk hc0
  clear hr0 hc0
  have HB := Aside0.mk (Below.refl w.heap.size w)
  have H : (spec_orderOf.l0 k l0 a1 (([] : List (List Int))) 0) = some (r1, r2) := h
  clear h
  obtain ⟨y153, hy153⟩ : ∃ y_ : List (List Int), y_ = (([] : List (List Int))) := ⟨_, rfl⟩
  replace H : (spec_orderOf.l0 k l0 a1 y153 0) = some (r1, r2) := by first | (rw [hy153]; with_reducible exact H) | (have H2_ := (Option.bind_some _ _).symm.trans H; rw [hy153]; with_reducible exact H2_) | (have H2_ := (Option.bind_some _ _).symm.trans H; with_reducible exact H2_) | with_reducible exact H | (rw [hy153]; exact H) | exact H
  have Ny153 := Aside0.mk hy153
  clear hy153
  have H' := Aside0.mk H
  clear H
  go_enter Try.func32, Try.ntmps32
  go_wp2_with (first | ((with_reducible refine gate_dst (N := 12) rfl ?_); refine Kd.S_lit (Kd.slice 3 (Kd.int .i64)) _ 28 ?hg (N := 12) ?hd (xs := ([] : List (List Int))) (inner := []) (ok := fun _ => True) (okp := fun _ => True) ?hr ?hp (fun _ hk => hk) trivial (Below.refl _ _) (Nat.le_refl _) (by simp) ?_; (case hd => rfl); (case hg => rfl); (case hr => first | (go_simp; done) | (go_simp; rfl)); (case hp => exact (Reps.none _ _)); intro v154 w3 ho4 hb hg_ hnew_; clear hg_ hnew_; (first | rw [← Ny153.out] at ho4 | (simp only [Int.reduceToNat] at ho4; rw [← Ny153.out] at ho4)); have n0_ := Aside0.mk (Kd.S_lower ho4 (below_size (by repeat (first | (with_reducible first | exact HB.out | apply below_alloc | apply pw_below_drewN | apply below_drew1) | exact HB.out)))); have n1_ := Aside0.mk (below_step (by repeat (first | (with_reducible first | exact HB.out | apply below_alloc | apply pw_below_drewN | apply below_drew1) | exact HB.out)) hb); clear HB; have HO155 := n0_; have HB := n1_; clear n0_ n1_; clear hb ho4))
  go_loopg [6, 7] k (fun kq v6 v7 w' => ∃ (x6_1 : List (List Int)) (x7_1 : Int), v7 = .int .i64 x7_1 ∧ Aside0 (spec_orderOf.l0 kq l0 a1 x6_1 x7_1 = some (r1, r2)) ∧ Aside0 (kq ≤ k) ∧ Aside0 (Kd.S (Kd.slice 3 (Kd.int .i64)) 28 w' w.heap.size (fun _ => True) v6 x6_1) ∧ Aside0 (Below w.heap.size w w'))
  case atStart => exact ⟨(y153), (0), (by first | rfl | (simp; done) | (simp [*]; done)), H', ⟨Nat.le_refl _⟩, ⟨by (with_reducible repeat (first | apply Kd.S_alloc | apply Kd.S_drewN | apply Kd.S_drew)); exact HO155.out⟩, ⟨by repeat (first | (with_reducible first | exact HB.out | apply below_alloc | apply pw_below_drewN | apply below_drew1) | exact HB.out)⟩⟩
  case round =>
    clear H'
    try clear p2
    try clear c3
    obtain ⟨x6_1, x7_1, rfl, HA, HK1, HO_6, HB⟩ := hrel
    cases gk with
    | zero => exact absurd HA.out (by simp [spec_orderOf.l0])
    | succ k1 =>
      have H := HA.out
      clear HA
      simp only [spec_orderOf.l0] at H
      by_cases c5 : 0 ≤ a1
      · rw [if_pos c5] at H
        have c5b0 : decide (0 ≤ a1) = true := decide_eq_true c5
        clear c5
        by_cases c6 : a1 < (l0.length : Int)
        · rw [if_pos c6] at H
          have c6b0 : decide (a1 < (l0.length : Int)) = true := decide_eq_true c6
          clear c6
          by_cases c7 : x7_1 < ((rd_L1 l0 a1).length : Int)
          · rw [if_pos c7] at H
            have c7b0 : decide (x7_1 < ((rd_L1 l0 a1).length : Int)) = true := decide_eq_true c7
            clear c7
            by_cases c8 : 0 ≤ x7_1
            · rw [if_pos c8] at H
              have c8b0 : decide (0 ≤ x7_1) = true := decide_eq_true c8
              clear c8
              replace H := Option.bind_eq_some_iff.mp H
              obtain ⟨⟨t159, t160⟩, A90, H⟩ := H
              replace H : (if t160 = true then (if x6_1.length < 5864062014805 then (spec_orderOf.l0 k1 l0 a1 (x6_1 ++ [t159]) (wrap64 (x7_1 + 1))) else (none)) else (some (([] : List Int), false))) = some (r1, r2) := H
              have A9 := Aside0.mk A90
              clear A90
              by_cases c10 : t160 = true
              · subst c10
                have H1 : (if x6_1.length < 5864062014805 then (spec_orderOf.l0 k1 l0 a1 (x6_1 ++ [t159]) (wrap64 (x7_1 + 1))) else (none)) = some (r1, r2) := by rw [if_pos rfl] at H; exact H
                clear H
                have H := H1
                clear H1
                by_cases c11 : x6_1.length < 5864062014805
                · rw [if_pos c11] at H
                  have LMc11 := Aside0.mk c11
                  clear c11
                  obtain ⟨y163, hy163⟩ : ∃ y_ : List (List Int), y_ = (x6_1 ++ [t159]) := ⟨_, rfl⟩
                  replace H : (spec_orderOf.l0 k1 l0 a1 y163 (wrap64 (x7_1 + 1))) = some (r1, r2) := by first | (rw [hy163]; with_reducible exact H) | (have H2_ := (Option.bind_some _ _).symm.trans H; rw [hy163]; with_reducible exact H2_) | (have H2_ := (Option.bind_some _ _).symm.trans H; with_reducible exact H2_) | with_reducible exact H | (rw [hy163]; exact H) | exact H
                  have Ny163 := Aside0.mk hy163
                  clear hy163
                  have H' := Aside0.mk H
                  clear H
                  have p156 : 0 ≤ (a1 : Int) := of_decide_eq_true (by first | (with_reducible assumption) | assumption)
                  have q156 : a1 < (l0.length : Int) := of_decide_eq_true (by first | (with_reducible assumption) | assumption)
                  obtain ⟨ad156, A156_0, c156_0, e156, hx156_0, hl156_0, hi156_0⟩ := at_L1 HR0.out a1 p156 q156
                  cases e156
                  replace hx156_0 := (HB.out.cell (World.block_lt_of_cell? w _ hx156_0)).trans hx156_0
                  have HR156_0 := Aside0.mk hi156_0
                  have HC156_0 := Aside0.mk hl156_0
                  clear hi156_0 hl156_0
                  replace p156 := eq_true p156
                  replace q156 := eq_true q156
                  have p157 : 0 ≤ (a1 : Int) := of_decide_eq_true (by first | (with_reducible assumption) | assumption)
                  have q157 : a1 < (l0.length : Int) := of_decide_eq_true (by first | (with_reducible assumption) | assumption)
                  obtain ⟨ad157, A157_0, c157_0, e157, hx157_0, hl157_0, hi157_0⟩ := at_L1 HR0.out a1 p157 q157
                  obtain rfl : ad156 = ad157 := (by injection e157)
                  replace hx157_0 := (HB.out.cell (World.block_lt_of_cell? w _ hx157_0)).trans hx157_0
                  have HR157_0 := Aside0.mk hi157_0
                  have HC157_0 := Aside0.mk hl157_0
                  clear hi157_0 hl157_0
                  replace p157 := eq_true p157
                  replace q157 := eq_true q157
                  have ea_ := Option.some.inj (hx156_0.symm.trans hx157_0)
                  injection ea_ with ea_ en_ ec_
                  subst ea_
                  subst ec_
                  clear en_
                  have p158 : 0 ≤ (x7_1 : Int) := of_decide_eq_true (by first | (with_reducible assumption) | assumption)
                  have q158 : x7_1 < ((rd_L1 l0 a1).length : Int) := of_decide_eq_true (by first | (with_reducible assumption) | assumption)
                  obtain ⟨ad158, e158, hx158_0⟩ := Kd.at_int HR157_0.out x7_1 p158 q158
                  cases e158
                  replace hx158_0 := (HB.out.cell (World.block_lt_of_cell? w _ hx158_0)).trans hx158_0
                  replace p158 := eq_true p158
                  replace q158 := eq_true q158
                  go_wp2_with (first | ((with_reducible refine gate_callee (f := 32) rfl ?_); refine goesL_ (some 31) rfl rfl Try.func32 (by kernel_rfl) rfl #[.slice (some ad156) l0.length c0, .int .i64 (rd (rd_L1 l0 a1) x7_1)] rfl (by (try simp only [List.map_toArray, List.map_cons, List.map_nil]); first | done | rfl | (simp only [List.length_drop, List.length_take]; rfl)) ?_; (with_reducible refine (ih k1 (by have := HK1.out; omega) _ _ l0 (rd (rd_L1 l0 a1) x7_1) t159 true _ ?side1 ?side2 A9.out).mono ?_); (case side1 => repeat (first | exact (Kd.C_below HR0.out HB.out) | (with_reducible refine Kd.C_alloc ?_ _) | (with_reducible refine Kd.C_drewN ?_ _) | (with_reducible refine Kd.C_drew ?_))); (case side2 => exact HC0.out); rintro e w12 ⟨v161, rfl, ho0, hb⟩; refine ⟨_, rfl, ?_⟩; have n0_ := Aside0.mk (Kd.S_elder' (by (with_reducible repeat (first | apply Kd.S_alloc | apply Kd.S_drewN | apply Kd.S_drew)); exact HO_6.out) (Kd.R_base ho0) hb); have n1_ := Aside0.mk (Kd.R_lower ho0 (below_size (by repeat (first | (with_reducible first | exact HB.out | apply below_alloc | apply pw_below_drewN | apply below_drew1) | exact HB.out)))); have n2_ := Aside0.mk (below_step (by repeat (first | (with_reducible first | exact HB.out | apply below_alloc | apply pw_below_drewN | apply below_drew1) | exact HB.out)) hb); clear HO_6; clear HB; have HO_6 := n0_; have HO162 := n1_; have HB := n2_; clear n0_ n1_ n2_; (try clear hb); (try clear hb2); (try clear hk); (try clear hi); (try clear ho0); obtain ⟨Ao14, co14, eo14⟩ := Kd.R_slice HO162.out; subst eo14) | ((with_reducible refine gate_builtin (b := .append) (xs := #[.tmp 36, .tmp 38]) rfl ?_); at_builtin; refine Kd.S_append (Kd.slice 3 (Kd.int .i64)) (w0 := w) w.heap.size rfl (.tmp 36) (.tmp 38) 22 28 (.slice none 0 0) 24 rfl Try.underlying22 info28 rfl (by decide) (by omega) u6 x6_1 t159 [.slice Ao14 t159.length co14] (fun _ => True) (fun k_ => some k_ = (.slice Ao14 t159.length co14 : Value).ownBlock) rfl rfl ?aP (fun k_ hk_ => ((Kd.R_mono (ok' := fun k_ => ((fun _ => True)) k_ ∧ some k_ ≠ (u6 : Value).ownBlock) (Kd.R_apart' (HO162.out) (Kd.S_typed HO_6.out) (by decide)) (fun k_ hk => ⟨trivial, hk.2⟩))).1 k_ hk_.symm) ?aF ?aO ?aB ?aS ?aL ?_; (case aP => exact Kd.M_row (Kd.R_mono (Kd.R_tight rfl (Kd.R_mono (ok' := fun k_ => ((fun _ => True)) k_ ∧ some k_ ≠ (u6 : Value).ownBlock) (Kd.R_apart' (HO162.out) (Kd.S_typed HO_6.out) (by decide)) (fun k_ hk => ⟨trivial, hk.2⟩))) (fun _ h_ => h_))); (case aB => exact (by repeat (first | (with_reducible first | exact HB.out | apply below_alloc | apply pw_below_drewN | apply below_drew1) | exact HB.out))); (case aF => exact (fun _ _ => trivial)); (case aO => exact (by (with_reducible repeat (first | apply Kd.S_alloc | apply Kd.S_drewN | apply Kd.S_drew)); exact Kd.S_mono HO_6.out (fun k_ hk => ⟨trivial, fun e_ => hk.2 e_⟩))); (case aS => exact (below_size (by repeat (first | (with_reducible first | exact HB.out | apply below_alloc | apply pw_below_drewN | apply below_drew1) | exact HB.out)))); (case aL => have := LMc11.out; omega); intro v164 w13 ho hb hg hat; rw [← Ny163.out] at ho; have n0_ := Aside0.mk (hb); have n1_ := Aside0.mk (ho); clear HB; clear HO_6; clear HO162; have HB := n0_; have HO165 := n1_; clear n0_ n1_; clear ho hb hg hat))
                  go_roundg k1
                  case measure => have := HK1.out; omega
                  case rel => exact ⟨(y163), (wrap64 (x7_1 + 1)), (by first | rfl | (simp; done) | (simp [*]; done)), H', ⟨by have := HK1.out; omega⟩, ⟨by (with_reducible repeat (first | apply Kd.S_alloc | apply Kd.S_drewN | apply Kd.S_drew)); exact HO165.out⟩, ⟨by repeat (first | (with_reducible first | exact HB.out | apply below_alloc | apply pw_below_drewN | apply below_drew1) | exact HB.out)⟩⟩
                · rw [if_neg c11] at H
                  exact absurd H (by simp)
              · replace c10 := Bool.eq_false_iff.mpr c10
                subst c10
                have H1 : (some (([] : List Int), false)) = some (r1, r2) := by rw [if_neg (show ¬ (false = true) by decide)] at H; exact H
                clear H
                have H := H1
                clear H1
                simp only [Option.some.injEq, Prod.mk.injEq] at H
                obtain ⟨rfl, rfl⟩ := H
                have p156 : 0 ≤ (a1 : Int) := of_decide_eq_true (by first | (with_reducible assumption) | assumption)
                have q156 : a1 < (l0.length : Int) := of_decide_eq_true (by first | (with_reducible assumption) | assumption)
                obtain ⟨ad156, A156_0, c156_0, e156, hx156_0, hl156_0, hi156_0⟩ := at_L1 HR0.out a1 p156 q156
                cases e156
                replace hx156_0 := (HB.out.cell (World.block_lt_of_cell? w _ hx156_0)).trans hx156_0
                have HR156_0 := Aside0.mk hi156_0
                have HC156_0 := Aside0.mk hl156_0
                clear hi156_0 hl156_0
                replace p156 := eq_true p156
                replace q156 := eq_true q156
                have p157 : 0 ≤ (a1 : Int) := of_decide_eq_true (by first | (with_reducible assumption) | assumption)
                have q157 : a1 < (l0.length : Int) := of_decide_eq_true (by first | (with_reducible assumption) | assumption)
                obtain ⟨ad157, A157_0, c157_0, e157, hx157_0, hl157_0, hi157_0⟩ := at_L1 HR0.out a1 p157 q157
                obtain rfl : ad156 = ad157 := (by injection e157)
                replace hx157_0 := (HB.out.cell (World.block_lt_of_cell? w _ hx157_0)).trans hx157_0
                have HR157_0 := Aside0.mk hi157_0
                have HC157_0 := Aside0.mk hl157_0
                clear hi157_0 hl157_0
                replace p157 := eq_true p157
                replace q157 := eq_true q157
                have ea_ := Option.some.inj (hx156_0.symm.trans hx157_0)
                injection ea_ with ea_ en_ ec_
                subst ea_
                subst ec_
                clear en_
                have p158 : 0 ≤ (x7_1 : Int) := of_decide_eq_true (by first | (with_reducible assumption) | assumption)
                have q158 : x7_1 < ((rd_L1 l0 a1).length : Int) := of_decide_eq_true (by first | (with_reducible assumption) | assumption)
                obtain ⟨ad158, e158, hx158_0⟩ := Kd.at_int HR157_0.out x7_1 p158 q158
                cases e158
                replace hx158_0 := (HB.out.cell (World.block_lt_of_cell? w _ hx158_0)).trans hx158_0
                replace p158 := eq_true p158
                replace q158 := eq_true q158
                go_wp2_with (first | ((with_reducible refine gate_callee (f := 32) rfl ?_); refine goesL_ (some 31) rfl rfl Try.func32 (by kernel_rfl) rfl #[.slice (some ad156) l0.length c0, .int .i64 (rd (rd_L1 l0 a1) x7_1)] rfl (by (try simp only [List.map_toArray, List.map_cons, List.map_nil]); first | done | rfl | (simp only [List.length_drop, List.length_take]; rfl)) ?_; (with_reducible refine (ih k1 (by have := HK1.out; omega) _ _ l0 (rd (rd_L1 l0 a1) x7_1) t159 false _ ?side1 ?side2 A9.out).mono ?_); (case side1 => repeat (first | exact (Kd.C_below HR0.out HB.out) | (with_reducible refine Kd.C_alloc ?_ _) | (with_reducible refine Kd.C_drewN ?_ _) | (with_reducible refine Kd.C_drew ?_))); (case side2 => exact HC0.out); rintro e w15 ⟨v161, rfl, ho0, hb⟩; refine ⟨_, rfl, ?_⟩; have n0_ := Aside0.mk (Kd.S_elder' (by (with_reducible repeat (first | apply Kd.S_alloc | apply Kd.S_drewN | apply Kd.S_drew)); exact HO_6.out) (Kd.R_base ho0) hb); have n1_ := Aside0.mk (Kd.R_lower ho0 (below_size (by repeat (first | (with_reducible first | exact HB.out | apply below_alloc | apply pw_below_drewN | apply below_drew1) | exact HB.out)))); have n2_ := Aside0.mk (below_step (by repeat (first | (with_reducible first | exact HB.out | apply below_alloc | apply pw_below_drewN | apply below_drew1) | exact HB.out)) hb); clear HO_6; clear HB; have HO_6 := n0_; have HO162 := n1_; have HB := n2_; clear n0_ n1_ n2_; (try clear hb); (try clear hb2); (try clear hk); (try clear hi); (try clear ho0)))
                go_ret2
                exact ⟨_, by first | rfl | (simp [errW_none, errW_some] <;> rfl) | (simp [*, errW_none, errW_some] <;> rfl), by first | exact Kd.R_nil _ _ _ _ _ | exact Kd.N_nil _ _ _ _ _ | exact Kd.V_nil _ _ _ _ _ | exact Kd.Q_nil _ _ _ _ _ | exact Kd.S_nil _ _ _ _ _, by repeat (first | (with_reducible first | exact HB.out | apply below_alloc | apply pw_below_drewN | apply below_drew1) | exact HB.out)⟩
            · rw [if_neg c8] at H
              exact absurd H (by simp)
          · rw [if_neg c7] at H
            have c7b0 : decide (x7_1 < ((rd_L1 l0 a1).length : Int)) = false := decide_eq_false c7
            clear c7
            obtain ⟨y166, hy166⟩ : ∃ y_ : List Int, y_ = (([] : List Int)) := ⟨_, rfl⟩
            replace H : (if y166.length + (rd_L1 l0 a1).length < 17592186044416 then (if x6_1.length < 5864062014805 then ((spec_mergeOrders.f k1 (x6_1 ++ [(y166 ++ (rd_L1 l0 a1))])).bind fun bt176 => (if bt176.2 = true then ((some (([a1] : List Int) : List Int)).bind fun y180 => (if y180.length + bt176.1.length < 17592186044416 then (some ((y180 ++ bt176.1), true)) else (none))) else (some (([] : List Int), false)))) else (none)) else (none)) = some (r1, r2) := by first | (rw [hy166]; with_reducible exact H) | (have H2_ := (Option.bind_some _ _).symm.trans H; rw [hy166]; with_reducible exact H2_) | (have H2_ := (Option.bind_some _ _).symm.trans H; with_reducible exact H2_) | with_reducible exact H | (rw [hy166]; exact H) | exact H
            have Ny166 := Aside0.mk hy166
            clear hy166
            by_cases c16 : y166.length + (rd_L1 l0 a1).length < 17592186044416
            · rw [if_pos c16] at H
              have LMc16 := Aside0.mk c16
              clear c16
              obtain ⟨y170, hy170⟩ : ∃ y_ : List Int, y_ = (y166 ++ (rd_L1 l0 a1)) := ⟨_, rfl⟩
              replace H : (if x6_1.length < 5864062014805 then ((spec_mergeOrders.f k1 (x6_1 ++ [y170])).bind fun bt176 => (if bt176.2 = true then ((some (([a1] : List Int) : List Int)).bind fun y180 => (if y180.length + bt176.1.length < 17592186044416 then (some ((y180 ++ bt176.1), true)) else (none))) else (some (([] : List Int), false)))) else (none)) = some (r1, r2) := by first | (rw [hy170]; with_reducible exact H) | (have H2_ := (Option.bind_some _ _).symm.trans H; rw [hy170]; with_reducible exact H2_) | (have H2_ := (Option.bind_some _ _).symm.trans H; with_reducible exact H2_) | with_reducible exact H | (rw [hy170]; exact H) | exact H
              have Ny170 := Aside0.mk hy170
              clear hy170
              by_cases c17 : x6_1.length < 5864062014805
              · rw [if_pos c17] at H
                have LMc17 := Aside0.mk c17
                clear c17
                obtain ⟨y173, hy173⟩ : ∃ y_ : List (List Int), y_ = (x6_1 ++ [y170]) := ⟨_, rfl⟩
                replace H : ((spec_mergeOrders.f k1 y173).bind fun bt176 => (if bt176.2 = true then ((some (([a1] : List Int) : List Int)).bind fun y180 => (if y180.length + bt176.1.length < 17592186044416 then (some ((y180 ++ bt176.1), true)) else (none))) else (some (([] : List Int), false)))) = some (r1, r2) := by first | (rw [hy173]; with_reducible exact H) | (have H2_ := (Option.bind_some _ _).symm.trans H; rw [hy173]; with_reducible exact H2_) | (have H2_ := (Option.bind_some _ _).symm.trans H; with_reducible exact H2_) | with_reducible exact H | (rw [hy173]; exact H) | exact H
                have Ny173 := Aside0.mk hy173
                clear hy173
                replace H := Option.bind_eq_some_iff.mp H
                obtain ⟨⟨t176, t179⟩, A180, H⟩ := H
                replace H : (if t179 = true then ((some (([a1] : List Int) : List Int)).bind fun y180 => (if y180.length + t176.length < 17592186044416 then (some ((y180 ++ t176), true)) else (none))) else (some (([] : List Int), false))) = some (r1, r2) := H
                have A18 := Aside0.mk A180
                clear A180
                by_cases c19 : t179 = true
                · subst c19
                  have H1 : ((some (([a1] : List Int) : List Int)).bind fun y180 => (if y180.length + t176.length < 17592186044416 then (some ((y180 ++ t176), true)) else (none))) = some (r1, r2) := by rw [if_pos rfl] at H; exact H
                  clear H
                  have H := H1
                  clear H1
                  obtain ⟨y180, hy180⟩ : ∃ y_ : List Int, y_ = (([a1] : List Int)) := ⟨_, rfl⟩
                  replace H : (if y180.length + t176.length < 17592186044416 then (some ((y180 ++ t176), true)) else (none)) = some (r1, r2) := by first | (rw [hy180]; with_reducible exact H) | (have H2_ := (Option.bind_some _ _).symm.trans H; rw [hy180]; with_reducible exact H2_) | (have H2_ := (Option.bind_some _ _).symm.trans H; with_reducible exact H2_) | with_reducible exact H | (rw [hy180]; exact H) | exact H
                  have Ny180 := Aside0.mk hy180
                  clear hy180
                  by_cases c20 : y180.length + t176.length < 17592186044416
                  · rw [if_pos c20] at H
                    have LMc20 := Aside0.mk c20
                    clear c20
                    obtain ⟨y183, hy183⟩ : ∃ y_ : List Int, y_ = (y180 ++ t176) := ⟨_, rfl⟩
                    replace H : (some (y183, true)) = some (r1, r2) := by first | (rw [hy183]; with_reducible exact H) | (have H2_ := (Option.bind_some _ _).symm.trans H; rw [hy183]; with_reducible exact H2_) | (have H2_ := (Option.bind_some _ _).symm.trans H; with_reducible exact H2_) | with_reducible exact H | (rw [hy183]; exact H) | exact H
                    have Ny183 := Aside0.mk hy183
                    clear hy183
                    simp only [Option.some.injEq, Prod.mk.injEq] at H
                    obtain ⟨rfl, rfl⟩ := H
                    have p156 : 0 ≤ (a1 : Int) := of_decide_eq_true (by first | (with_reducible assumption) | assumption)
                    have q156 : a1 < (l0.length : Int) := of_decide_eq_true (by first | (with_reducible assumption) | assumption)
                    obtain ⟨ad156, A156_0, c156_0, e156, hx156_0, hl156_0, hi156_0⟩ := at_L1 HR0.out a1 p156 q156
                    cases e156
                    replace hx156_0 := (HB.out.cell (World.block_lt_of_cell? w _ hx156_0)).trans hx156_0
                    have HR156_0 := Aside0.mk hi156_0
                    have HC156_0 := Aside0.mk hl156_0
                    clear hi156_0 hl156_0
                    replace p156 := eq_true p156
                    replace q156 := eq_true q156
                    go_wp2_with (first | ((with_reducible refine gate_dst (N := 42) rfl ?_); refine Kd.R_lit (Kd.int .i64) _ 3 ?hg (N := 42) ?hd (xs := ([] : List Int)) (inner := []) (ok := fun _ => True) (okp := fun _ => True) ?hr ?hp (fun _ hk => hk) trivial (Below.refl _ _) (Nat.le_refl _) (by simp) ?_; (case hd => rfl); (case hg => rfl); (case hr => first | (go_simp; done) | (go_simp; rfl)); (case hp => exact (Reps.none _ _)); intro v167 w21 ho22 hb hg_ hnew_; clear hg_ hnew_; (first | rw [← Ny166.out] at ho22 | (simp only [Int.reduceToNat] at ho22; rw [← Ny166.out] at ho22)); have n0_ := Aside0.mk (Kd.S_elder' (by (with_reducible repeat (first | apply Kd.S_alloc | apply Kd.S_drewN | apply Kd.S_drew)); exact HO_6.out) (Kd.R_base ho22) hb); have n1_ := Aside0.mk (Kd.R_lower ho22 (below_size (by repeat (first | (with_reducible first | exact HB.out | apply below_alloc | apply pw_below_drewN | apply below_drew1) | exact HB.out)))); have n2_ := Aside0.mk (below_step (by repeat (first | (with_reducible first | exact HB.out | apply below_alloc | apply pw_below_drewN | apply below_drew1) | exact HB.out)) hb); clear HO_6; clear HB; have HO_6 := n0_; have HO168 := n1_; have HB := n2_; clear n0_ n1_ n2_; clear hb ho22; have p169 : 0 ≤ (a1 : Int) := of_decide_eq_true (by first | (with_reducible assumption) | assumption); have q169 : a1 < (l0.length : Int) := of_decide_eq_true (by first | (with_reducible assumption) | assumption); obtain ⟨ad169, A169_0, c169_0, e169, hx169_0, hl169_0, hi169_0⟩ := at_L1 HR0.out a1 p169 q169; obtain rfl : ad156 = ad169 := (by injection e169); replace hx169_0 := (HB.out.cell (World.block_lt_of_cell? w _ hx169_0)).trans hx169_0; have HR169_0 := Aside0.mk hi169_0; have HC169_0 := Aside0.mk hl169_0; clear hi169_0 hl169_0; replace p169 := eq_true p169; replace q169 := eq_true q169) | ((with_reducible refine gate_builtin (b := .append) (xs := #[.tmp 42, .tmp 46]) rfl ?_); at_builtin; refine Kd.R_append_rows (Kd.int .i64) (w0 := w) w.heap.size rfl (.tmp 42) (.tmp 46) 28 3 (.int .i64 0) 8 rfl Try.underlying28 info3 rfl (by decide) (by omega) v167 y166 (rd_L1 l0 a1) _ _ _ (fun _ => True) (fun _ => False) rfl rfl ?aO ?aR (fun _ _ h => h) (fun _ h => h.elim) ?aF ?aB ?aS ?aL ?_; (case aR => repeat (first | exact (Kd.C_below HR169_0.out HB.out) | (with_reducible refine Kd.C_alloc ?_ _) | (with_reducible refine Kd.C_drewN ?_ _) | (with_reducible refine Kd.C_drew ?_))); (case aB => exact (by repeat (first | (with_reducible first | exact HB.out | apply below_alloc | apply pw_below_drewN | apply below_drew1) | exact HB.out))); (case aF => exact (fun _ _ => trivial)); (case aO => exact (by (with_reducible repeat (first | apply Kd.R_alloc | apply Kd.R_drewN | apply Kd.R_drew)); exact HO168.out)); (case aS => exact (below_size (by repeat (first | (with_reducible first | exact HB.out | apply below_alloc | apply pw_below_drewN | apply below_drew1) | exact HB.out)))); (case aL => have := LMc16.out; omega); intro v171 w23 ho hb hg hat; rw [← Ny170.out] at ho; have n0_ := Aside0.mk (Kd.S_after (ok := (fun _ => True)) (by (with_reducible repeat (first | apply Kd.S_alloc | apply Kd.S_drewN | apply Kd.S_drew)); exact HO_6.out) hg hat); have n1_ := Aside0.mk (hb); have n2_ := Aside0.mk (ho); clear HO_6; clear HB; clear HO168; have HO_6 := n0_; have HB := n1_; have HO172 := n2_; clear n0_ n1_ n2_; clear ho hb hg hat; obtain ⟨Ao25, co25, eo25⟩ := Kd.R_slice HO172.out; subst eo25) | ((with_reducible refine gate_builtin (b := .append) (xs := #[.tmp 41, .tmp 48]) rfl ?_); at_builtin; refine Kd.S_append (Kd.slice 3 (Kd.int .i64)) (w0 := w) w.heap.size rfl (.tmp 41) (.tmp 48) 22 28 (.slice none 0 0) 24 rfl Try.underlying22 info28 rfl (by decide) (by omega) u6 x6_1 y170 [.slice Ao25 y170.length co25] (fun _ => True) (fun k_ => some k_ = (.slice Ao25 y170.length co25 : Value).ownBlock) rfl rfl ?aP (fun k_ hk_ => ((Kd.R_mono (ok' := fun k_ => ((fun _ => True)) k_ ∧ some k_ ≠ (u6 : Value).ownBlock) (Kd.R_apart' (HO172.out) (Kd.S_typed HO_6.out) (by decide)) (fun k_ hk => ⟨trivial, hk.2⟩))).1 k_ hk_.symm) ?aF ?aO ?aB ?aS ?aL ?_; (case aP => exact Kd.M_row (Kd.R_mono (Kd.R_tight rfl (Kd.R_mono (ok' := fun k_ => ((fun _ => True)) k_ ∧ some k_ ≠ (u6 : Value).ownBlock) (Kd.R_apart' (HO172.out) (Kd.S_typed HO_6.out) (by decide)) (fun k_ hk => ⟨trivial, hk.2⟩))) (fun _ h_ => h_))); (case aB => exact (by repeat (first | (with_reducible first | exact HB.out | apply below_alloc | apply pw_below_drewN | apply below_drew1) | exact HB.out))); (case aF => exact (fun _ _ => trivial)); (case aO => exact (by (with_reducible repeat (first | apply Kd.S_alloc | apply Kd.S_drewN | apply Kd.S_drew)); exact Kd.S_mono HO_6.out (fun k_ hk => ⟨trivial, fun e_ => hk.2 e_⟩))); (case aS => exact (below_size (by repeat (first | (with_reducible first | exact HB.out | apply below_alloc | apply pw_below_drewN | apply below_drew1) | exact HB.out)))); (case aL => have := LMc17.out; omega); intro v174 w24 ho hb hg hat; rw [← Ny173.out] at ho; have n0_ := Aside0.mk (hb); have n1_ := Aside0.mk (ho); clear HB; clear HO_6; clear HO172; have HB := n0_; have HO175 := n1_; clear n0_ n1_; clear ho hb hg hat; obtain ⟨Ao26, co26, eo26⟩ := Kd.S_slice HO175.out; subst eo26) | ((with_reducible refine gate_callee (f := 44) rfl ?_); refine goesL_ (some 50) rfl rfl Try.func44 (by kernel_rfl) rfl #[.slice Ao26 y173.length co26] rfl (by (try simp only [List.map_toArray, List.map_cons, List.map_nil]); first | done | rfl | (simp only [List.length_drop, List.length_take]; rfl)) ?_; (with_reducible refine (spec_mergeOrders.calls k1 (fun k_ => True) _ _ y173 t176 true _ ?side1 A18.out).mono ?_); (case side1 => exact Kd.S_V (HO175.out)); rintro e w27 ⟨v177, rfl, ho0, hb⟩; refine ⟨_, rfl, ?_⟩; have n0_ := Aside0.mk (Kd.S_elder' (by (with_reducible repeat (first | apply Kd.S_alloc | apply Kd.S_drewN | apply Kd.S_drew)); exact HO175.out) (Kd.R_base ho0) hb); have n1_ := Aside0.mk (Kd.R_lower (Kd.R_mono (ok' := fun k_ => True) ho0 (fun _ hk_ => trivial)) (below_size (by repeat (first | (with_reducible first | exact HB.out | apply below_alloc | apply pw_below_drewN | apply below_drew1) | exact HB.out)))); have n2_ := Aside0.mk (below_step (by repeat (first | (with_reducible first | exact HB.out | apply below_alloc | apply pw_below_drewN | apply below_drew1) | exact HB.out)) hb); clear HO175; clear HB; have HO175 := n0_; have HO178 := n1_; have HB := n2_; clear n0_ n1_ n2_; (try clear hb); (try clear hb2); (try clear hk); (try clear hi); (try clear ho0)) | ((with_reducible refine gate_dst (N := 56) rfl ?_); refine Kd.R_lit (Kd.int .i64) _ 3 ?hg (N := 56) ?hd (xs := ([a1] : List Int)) (inner := [.int .i64 a1]) (ok := fun _ => True) (okp := fun _ => True) ?hr ?hp (fun _ hk => hk) trivial (Below.refl _ _) (Nat.le_refl _) (by simp) ?_; (case hd => rfl); (case hg => rfl); (case hr => first | (go_simp; done) | (go_simp; rfl)); (case hp => exact (Reps.one (show Kd.M (Kd.int .i64) _ _ _ a1 [.int .i64 a1] from rfl) (Reps.none _ _))); intro v181 w28 ho29 hb hg_ hnew_; clear hg_ hnew_; (first | rw [← Ny180.out] at ho29 | (simp only [Int.reduceToNat] at ho29; rw [← Ny180.out] at ho29)); have n0_ := Aside0.mk (Kd.S_elder' (by (with_reducible repeat (first | apply Kd.S_alloc | apply Kd.S_drewN | apply Kd.S_drew)); exact HO175.out) (Kd.R_base ho29) hb); have n1_ := Aside0.mk (Kd.R_elder' (by (with_reducible repeat (first | apply Kd.R_alloc | apply Kd.R_drewN | apply Kd.R_drew)); exact HO178.out) (Kd.R_base ho29) hb); have n2_ := Aside0.mk (Kd.R_lower (Kd.R_new' ho29 (Kd.R_lt (by (with_reducible repeat (first | apply Kd.R_alloc | apply Kd.R_drewN | apply Kd.R_drew)); exact HO178.out))) (below_size (by repeat (first | (with_reducible first | exact HB.out | apply below_alloc | apply pw_below_drewN | apply below_drew1) | exact HB.out)))); have n3_ := Aside0.mk (below_step (by repeat (first | (with_reducible first | exact HB.out | apply below_alloc | apply pw_below_drewN | apply below_drew1) | exact HB.out)) hb); clear HO175; clear HO178; clear HB; have HO175 := n0_; have HO178 := n1_; have HO182 := n2_; have HB := n3_; clear n0_ n1_ n2_ n3_; clear hb ho29; obtain ⟨Ao31, co31, eo31⟩ := Kd.R_slice HO178.out; subst eo31) | ((with_reducible refine gate_builtin (b := .append) (xs := #[.tmp 56, .tmp 57]) rfl ?_); at_builtin; refine Kd.R_append_rows (Kd.int .i64) (w0 := w) w.heap.size rfl (.tmp 56) (.tmp 57) 28 3 (.int .i64 0) 8 rfl Try.underlying28 info3 rfl (by decide) (by omega) v181 y180 t176 _ _ _ (fun k_ => some k_ ≠ (.slice Ao31 t176.length co31 : Value).ownBlock) (fun _ => False) rfl rfl ?aO ?aR (fun _ _ h => h) (fun _ h => h.elim) ?aF ?aB ?aS ?aL ?_; (case aR => repeat (first | exact (Kd.R_reads' HO178.out).2.2 | (with_reducible refine Kd.C_alloc ?_ _) | (with_reducible refine Kd.C_drewN ?_ _) | (with_reducible refine Kd.C_drew ?_))); (case aB => exact (by repeat (first | (with_reducible first | exact HB.out | apply below_alloc | apply pw_below_drewN | apply below_drew1) | exact HB.out))); (case aF => exact (fun k_ hk => Kd.fresh' (Kd.R_lt (by (with_reducible repeat (first | apply Kd.R_alloc | apply Kd.R_drewN | apply Kd.R_drew)); exact HO178.out)) k_ hk)); (case aO => exact (by (with_reducible repeat (first | apply Kd.R_alloc | apply Kd.R_drewN | apply Kd.R_drew)); exact Kd.R_mono HO182.out (fun _ hk => hk.2))); (case aS => exact (below_size (by repeat (first | (with_reducible first | exact HB.out | apply below_alloc | apply pw_below_drewN | apply below_drew1) | exact HB.out)))); (case aL => have := LMc20.out; omega); intro v184 w30 ho hb hg hat; rw [← Ny183.out] at ho; have n0_ := Aside0.mk (Kd.S_after (ok := (fun k_ => some k_ ≠ (.slice Ao31 t176.length co31 : Value).ownBlock)) (by (with_reducible repeat (first | apply Kd.S_alloc | apply Kd.S_drewN | apply Kd.S_drew)); exact Kd.S_mono HO175.out (fun _ hk => ⟨hk.1.2, hk.2⟩)) hg hat); have n1_ := Aside0.mk (Kd.R_after (ok := (fun _ => True)) (by (with_reducible repeat (first | apply Kd.R_alloc | apply Kd.R_drewN | apply Kd.R_drew)); exact HO178.out) hg hat); have n2_ := Aside0.mk (hb); have n3_ := Aside0.mk (ho); clear HO175; clear HO178; clear HB; clear HO182; have HO175 := n0_; have HO178 := n1_; have HB := n2_; have HO185 := n3_; clear n0_ n1_ n2_ n3_; clear ho hb hg hat))
                    go_ret2
                    exact ⟨_, by first | rfl | (simp [errW_none, errW_some] <;> rfl) | (simp [*, errW_none, errW_some] <;> rfl), by (with_reducible repeat (first | apply Kd.R_alloc | apply Kd.R_drewN | apply Kd.R_drew)); exact Kd.R_mono HO185.out (fun _ hk => trivial), by repeat (first | (with_reducible first | exact HB.out | apply below_alloc | apply pw_below_drewN | apply below_drew1) | exact HB.out)⟩
                  · rw [if_neg c20] at H
                    exact absurd H (by simp)
                · replace c19 := Bool.eq_false_iff.mpr c19
                  subst c19
                  have H1 : (some (([] : List Int), false)) = some (r1, r2) := by rw [if_neg (show ¬ (false = true) by decide)] at H; exact H
                  clear H
                  have H := H1
                  clear H1
                  simp only [Option.some.injEq, Prod.mk.injEq] at H
                  obtain ⟨rfl, rfl⟩ := H
                  have p156 : 0 ≤ (a1 : Int) := of_decide_eq_true (by first | (with_reducible assumption) | assumption)
                  have q156 : a1 < (l0.length : Int) := of_decide_eq_true (by first | (with_reducible assumption) | assumption)
                  obtain ⟨ad156, A156_0, c156_0, e156, hx156_0, hl156_0, hi156_0⟩ := at_L1 HR0.out a1 p156 q156
                  cases e156
                  replace hx156_0 := (HB.out.cell (World.block_lt_of_cell? w _ hx156_0)).trans hx156_0
                  have HR156_0 := Aside0.mk hi156_0
                  have HC156_0 := Aside0.mk hl156_0
                  clear hi156_0 hl156_0
                  replace p156 := eq_true p156
                  replace q156 := eq_true q156
                  go_wp2_with (first | ((with_reducible refine gate_dst (N := 42) rfl ?_); refine Kd.R_lit (Kd.int .i64) _ 3 ?hg (N := 42) ?hd (xs := ([] : List Int)) (inner := []) (ok := fun _ => True) (okp := fun _ => True) ?hr ?hp (fun _ hk => hk) trivial (Below.refl _ _) (Nat.le_refl _) (by simp) ?_; (case hd => rfl); (case hg => rfl); (case hr => first | (go_simp; done) | (go_simp; rfl)); (case hp => exact (Reps.none _ _)); intro v167 w32 ho33 hb hg_ hnew_; clear hg_ hnew_; (first | rw [← Ny166.out] at ho33 | (simp only [Int.reduceToNat] at ho33; rw [← Ny166.out] at ho33)); have n0_ := Aside0.mk (Kd.S_elder' (by (with_reducible repeat (first | apply Kd.S_alloc | apply Kd.S_drewN | apply Kd.S_drew)); exact HO_6.out) (Kd.R_base ho33) hb); have n1_ := Aside0.mk (Kd.R_lower ho33 (below_size (by repeat (first | (with_reducible first | exact HB.out | apply below_alloc | apply pw_below_drewN | apply below_drew1) | exact HB.out)))); have n2_ := Aside0.mk (below_step (by repeat (first | (with_reducible first | exact HB.out | apply below_alloc | apply pw_below_drewN | apply below_drew1) | exact HB.out)) hb); clear HO_6; clear HB; have HO_6 := n0_; have HO168 := n1_; have HB := n2_; clear n0_ n1_ n2_; clear hb ho33; have p169 : 0 ≤ (a1 : Int) := of_decide_eq_true (by first | (with_reducible assumption) | assumption); have q169 : a1 < (l0.length : Int) := of_decide_eq_true (by first | (with_reducible assumption) | assumption); obtain ⟨ad169, A169_0, c169_0, e169, hx169_0, hl169_0, hi169_0⟩ := at_L1 HR0.out a1 p169 q169; obtain rfl : ad156 = ad169 := (by injection e169); replace hx169_0 := (HB.out.cell (World.block_lt_of_cell? w _ hx169_0)).trans hx169_0; have HR169_0 := Aside0.mk hi169_0; have HC169_0 := Aside0.mk hl169_0; clear hi169_0 hl169_0; replace p169 := eq_true p169; replace q169 := eq_true q169) | ((with_reducible refine gate_builtin (b := .append) (xs := #[.tmp 42, .tmp 46]) rfl ?_); at_builtin; refine Kd.R_append_rows (Kd.int .i64) (w0 := w) w.heap.size rfl (.tmp 42) (.tmp 46) 28 3 (.int .i64 0) 8 rfl Try.underlying28 info3 rfl (by decide) (by omega) v167 y166 (rd_L1 l0 a1) _ _ _ (fun _ => True) (fun _ => False) rfl rfl ?aO ?aR (fun _ _ h => h) (fun _ h => h.elim) ?aF ?aB ?aS ?aL ?_; (case aR => repeat (first | exact (Kd.C_below HR169_0.out HB.out) | (with_reducible refine Kd.C_alloc ?_ _) | (with_reducible refine Kd.C_drewN ?_ _) | (with_reducible refine Kd.C_drew ?_))); (case aB => exact (by repeat (first | (with_reducible first | exact HB.out | apply below_alloc | apply pw_below_drewN | apply below_drew1) | exact HB.out))); (case aF => exact (fun _ _ => trivial)); (case aO => exact (by (with_reducible repeat (first | apply Kd.R_alloc | apply Kd.R_drewN | apply Kd.R_drew)); exact HO168.out)); (case aS => exact (below_size (by repeat (first | (with_reducible first | exact HB.out | apply below_alloc | apply pw_below_drewN | apply below_drew1) | exact HB.out)))); (case aL => have := LMc16.out; omega); intro v171 w34 ho hb hg hat; rw [← Ny170.out] at ho; have n0_ := Aside0.mk (Kd.S_after (ok := (fun _ => True)) (by (with_reducible repeat (first | apply Kd.S_alloc | apply Kd.S_drewN | apply Kd.S_drew)); exact HO_6.out) hg hat); have n1_ := Aside0.mk (hb); have n2_ := Aside0.mk (ho); clear HO_6; clear HB; clear HO168; have HO_6 := n0_; have HB := n1_; have HO172 := n2_; clear n0_ n1_ n2_; clear ho hb hg hat; obtain ⟨Ao36, co36, eo36⟩ := Kd.R_slice HO172.out; subst eo36) | ((with_reducible refine gate_builtin (b := .append) (xs := #[.tmp 41, .tmp 48]) rfl ?_); at_builtin; refine Kd.S_append (Kd.slice 3 (Kd.int .i64)) (w0 := w) w.heap.size rfl (.tmp 41) (.tmp 48) 22 28 (.slice none 0 0) 24 rfl Try.underlying22 info28 rfl (by decide) (by omega) u6 x6_1 y170 [.slice Ao36 y170.length co36] (fun _ => True) (fun k_ => some k_ = (.slice Ao36 y170.length co36 : Value).ownBlock) rfl rfl ?aP (fun k_ hk_ => ((Kd.R_mono (ok' := fun k_ => ((fun _ => True)) k_ ∧ some k_ ≠ (u6 : Value).ownBlock) (Kd.R_apart' (HO172.out) (Kd.S_typed HO_6.out) (by decide)) (fun k_ hk => ⟨trivial, hk.2⟩))).1 k_ hk_.symm) ?aF ?aO ?aB ?aS ?aL ?_; (case aP => exact Kd.M_row (Kd.R_mono (Kd.R_tight rfl (Kd.R_mono (ok' := fun k_ => ((fun _ => True)) k_ ∧ some k_ ≠ (u6 : Value).ownBlock) (Kd.R_apart' (HO172.out) (Kd.S_typed HO_6.out) (by decide)) (fun k_ hk => ⟨trivial, hk.2⟩))) (fun _ h_ => h_))); (case aB => exact (by repeat (first | (with_reducible first | exact HB.out | apply below_alloc | apply pw_below_drewN | apply below_drew1) | exact HB.out))); (case aF => exact (fun _ _ => trivial)); (case aO => exact (by (with_reducible repeat (first | apply Kd.S_alloc | apply Kd.S_drewN | apply Kd.S_drew)); exact Kd.S_mono HO_6.out (fun k_ hk => ⟨trivial, fun e_ => hk.2 e_⟩))); (case aS => exact (below_size (by repeat (first | (with_reducible first | exact HB.out | apply below_alloc | apply pw_below_drewN | apply below_drew1) | exact HB.out)))); (case aL => have := LMc17.out; omega); intro v174 w35 ho hb hg hat; rw [← Ny173.out] at ho; have n0_ := Aside0.mk (hb); have n1_ := Aside0.mk (ho); clear HB; clear HO_6; clear HO172; have HB := n0_; have HO175 := n1_; clear n0_ n1_; clear ho hb hg hat; obtain ⟨Ao37, co37, eo37⟩ := Kd.S_slice HO175.out; subst eo37) | ((with_reducible refine gate_callee (f := 44) rfl ?_); refine goesL_ (some 50) rfl rfl Try.func44 (by kernel_rfl) rfl #[.slice Ao37 y173.length co37] rfl (by (try simp only [List.map_toArray, List.map_cons, List.map_nil]); first | done | rfl | (simp only [List.length_drop, List.length_take]; rfl)) ?_; (with_reducible refine (spec_mergeOrders.calls k1 (fun k_ => True) _ _ y173 t176 false _ ?side1 A18.out).mono ?_); (case side1 => exact Kd.S_V (HO175.out)); rintro e w38 ⟨v177, rfl, ho0, hb⟩; refine ⟨_, rfl, ?_⟩; have n0_ := Aside0.mk (Kd.S_elder' (by (with_reducible repeat (first | apply Kd.S_alloc | apply Kd.S_drewN | apply Kd.S_drew)); exact HO175.out) (Kd.R_base ho0) hb); have n1_ := Aside0.mk (Kd.R_lower (Kd.R_mono (ok' := fun k_ => True) ho0 (fun _ hk_ => trivial)) (below_size (by repeat (first | (with_reducible first | exact HB.out | apply below_alloc | apply pw_below_drewN | apply below_drew1) | exact HB.out)))); have n2_ := Aside0.mk (below_step (by repeat (first | (with_reducible first | exact HB.out | apply below_alloc | apply pw_below_drewN | apply below_drew1) | exact HB.out)) hb); clear HO175; clear HB; have HO175 := n0_; have HO178 := n1_; have HB := n2_; clear n0_ n1_ n2_; (try clear hb); (try clear hb2); (try clear hk); (try clear hi); (try clear ho0)))
                  go_ret2
                  exact ⟨_, by first | rfl | (simp [errW_none, errW_some] <;> rfl) | (simp [*, errW_none, errW_some] <;> rfl), by first | exact Kd.R_nil _ _ _ _ _ | exact Kd.N_nil _ _ _ _ _ | exact Kd.V_nil _ _ _ _ _ | exact Kd.Q_nil _ _ _ _ _ | exact Kd.S_nil _ _ _ _ _, by repeat (first | (with_reducible first | exact HB.out | apply below_alloc | apply pw_below_drewN | apply below_drew1) | exact HB.out)⟩
              · rw [if_neg c17] at H
                exact absurd H (by simp)
            · rw [if_neg c16] at H
              exact absurd H (by simp)
        · rw [if_neg c6] at H
          exact absurd H (by simp)
      · rw [if_neg c5] at H
        exact absurd H (by simp)

/-! ### slices_Index_int_int: function 47 -/
def slices_Index_int_int.l0 : Nat → List Int → Int → Int → Int → Option (Int)
  | 0, _, _, _, _ => none
  | k + 1, x0, x1, x7, x8 => if x8 < x7 then (if 0 ≤ x8 then (if x8 < (x0.length : Int) then (if x1 = (rd x0 x8) then (some x8) else (slices_Index_int_int.l0 k x0 x1 x7 (wrap64 (x8 + 1)))) else (none)) else (none)) else (some (-1))
def slices_Index_int_int.f (k : Nat) (l0 : List Int) (a1 : Int) : Option (Int) := slices_Index_int_int.l0 k l0 a1 (l0.length : Int) 0
theorem slices_Index_int_int.mono_l : ∀ k, (∀ y0 y1 y2 y3, LeO (slices_Index_int_int.l0 k y0 y1 y2 y3) (slices_Index_int_int.l0 (k + 1) y0 y1 y2 y3))
  | 0 => fun _ _ _ _ r h => by simp [slices_Index_int_int.l0] at h
  | k + 1 => by
    have ih0 := slices_Index_int_int.mono_l k
    · intro y0 y1 y2 y3
      unfold slices_Index_int_int.l0
      repeat' first
      | (with_reducible exact ih0 _ _ _ _)
      | (with_reducible exact LeO.refl _)
      | (with_reducible exact LeO.none _)
      | (with_reducible refine LeO.ite ?_ ?_)
      | (with_reducible refine LeO.bind ?_ (fun _ => ?_))
      | exact ih0 _ _ _ _
      | exact LeO.none _
      | refine LeO.ite ?_ ?_
      | refine LeO.bind ?_ (fun _ => ?_)
theorem slices_Index_int_int.mono : ∀ a0 a1 k, LeO (slices_Index_int_int.f k a0 a1) (slices_Index_int_int.f (k + 1) a0 a1) := by
  intro a0 a1 k
  have ih0 := slices_Index_int_int.mono_l k
  unfold slices_Index_int_int.f
  repeat' first
      | (with_reducible exact ih0 _ _ _ _)
      | (with_reducible exact LeO.refl _)
      | (with_reducible exact LeO.none _)
      | (with_reducible refine LeO.ite ?_ ?_)
      | (with_reducible refine LeO.bind ?_ (fun _ => ?_))
      | exact ih0 _ _ _ _
      | exact LeO.none _
      | refine LeO.ite ?_ ?_
      | refine LeO.bind ?_ (fun _ => ?_)
set_option maxHeartbeats 8000000 in
set_option maxRecDepth 100000 in
theorem slices_Index_int_int.calls (k : Nat) (A0 : Option Addr) (c0 : Nat) (l0 : List Int) (a1 : Int) (r : Int) (w : World) (hr0 : Kd.C (Kd.int .i64) w A0 l0.length l0) (hc0 : l0.length ≤ c0) (h : slices_Index_int_int.f k l0 a1 = some r) :
    Calls Try.prog 47 #[.slice A0 l0.length c0, .int .i64 a1] w fun e w' => e = .returned (.int .i64 r) ∧ Drawn0 w w' := by
  have HR0 := Aside0.mk hr0
  have HC0 := Aside0.mk hc0
  clear hr0 hc0
  have H : (slices_Index_int_int.l0 k l0 a1 (l0.length : Int) 0) = some r := h
  clear h
  have H' := Aside0.mk H
  clear H
  go_enter Try.func47, Try.ntmps47
  go_wp2
  go_loopg [8] k (fun kq v8 w' => ∃ (x8_1 : Int), v8 = .int .i64 x8_1 ∧ Aside0 (slices_Index_int_int.l0 kq l0 a1 (l0.length : Int) x8_1 = some r) ∧ Aside0 (kq ≤ k) ∧ Drawn0 w w')
  case atStart => exact ⟨(0), (by first | rfl | (simp; done) | (simp [*]; done)), H', ⟨Nat.le_refl _⟩, by repeat (first | exact Drawn0.refl _ | apply Drawn0.step)⟩
  case round =>
    clear H'
    try clear p2
    obtain ⟨x8_1, rfl, HA, HK1, ⟨m1, rfl⟩⟩ := hrel
    cases gk with
    | zero => exact absurd HA.out (by simp [slices_Index_int_int.l0])
    | succ k1 =>
      have H := HA.out
      clear HA
      simp only [slices_Index_int_int.l0] at H
      by_cases c3 : x8_1 < (l0.length : Int)
      · rw [if_pos c3] at H
        have c3b0 : decide (x8_1 < (l0.length : Int)) = true := decide_eq_true c3
        clear c3
        by_cases c4 : 0 ≤ x8_1
        · rw [if_pos c4] at H
          have c4b0 : decide (0 ≤ x8_1) = true := decide_eq_true c4
          clear c4
          by_cases c5 : x8_1 < (l0.length : Int)
          · rw [if_pos c5] at H
            have c5b0 : decide (x8_1 < (l0.length : Int)) = true := decide_eq_true c5
            clear c5
            by_cases c6 : a1 = (rd l0 x8_1)
            · rw [if_pos c6] at H
              have c6b0 : (a1 == (rd l0 x8_1)) = true := beq_iff_eq.mpr c6
              have c6b1 : (a1 != (rd l0 x8_1)) = false := bne_eq_false_iff_eq.mpr c6
              clear c6
              obtain rfl := Option.some.inj H
              have p204 : 0 ≤ (x8_1 : Int) := of_decide_eq_true (by first | (with_reducible assumption) | assumption)
              have q204 : x8_1 < (l0.length : Int) := of_decide_eq_true (by first | (with_reducible assumption) | assumption)
              obtain ⟨ad204, e204, hx204_0⟩ := Kd.at_int HR0.out x8_1 p204 q204
              cases e204
              replace p204 := eq_true p204
              replace q204 := eq_true q204
              go_wp2
              go_ret
              exact ⟨by first | rfl | (simp; done) | (simp [*]; done), by repeat (first | exact Drawn0.refl _ | apply Drawn0.step)⟩
            · rw [if_neg c6] at H
              have c6b0 : (a1 == (rd l0 x8_1)) = false := beq_eq_false_iff_ne.mpr c6
              have c6b1 : (a1 != (rd l0 x8_1)) = true := bne_iff_ne.mpr c6
              have H' := Aside0.mk H
              clear H
              have p204 : 0 ≤ (x8_1 : Int) := of_decide_eq_true (by first | (with_reducible assumption) | assumption)
              have q204 : x8_1 < (l0.length : Int) := of_decide_eq_true (by first | (with_reducible assumption) | assumption)
              obtain ⟨ad204, e204, hx204_0⟩ := Kd.at_int HR0.out x8_1 p204 q204
              cases e204
              replace p204 := eq_true p204
              replace q204 := eq_true q204
              go_wp2
              go_roundg k1
              case measure => have := HK1.out; omega
              case rel => exact ⟨(wrap64 (x8_1 + 1)), (by first | rfl | (simp; done) | (simp [*]; done)), H', ⟨by have := HK1.out; omega⟩, by repeat (first | exact Drawn0.refl _ | apply Drawn0.step)⟩
          · rw [if_neg c5] at H
            exact absurd H (by simp)
        · rw [if_neg c4] at H
          exact absurd H (by simp)
      · rw [if_neg c3] at H
        have c3b0 : decide (x8_1 < (l0.length : Int)) = false := decide_eq_false c3
        clear c3
        obtain rfl := Option.some.inj H
        go_wp2
        go_ret
        exact ⟨by first | rfl | (simp; done) | (simp [*]; done), by repeat (first | exact Drawn0.refl _ | apply Drawn0.step)⟩

/-! ### slices_Contains_int_int: function 36 -/
def slices_Contains_int_int.f (k : Nat) (l0 : List Int) (a1 : Int) : Option (Bool) := (slices_Index_int_int.f k l0 a1).bind fun t205 => (some (decide (t205 ≥ 0)))
theorem slices_Contains_int_int.mono : ∀ a0 a1 k, LeO (slices_Contains_int_int.f k a0 a1) (slices_Contains_int_int.f (k + 1) a0 a1) := by
  intro a0 a1 k
  unfold slices_Contains_int_int.f
  repeat' first
      | (with_reducible exact slices_Index_int_int.mono _ _ _)
      | (with_reducible exact LeO.refl _)
      | (with_reducible exact LeO.none _)
      | (with_reducible refine LeO.ite ?_ ?_)
      | (with_reducible refine LeO.bind ?_ (fun _ => ?_))
      | exact slices_Index_int_int.mono _ _ _
      | exact LeO.none _
      | refine LeO.ite ?_ ?_
      | refine LeO.bind ?_ (fun _ => ?_)
set_option maxHeartbeats 8000000 in
set_option maxRecDepth 100000 in
theorem slices_Contains_int_int.calls (k : Nat) (A0 : Option Addr) (c0 : Nat) (l0 : List Int) (a1 : Int) (r : Bool) (w : World) (hr0 : Kd.C (Kd.int .i64) w A0 l0.length l0) (hc0 : l0.length ≤ c0) (h : slices_Contains_int_int.f k l0 a1 = some r) :
    Calls Try.prog 36 #[.slice A0 l0.length c0, .int .i64 a1] w fun e w' => e = .returned (.bool r) ∧ Drawn0 w w' := by
  have HR0 := Aside0.mk hr0
  have HC0 := Aside0.mk hc0
  clear hr0 hc0
  have H : ((slices_Index_int_int.f k l0 a1).bind fun t205 => (some (decide (t205 ≥ 0)))) = some r := h
  clear h
  replace H := Option.bind_eq_some_iff.mp H
  obtain ⟨t205, A30, H⟩ := H
  replace H : (some (decide (t205 ≥ 0))) = some r := H
  have A3 := Aside0.mk A30
  clear A30
  obtain rfl := Option.some.inj H
  go_enter Try.func36, Try.ntmps36
  go_wp2_with (first | ((with_reducible refine gate_callee (f := 47) rfl ?_); refine goesL_ (some 7) rfl rfl Try.func47 (by kernel_rfl) rfl #[.slice A0 l0.length c0, .int .i64 a1] rfl (by (try simp only [List.map_toArray, List.map_cons, List.map_nil]); first | done | rfl | (simp only [List.length_drop, List.length_take]; rfl)) ?_; (with_reducible refine (slices_Index_int_int.calls k _ _ l0 a1 t205 _ ?side1 ?side2 A3.out).mono ?_); (case side1 => repeat (first | exact HR0.out | (with_reducible refine Kd.C_alloc ?_ _) | (with_reducible refine Kd.C_drewN ?_ _) | (with_reducible refine Kd.C_drew ?_))); (case side2 => exact HC0.out); rintro e w' ⟨rfl, ⟨nd, rfl⟩⟩; refine ⟨_, rfl, ?_⟩))
  go_ret
  exact ⟨by first | rfl | (simp; done) | (simp [*]; done), by repeat (first | exact Drawn0.refl _ | apply Drawn0.step)⟩

/-! ### slices_Clone_int_int: function 45 -/
def slices_Clone_int_int.f (l0 : List Int) : Option (List Int) := (some (([] : List Int) : List Int)).bind fun y206 => (if y206.length + l0.length < 17592186044416 then (some (y206 ++ l0)) else (none))
set_option maxHeartbeats 8000000 in
set_option maxRecDepth 100000 in
theorem slices_Clone_int_int.calls (A0 : Option Addr) (c0 : Nat) (l0 : List Int) (r : List Int) (w : World) (hr0 : Kd.C (Kd.int .i64) w A0 l0.length l0) (hc0 : l0.length ≤ c0) (h : slices_Clone_int_int.f l0 = some r) :
    Calls Try.prog 45 #[.slice A0 l0.length c0] w fun e w' => ∃ v0_ : Value, e = .returned (v0_) ∧ Kd.R (Kd.int .i64) 3 w' w.heap.size (fun _ => True) v0_ r ∧ Below w.heap.size w w' := by
  cases A0 with
  | none =>
    obtain rfl : l0 = [] := by
      rcases Nat.eq_zero_or_pos l0.length with h0 | h0
      · exact List.length_eq_zero_iff.1 h0
      · obtain ⟨_, e, _⟩ := hr0.2.2 h0
        cases e
    obtain rfl : r = [] := by simpa [slices_Clone_int_int.f] using h.symm
    have hq_ := fun (W : World) (n c : Nat) => run_eql_slice_nil (P := Try.prog) W 28 3 none n c Try.underlying28
    clear hr0 hc0 h
    go_enter Try.func45, Try.ntmps45
    go_wp2
    go_ret
    exact ⟨_, rfl, Kd.R_nil _ _ _ _ _, Below.refl _ _⟩
  | some ad_ =>
    have HR0 := Aside0.mk hr0
    have HC0 := Aside0.mk hc0
    clear hr0 hc0
    have HB := Aside0.mk (Below.refl w.heap.size w)
    have H : ((some (([] : List Int) : List Int)).bind fun y206 => (if y206.length + l0.length < 17592186044416 then (some (y206 ++ l0)) else (none))) = some r := h
    clear h
    obtain ⟨y206, hy206⟩ : ∃ y_ : List Int, y_ = (([] : List Int)) := ⟨_, rfl⟩
    replace H : (if y206.length + l0.length < 17592186044416 then (some (y206 ++ l0)) else (none)) = some r := by first | (rw [hy206]; with_reducible exact H) | (have H2_ := (Option.bind_some _ _).symm.trans H; rw [hy206]; with_reducible exact H2_) | (have H2_ := (Option.bind_some _ _).symm.trans H; with_reducible exact H2_) | with_reducible exact H | (rw [hy206]; exact H) | exact H
    have Ny206 := Aside0.mk hy206
    clear hy206
    by_cases c2 : y206.length + l0.length < 17592186044416
    · rw [if_pos c2] at H
      have LMc2 := Aside0.mk c2
      clear c2
      obtain ⟨y209, hy209⟩ : ∃ y_ : List Int, y_ = (y206 ++ l0) := ⟨_, rfl⟩
      replace H : (some y209) = some r := by first | (rw [hy209]; with_reducible exact H) | (have H2_ := (Option.bind_some _ _).symm.trans H; rw [hy209]; with_reducible exact H2_) | (have H2_ := (Option.bind_some _ _).symm.trans H; with_reducible exact H2_) | with_reducible exact H | (rw [hy209]; exact H) | exact H
      have Ny209 := Aside0.mk hy209
      clear hy209
      obtain rfl := Option.some.inj H
      have hq_ := fun (W : World) (n c : Nat) => run_eql_slice_nil (P := Try.prog) W 28 3 (some ad_) n c Try.underlying28
      go_enter Try.func45, Try.ntmps45
      go_wp2_with (first | ((with_reducible refine gate_dst (N := 5) rfl ?_); refine Kd.R_lit (Kd.int .i64) _ 3 ?hg (N := 5) ?hd (xs := ([] : List Int)) (inner := []) (ok := fun _ => True) (okp := fun _ => True) ?hr ?hp (fun _ hk => hk) trivial (Below.refl _ _) (Nat.le_refl _) (by simp) ?_; (case hd => rfl); (case hg => rfl); (case hr => first | (go_simp; done) | (go_simp; rfl)); (case hp => exact (Reps.none _ _)); intro v207 w3 ho4 hb hg_ hnew_; clear hg_ hnew_; (first | rw [← Ny206.out] at ho4 | (simp only [Int.reduceToNat] at ho4; rw [← Ny206.out] at ho4)); have n0_ := Aside0.mk (Kd.R_lower ho4 (below_size (by repeat (first | (with_reducible first | exact HB.out | apply below_alloc | apply pw_below_drewN | apply below_drew1) | exact HB.out)))); have n1_ := Aside0.mk (below_step (by repeat (first | (with_reducible first | exact HB.out | apply below_alloc | apply pw_below_drewN | apply below_drew1) | exact HB.out)) hb); clear HB; have HO208 := n0_; have HB := n1_; clear n0_ n1_; clear hb ho4) | ((with_reducible refine gate_builtin (b := .append) (xs := #[.tmp 5, .tmp 6]) rfl ?_); at_builtin; refine Kd.R_append_rows (Kd.int .i64) (w0 := w) w.heap.size rfl (.tmp 5) (.tmp 6) 28 3 (.int .i64 0) 8 rfl Try.underlying28 info3 rfl (by decide) (by omega) v207 y206 l0 _ _ _ (fun _ => True) (fun _ => False) rfl rfl ?aO ?aR (fun _ _ h => h) (fun _ h => h.elim) ?aF ?aB ?aS ?aL ?_; (case aR => repeat (first | exact (Kd.C_below HR0.out HB.out) | (with_reducible refine Kd.C_alloc ?_ _) | (with_reducible refine Kd.C_drewN ?_ _) | (with_reducible refine Kd.C_drew ?_))); (case aB => exact (by repeat (first | (with_reducible first | exact HB.out | apply below_alloc | apply pw_below_drewN | apply below_drew1) | exact HB.out))); (case aF => exact (fun _ _ => trivial)); (case aO => exact (by (with_reducible repeat (first | apply Kd.R_alloc | apply Kd.R_drewN | apply Kd.R_drew)); exact HO208.out)); (case aS => exact (below_size (by repeat (first | (with_reducible first | exact HB.out | apply below_alloc | apply pw_below_drewN | apply below_drew1) | exact HB.out)))); (case aL => have := LMc2.out; omega); intro v210 w5 ho hb hg hat; rw [← Ny209.out] at ho; have n0_ := Aside0.mk (hb); have n1_ := Aside0.mk (ho); clear HB; clear HO208; have HB := n0_; have HO211 := n1_; clear n0_ n1_; clear ho hb hg hat))
      go_ret
      exact ⟨_, by first | rfl | (simp [errW_none, errW_some] <;> rfl) | (simp [*, errW_none, errW_some] <;> rfl), by (with_reducible repeat (first | apply Kd.R_alloc | apply Kd.R_drewN | apply Kd.R_drew)); exact HO211.out, by repeat (first | (with_reducible first | exact HB.out | apply below_alloc | apply pw_below_drewN | apply below_drew1) | exact HB.out)⟩
    · rw [if_neg c2] at H
      exact absurd H (by simp)

/-! ### impl_mergeOrders: function 46 -/
section
open Go.Sort
def mgRen : Go.Shelf.Ren := ⟨fun | 6 => 56 | 8 => 53 | 10 => 51 | n => n, fun | 0 => 0 | 3 => 3 | 4 => 4 | 22 => 22 | 23 => 28 | 25 => 59 | n => n, fun n => n⟩
theorem mgLays : SlLaysH.n10 Try.prog mgRen := {
  mixed := by kernel_rfl
  f6 := ⟨Try.f56.name, by decide, Try.func56.trans (congrArg some (by kernel_rfl))⟩
  f10 := ⟨Try.f51.name, by decide, Try.func51.trans (congrArg some (by kernel_rfl))⟩
  t0 := Try.underlying0
  a0 := Try.isAgg0
  z0 := Try.sizeOf0
  v0 := Try.zeroValue0
  t3 := Try.underlying3
  a3 := Try.isAgg3
  z3 := Try.sizeOf3
  v3 := Try.zeroValue3
  t4 := Try.underlying4
  a4 := Try.isAgg4
  z4 := Try.sizeOf4
  v4 := Try.zeroValue4
  t22 := Try.underlying22
  a22 := Try.isAgg22
  z22 := Try.sizeOf22
  v22 := Try.zeroValue22
  a23 := Try.isAgg28
  z23 := Try.sizeOf28
  t25 := Try.underlying59
  a25 := Try.isAgg59
  z25 := Try.sizeOf59
  v25 := Try.zeroValue59 }
theorem mgLays8 : SlLaysH.n8 Try.prog mgRen := { mgLays with
  f8 := ⟨Try.f53.name, by decide, Try.func53.trans (congrArg some (by kernel_rfl))⟩ }
/-! #### worlds that part in one block alone -/
structure WK (B : Nat) (w W : World) : Prop where
  os : W.os = w.os
  tape : W.tape = w.tape
  output : W.output = w.output
  size : w.heap.size ≤ W.heap.size
  block : ∀ k, k < w.heap.size → k ≠ B → W.heap[k]? = w.heap[k]?
section
variable {B : Nat} {a b c w W W2 : World}
theorem WK.refl (B : Nat) (w : World) : WK B w w := ⟨rfl, rfl, rfl, Nat.le_refl _, fun _ _ _ => rfl⟩
theorem WK.trans (h : WK B a b) (k : WK B b c) : WK B a c :=
  ⟨k.os.trans h.os, k.tape.trans h.tape, k.output.trans h.output, Nat.le_trans h.size k.size, fun i hi hn => (k.block i (Nat.lt_of_lt_of_le hi h.size) hn).trans (h.block i hi hn)⟩
theorem WK.of_below (h : Below w.heap.size w W) : WK B w W := ⟨h.os, h.tape, h.output, h.size, fun k hk _ => h.block k hk⟩
theorem WK.below (h : WK B a W) (k : Below W.heap.size W W2) : WK B a W2 := h.trans (WK.of_below k)
theorem WK.alloc (h : WK B a W) (o : Obj) : WK B a (W.alloc o) := h.below (below_alloc (Below.refl _ _) o)
theorem WK.drewN (h : WK B a W) (n : Nat) : WK B a (W.drewN n) := h.below (pw_below_drewN (Below.refl _ _) n)
theorem WK.drew (h : WK B a W) : WK B a W.drew := h.below (below_drew (Below.refl _ _))
theorem WK.setCell (h : WK B a W) {p : Addr} (hp : p.block = B ∨ a.heap.size ≤ p.block) (u : Value) : WK B a (W.setCell p u) :=
  ⟨h.os, h.tape, h.output, by simpa [World.setCell] using h.size, fun i hi hn => (Below.heap_setCell W p u i (by rcases hp with e | e <;> omega)).trans (h.block i hi hn)⟩
theorem WK.put {α : Type} [Inhabited α] (h : WK B a W) (enc : α → Value) (O : Nat) (d : Array α) : WK B a (putRow enc W B O d) :=
  ⟨h.os, h.tape, h.output, by simpa using h.size, fun i hi hn => by
    refine Eq.trans ?_ (h.block i hi hn)
    simp only [putRow, mapBlock, Array.getElem?_modify]
    rw [if_neg (fun e => hn e.symm)]⟩
theorem WK.grown (h : WK B a W) {row : Option Nat} (hg : W.grownBy W2 row) (hr : ∀ k, row = some k → a.heap.size ≤ k) : WK B a W2 :=
  ⟨hg.os.trans h.os, hg.tape.trans h.tape, hg.output.trans h.output, Nat.le_trans h.size hg.size, fun i hi hn => (hg.block i (Nat.lt_of_lt_of_le hi h.size) (fun e => by have := hr i e.symm; omega)).trans (h.block i hi hn)⟩
theorem WK.toBelow (h : WK B w W) (hB : B ≤ w.heap.size) : Below B w W := ⟨h.os, h.tape, h.output, h.size, fun k hk => h.block k (by omega) (by omega)⟩
end
/-! #### rows -/
def RowOk (w : World) (B : Nat) (v : Value) (xs : List Int) : Prop := ∃ A c, v = .slice A xs.length c ∧ xs.length ≤ c ∧ ∀ W, WK B w W → Kd.C (Kd.int .i64) W A xs.length xs
theorem RowOk.nil (w : World) (B : Nat) : RowOk w B (.slice none 0 0) [] := ⟨none, 0, rfl, Nat.le_refl _, fun W _ => Kd.C_nil _ W⟩
def Row (w : World) (B : Nat) : Type := {p : Value × List Int // RowOk w B p.1 p.2}
instance (w : World) (B : Nat) : Inhabited (Row w B) := ⟨⟨(.slice none 0 0, []), RowOk.nil w B⟩⟩
def Row.enc {w : World} {B : Nat} (r : Row w B) : Value := r.val.1
def Row.xs {w : World} {B : Nat} (r : Row w B) : List Int := r.val.2
theorem Row.one {w : World} {B : Nat} : OneCell (Row.enc (w := w) (B := B)) := fun r => by
  obtain ⟨A, c, e, _⟩ := r.property
  show (r.val.1).oneCell' = true
  rw [e]
  rfl
/-! #### whether a list has a number, by the program's own library -/
theorem index_ex (l : List Int) (a : Int) (hm : l.length ≤ 9223372036854775807) : ∀ (d i : Nat), l.length - i = d → i ≤ l.length → ∃ k r, slices_Index_int_int.l0 k l a (l.length : Int) (i : Int) = some r ∧ (decide (r ≥ 0) = decide (a ∈ l.drop i)) := by
  intro d
  induction d with
  | zero =>
    intro i h1 h2
    obtain rfl : i = l.length := by omega
    refine ⟨1, -1, ?_, by simp⟩
    rw [slices_Index_int_int.l0, if_neg (by omega)]
  | succ d ih =>
    intro i h1 h2
    have hi : i < l.length := by omega
    have hr : rd l (i : Int) = l[i] := by simp [rd, hi]
    have hd : l.drop i = l[i] :: l.drop (i + 1) := List.drop_eq_getElem_cons hi
    by_cases e : a = l[i]
    · refine ⟨1, i, ?_, ?_⟩
      · rw [slices_Index_int_int.l0, if_pos (by omega), if_pos (by omega), if_pos (by omega), if_pos (by rw [hr]; exact e)]
      · have hq : a ∈ l.drop i := by rw [hd, e]; exact List.mem_cons_self
        rw [decide_eq_true hq]
        exact decide_eq_true (by omega)
    · obtain ⟨k, r, h3, h4⟩ := ih (i + 1) (by omega) (by omega)
      refine ⟨k + 1, r, ?_, ?_⟩
      · rw [slices_Index_int_int.l0, if_pos (by omega), if_pos (by omega), if_pos (by omega), if_neg (by rw [hr]; exact e), show wrap64 ((i : Int) + 1) = ((i + 1 : Nat) : Int) by unfold wrap64; omega]
        exact h3
      · rw [h4, Bool.eq_iff_iff, decide_eq_true_eq, decide_eq_true_eq, hd, List.mem_cons]
        exact ⟨.inr, fun q => q.elim (fun q => absurd q e) id⟩
theorem contains_ex (l : List Int) (a : Int) (hm : l.length ≤ 9223372036854775807) : ∃ k, slices_Contains_int_int.f k l a = some (decide (a ∈ l)) := by
  obtain ⟨k, r, h1, h2⟩ := index_ex l a hm l.length 0 (by omega) (by omega)
  refine ⟨k, ?_⟩
  unfold slices_Contains_int_int.f slices_Index_int_int.f
  rw [show ((0 : Nat) : Int) = 0 from rfl] at h1
  rw [h1]
  simpa using h2
/-! #### the two literals -/
theorem mg_lit1 (A : Option Addr) (n c : Nat) (W : World) : Calls Try.prog 52 #[.slice A n c] W fun e w' => e = .returned (.bool (decide (n = 0))) ∧ ∃ q, w' = W.drewN q := by
  by_cases h : n = 0
  · subst h
    go_enter Try.func52, Try.ntmps52
    go_wp2
    go_ret
    exact ⟨rfl, 0, rfl⟩
  · have hb : decide ((n : Int) = 0) = false := decide_eq_false (by omega)
    have hb2 : ((n : Int) == 0) = false := beq_eq_false_iff_ne.2 (by omega)
    have hb3 : decide (n = 0) = false := decide_eq_false h
    rw [hb3]
    clear h hb3
    go_enter Try.func52, Try.ntmps52
    go_wp2
    go_ret
    exact ⟨rfl, 0, rfl⟩
set_option maxHeartbeats 1000000 in
theorem mg_lit2 (g : Nat) (Am Al : Option Addr) (ms ls : List Int) (cm cl : Nat) (W : World) (hm0 : 0 < ms.length) (hl0 : 0 < ls.length) (hmc : ms.length ≤ cm) (hm : Kd.C (Kd.int .i64) W Am ms.length ms) (hl : Kd.C (Kd.int .i64) W Al ls.length ls)
    (hc : W.cell? ⟨g, 0, none⟩ = some (.slice Al ls.length cl)) : Calls Try.prog 54 #[.slice Am ms.length cm, .pointer (some ⟨g, 0, none⟩)] W fun e w' => e = .returned (.bool (decide (ls.headD 0 ∈ ms.drop 1))) ∧ ∃ q, w' = W.drewN q := by
  obtain ⟨k, hk⟩ := contains_ex (ms.drop 1) (ls.headD 0) (by have := Kd.C_max hm; rw [List.length_drop]; omega)
  have HK := Aside0.mk hk
  obtain ⟨ad, ea, hx⟩ := Kd.at_int hl 0 (by omega) (by omega)
  cases ea
  have hrd : rd ls 0 = ls.headD 0 := by cases ls <;> rfl
  rw [hrd] at hx
  have hx0 : W.cell? ad = some (.int .i64 (ls.headD 0)) := by simpa [Addr.add] using hx
  obtain ⟨i0, hi0, _, hsz, _⟩ := info_parts info3
  obtain ⟨A9, hcut9, hA9, hC9⟩ := print_drop_of (P := Try.prog) (Value.int .i64) 0 28 3 .i64 Try.underlying28 hi0 hsz Am cm ms 1 (by omega) (by omega) hmc
  have HR := Aside0.mk (Kd.C_of_reads (h1 := fun _ => rfl) (hA9 _ (Kd.reads_of_C hm)))
  have HC := Aside0.mk hC9
  have hl1 : decide ((0 : Int) < (ls.length : Int)) = true := decide_eq_true (by omega)
  have hl2 : decide (0 < ls.length) = true := decide_eq_true hl0
  clear hA9 hC9 hi0 hsz hm hl hk hrd hx hm0 hmc
  generalize ls.headD 0 = hd at *
  generalize decide (hd ∈ ms.drop 1) = r at *
  go_enter Try.func54, Try.ntmps54
  go_wp2
  go_quiet ((go_at_call 36; refine calls_of_args (args' := #[.slice A9 (ms.drop 1).length (cm - 1), .int .i64 hd]) (by first | (rw [show (ms.drop 1).length = (ms.length - 1) from List.length_drop] <;> rfl) | rfl) ?_; (with_reducible refine (slices_Contains_int_int.calls k _ _ (ms.drop 1) hd r _ ?side1 ?side2 HK.out).mono ?_); (case side1 => repeat (first | exact HR.out | (with_reducible refine Kd.C_alloc ?_ _) | (with_reducible refine Kd.C_drewN ?_ _) | (with_reducible refine Kd.C_drew ?_))); (case side2 => exact HC.out); rintro e w' ⟨rfl, ⟨nd, rfl⟩⟩; (first | exact ⟨rfl, _, rfl⟩ | exact ⟨rfl, _, World.drewN_drewN _ _ _⟩ | exact ⟨rfl, _, Eq.trans (World.drewN_drewN _ _ _) (congrArg (World.drewN _) (Nat.add_assoc _ _ _))⟩)))
  go_wp2
  go_ret
  exact ⟨rfl, _, rfl⟩
def NRow (w : World) (B : Nat) : Type := {r : Row w B // 0 < r.xs.length}
theorem Row.slice {w : World} {B : Nat} (r : Row w B) : ∃ A c, r.enc = .slice A r.xs.length c ∧ r.xs.length ≤ c ∧ ∀ W, WK B w W → Kd.C (Kd.int .i64) W A r.xs.length r.xs := r.property
theorem mg_contains (w : World) (B O cap : Nat) (es : List (Row w B)) (hne : ∀ r ∈ es, 0 < r.xs.length) (r0 : Row w B) (h0 : 0 < r0.xs.length) (W : World) (g : Nat) (hW : WK B w W)
    (hH : ∀ j (h : j < es.length), W.cell? ⟨B, O + j, none⟩ = some (es[j]).enc) (hg : W.cell? ⟨g, 0, none⟩ = some r0.enc) (hlen : es.length ≤ 9223372036854775807) :
    Calls Try.prog 53 #[.slice (some ⟨B, O, none⟩) es.length cap, .func (.func 54) #[] #[.pointer (some ⟨g, 0, none⟩)]] W fun e w' => e = .returned (.bool (es.any fun m => decide (r0.xs.headD 0 ∈ m.xs.drop 1))) ∧ ∃ q, w' = W.drewN q := by
  have eg : ∀ args w, (callFunc 54 args).run Try.prog w = .ok (.enter 54 args) w := enters_of Try.func54 (by kernel_rfl) rfl
  letI : Inhabited (NRow w B) := ⟨⟨r0, h0⟩⟩
  let zs : List (NRow w B) := es.pmap (fun r h => ⟨r, h⟩) hne
  have hzl : zs.length = es.length := List.length_pmap ..
  obtain ⟨Al, cl, el, hcl, hCl⟩ := r0.slice
  have hp : PredAt Try.prog 54 #[.pointer (some ⟨g, 0, none⟩)] (fun r : NRow w B => r.val.enc) (fun m => decide (r0.xs.headD 0 ∈ m.val.xs.drop 1)) W := fun W' x hb => by
    obtain ⟨Am, cm, em, hcm, hCm⟩ := x.val.slice
    show Calls Try.prog 54 #[x.val.enc, .pointer (some ⟨g, 0, none⟩)] W' _
    rw [em]
    exact mg_lit2 g Am Al x.val.xs r0.xs cm cl W' x.property h0 hcm (hCm _ (hW.below hb)) (hCl _ (hW.below hb)) ((hb.cell (p := ⟨g, 0, none⟩) (World.block_lt_of_cell? W _ hg)).trans (by rw [hg, el]))
  have := AnyE.slices_ContainsFunc mgLays8 (fun r : NRow w B => r.val.enc) (fun m => decide (r0.xs.headD 0 ∈ m.val.xs.drop 1)) 54 #[.pointer (some ⟨g, 0, none⟩)] eg B O es.length cap zs W hp (by omega) hlen (fun j hj => by
    have hj' : j < es.length := by omega
    rw [hH j hj', getElem!_pos zs j hj]
    have hz : zs[j] = (⟨es[j], hne _ (List.getElem_mem hj')⟩ : NRow w B) := List.getElem_pmap ..
    rw [hz])
  rw [List.take_of_length_le (by omega), show zs.any (fun m => decide (r0.xs.headD 0 ∈ m.val.xs.drop 1)) = es.any (fun m => decide (r0.xs.headD 0 ∈ m.xs.drop 1)) by
    simp only [zs]
    rw [Bool.eq_iff_iff, List.any_eq_true, List.any_eq_true]
    constructor
    · rintro ⟨x, hx, hd⟩
      obtain ⟨a, ha, rfl⟩ := List.mem_pmap.1 hx
      exact ⟨a, ha, hd⟩
    · rintro ⟨a, ha, hd⟩
      exact ⟨⟨a, hne a ha⟩, List.mem_pmap.2 ⟨a, ha, rfl⟩, hd⟩] at this
  exact this
theorem mg_delete (w : World) (B O cap : Nat) (es : List (Row w B)) (W : World) (hH : Holds Row.enc W B O es.toArray) (hcap : es.length ≤ cap) (hlen : es.length ≤ 9223372036854775807) :
    Calls Try.prog 51 #[.slice (some ⟨B, O, none⟩) es.length cap, .func (.func 52) #[] #[]] W fun e w' => e = .returned (.slice (some ⟨B, O, none⟩) (es.filter fun r : Row w B => !decide (r.xs.length = 0)).length cap) ∧
      ∃ q, w' = putRow Row.enc (Sort.ahead W q) B O ((es.filter fun r : Row w B => !decide (r.xs.length = 0)) ++ List.replicate (es.length - (es.filter fun r : Row w B => !decide (r.xs.length = 0)).length) default).toArray := by
  have eg : ∀ args w, (callFunc 52 args).run Try.prog w = .ok (.enter 52 args) w := enters_of Try.func52 (by kernel_rfl) rfl
  have hg : ∀ (W' : World) (x : Row w B), FnGives Try.prog 52 #[] #[x.enc] (.bool (decide (x.xs.length = 0))) W' := fun W' x => by
    obtain ⟨Am, cm, em, hcm, hCm⟩ := x.slice
    show Calls Try.prog 52 #[x.enc] W' _
    rw [em]
    exact mg_lit1 Am x.xs.length cm W'
  have := AnyE.slices_DeleteFunc mgLays Row.enc Row.one (fun r : Row w B => decide (r.xs.length = 0)) 52 #[] eg default Try.zeroValue28 B O cap es.toArray W (fun W' x _ => hg W' x) (fun n os dk x _ => hg _ x) hH (by simpa using hlen) (by simpa using hcap)
  have e10 : mgRen.f 10 = 51 := rfl
  rw [e10] at this
  simpa using this
theorem holds_of_at {α : Type} [Inhabited α] {enc : α → Value} {W W2 : World} {B O : Nat} {d : Array α} (h : Holds enc W B O d) (hb : W2.heap[B]? = W.heap[B]?) : Holds enc W2 B O d := fun j hj => by
  obtain ⟨h1, h2⟩ := h j hj
  refine ⟨?_, ?_⟩
  · rw [← h1]; simp only [World.cell?, hb]
  · rw [← h2]; simp only [World.frozen?, hb]
theorem holds_pre {α : Type} [Inhabited α] {enc : α → Value} {W : World} {B O : Nat} {d e : List α} (h : Holds enc W B O (d ++ e).toArray) : Holds enc W B O d.toArray := fun j hj => by
  have hj' : j < d.length := by simpa using hj
  have := h j (by simp; omega)
  rw [getElem!_pos _ j (by simp; omega)] at this
  rw [getElem!_pos _ j hj]
  simpa [List.getElem_append_left hj'] using this
def mgFree (es : List (List Int)) (c : Int) : Bool := !(es.any fun m => decide (c ∈ m.drop 1))
def mgPick (es : List (List Int)) : Option (List Int) := es.find? fun l => mgFree es (l.headD 0)
def impl_mergeOrders.l0 : Nat → List (List Int) → List Int → Option (List Int × Bool)
  | 0, _, _ => none
  | k + 1, ls, out => if (ls.filter fun l => !decide (l.length = 0)).length = 0 then some (out, true) else
    match mgPick (ls.filter fun l => !decide (l.length = 0)) with
    | none => some ([], false)
    | some l => if l.headD 0 < 0 then some ([], false) else if out.length < 1000000 then impl_mergeOrders.l0 k ((ls.filter fun l => !decide (l.length = 0)).map fun m => if m.headD 0 = l.headD 0 then m.drop 1 else m) (out ++ [l.headD 0]) else none
def impl_mergeOrders.f (k : Nat) (l0 : List (List Int)) : Option (List Int × Bool) := impl_mergeOrders.l0 k l0 []
theorem mg_filter {w : World} {B : Nat} (es : List (Row w B)) : (es.map Row.xs).filter (fun l => !decide (l.length = 0)) = (es.filter fun r : Row w B => !decide (r.xs.length = 0)).map Row.xs := by
  rw [List.filter_map]; rfl
theorem mg_set {w : World} {B0 : Nat} (ds : List (Row w B0)) (W : World) (B O i : Nat) (hi : i < ds.length) (h : Holds Row.enc W B O ds.toArray) (r : Row w B0) : Holds Row.enc (W.setCell ⟨B, O + i, none⟩ r.enc) B O (ds.set i r).toArray := by
  have e1 := putRow_self Row.enc W B O ds.toArray h
  have e2 := putRow_set Row.enc W B O ds.toArray i r (by simpa using hi)
  rw [e1] at e2
  rw [e2]
  have := holds_putRow Row.enc W B O ds.toArray (ds.toArray.setIfInBounds i r) h (by simp)
  simpa using this
theorem mg_none {w : World} {B : Nat} (fs : List (Row w B)) (h : ∀ i (h' : i < fs.length), mgFree (fs.map Row.xs) (fs[i].xs.headD 0) = false) : mgPick (fs.map Row.xs) = none := by
  unfold mgPick
  rw [List.find?_eq_none]
  intro l hl
  obtain ⟨r, hr, rfl⟩ := List.mem_map.1 hl
  obtain ⟨i, hi, rfl⟩ := List.getElem_of_mem hr
  rw [h i hi]
  decide
theorem mg_found {w : World} {B : Nat} (fs : List (Row w B)) (j : Nat) (hj : j < fs.length) (h : ∀ i (_ : i < j) (h' : i < fs.length), mgFree (fs.map Row.xs) (fs[i].xs.headD 0) = false) (hf : mgFree (fs.map Row.xs) (fs[j].xs.headD 0) = true) : mgPick (fs.map Row.xs) = some fs[j].xs := by
  unfold mgPick
  rw [List.find?_eq_some_iff_getElem]
  refine ⟨hf, j, by simpa using hj, by simp, fun i hi => ?_⟩
  have hi' : i < fs.length := by omega
  have := h i hi hi'
  simpa using this
theorem mg_kept {α : Type} [Inhabited α] (enc : α → Value) (wr : World) (q : Nat) (B O : Nat) {d : Array α} : Kept wr (putRow enc (Sort.ahead wr q) B O d) (fun k => k = B) :=
  ⟨by simp [Sort.ahead], fun i hi hn => by
    simp only [putRow, mapBlock, Array.getElem?_modify]
    rw [if_neg (fun e => hn e.symm)]
    rfl⟩
set_option maxHeartbeats 4000000 in
set_option maxRecDepth 100000 in
theorem mg_walk (k : Nat) (w : World) (B O cap : Nat) (es : List (Row w B)) (hH : Holds Row.enc w B O es.toArray) (hcap : es.length ≤ cap) (hlen : es.length ≤ 9223372036854775807) (hB : B < w.heap.size) (r1 : List Int) (r2 : Bool)
    (h : impl_mergeOrders.l0 k (es.map Row.xs) [] = some (r1, r2)) :
    Calls Try.prog 46 #[.slice (some ⟨B, O, none⟩) es.length cap] w fun e w' => ∃ v0, e = .returned (.tuple #[v0, .bool r2]) ∧ Kd.R (Kd.int .i64) 3 w' w.heap.size (fun _ => True) v0 r1 ∧ WK B w w' := by
  have HH := Aside0.mk hH
  have H := Aside0.mk h
  have HC := Aside0.mk hcap
  have HL := Aside0.mk hlen
  have HBs := Aside0.mk hB
  clear hH h hcap hlen hB
  go_enter Try.func46, Try.ntmps46
  go_wp2
  go_loopg [0, 4] k (fun gg s0 s4 wr => ∃ (n : Nat) (out : List Int) (es2 : List (Row w B)), s0 = .slice (some ⟨B, O, none⟩) n cap ∧ Aside0 (n = es2.length) ∧ Aside0 (es2.length ≤ es.length) ∧ Aside0 (WK B w wr) ∧ Aside0 (Holds Row.enc wr B O es2.toArray) ∧ Aside0 (Kd.R (Kd.int .i64) 3 wr w.heap.size (fun _ => True) s4 out) ∧ Aside0 (impl_mergeOrders.l0 gg (es2.map Row.xs) out = some (r1, r2)))
  case atStart => exact ⟨_, [], es, rfl, ⟨rfl⟩, ⟨Nat.le_refl _⟩, ⟨WK.refl _ _⟩, HH, ⟨Kd.R_nil _ _ _ _ _⟩, H⟩
  case round =>
    clear H HH
    obtain ⟨n, out, es2, rfl, hn, hle, HW, HH, HO, H⟩ := hrel
    obtain rfl := hn.out
    cases gk with
    | zero => exact absurd H.out (by simp [impl_mergeOrders.l0])
    | succ k1 =>
      have hdel := mg_delete w B O cap es2 wr HH.out (Nat.le_trans hle.out HC.out) (Nat.le_trans hle.out HL.out)
      have hk := H.out
      rw [impl_mergeOrders.l0] at hk
      rw [mg_filter] at hk
      have HF := Aside0.mk (show (es2.filter fun r : Row w B => !decide (r.xs.length = 0)).length ≤ es2.length from List.length_filter_le ..)
      have HN := Aside0.mk (show ∀ r ∈ es2.filter fun r : Row w B => !decide (r.xs.length = 0), 0 < r.xs.length from fun r hr => by
        have := (List.mem_filter.1 hr).2
        simp at this
        exact List.length_pos_iff.2 this)
      generalize (es2.filter fun r : Row w B => !decide (r.xs.length = 0)) = fs at hk hdel HF HN
      have HK := Aside0.mk hk
      have HD := Aside0.mk hdel
      clear hk hdel H
      by_cases h0 : fs.length = 0
      · have hb1 : decide ((fs.length : Int) = 0) = true := decide_eq_true (by omega)
        have hb2 : ((fs.length : Int) == 0) = true := beq_iff_eq.2 (by omega)
        have hk := HK.out
        rw [List.length_map, if_pos h0] at hk
        simp only [Option.some.injEq, Prod.mk.injEq] at hk
        obtain ⟨rfl, rfl⟩ := hk
        clear HK
        go_wp2_with (go_at_call 51; refine (HD.out).mono ?_; rintro e w' ⟨rfl, q, rfl⟩)
        go_ret2
        refine ⟨_, rfl, ?_, ?_⟩
        · exact Kd.R_kept (S := fun k => k = B) (ok := fun k => w.heap.size ≤ k) (Kd.R_mono (Kd.R_bound HO.out) (fun k hk => hk.2.1)) (mg_kept Row.enc wr q B O) (fun k hk e => by have := HBs.out; omega) |> fun z => Kd.R_mono z (fun _ _ => trivial)
        · exact (HW.out.drewN q).put _ _ _
      · have hb1 : decide ((fs.length : Int) = 0) = false := decide_eq_false (by omega)
        have hb2 : ((fs.length : Int) == 0) = false := beq_eq_false_iff_ne.2 (by omega)
        have HK2 := Aside0.mk (by have := HK.out; rw [List.length_map, if_neg h0] at this; exact this)
        clear HK
        go_wp2_with (go_at_call 51; refine (HD.out).mono ?_; rintro e w' ⟨rfl, q, rfl⟩)
        have HW1 := Aside0.mk ((HW.out.drewN q).put Row.enc O (fs ++ List.replicate (es2.length - fs.length) default).toArray)
        have HO1 := Aside0.mk (Kd.R_kept (S := fun k => k = B) (ok := fun k => w.heap.size ≤ k) (Kd.R_mono (Kd.R_bound HO.out) (fun k hk => hk.2.1)) (mg_kept Row.enc wr q B O) (fun k hk e => by have := HBs.out; omega) : Kd.R (Kd.int .i64) 3 (putRow Row.enc (Sort.ahead wr q) B O (fs ++ List.replicate (es2.length - fs.length) default).toArray) w.heap.size (fun k => w.heap.size ≤ k) u4 out)
        have HH1 := Aside0.mk (holds_pre (holds_putRow Row.enc (Sort.ahead wr q) B O es2.toArray (fs ++ List.replicate (es2.length - fs.length) default).toArray (holds_ahead Row.enc wr q B O _ HH.out) (by have := HF.out; simp; omega)))
        clear HW HO HH HD
        have HW1' : Aside0 (WK B w (putRow Row.enc (Sort.ahead wr q) B O (fs ++ List.replicate (es2.length - fs.length) default).toArray)) := HW1
        clear HW1
        generalize putRow Row.enc (Sort.ahead wr q) B O (fs ++ List.replicate (es2.length - fs.length) default).toArray = W1 at HW1' HO1 HH1
        have hsz := HW1'.out.size
        have HBW := Aside0.mk (show B < W1.heap.size from by have := HBs.out; omega)
        have HSZ := Aside0.mk hsz
        clear hsz hb1 hb2
        go_loopg [5, 18] fs.length (fun gg s5 s18 wr2 => ∃ j : Nat, s18 = .int .i64 j ∧ s5 = .int .i64 (-1) ∧ Aside0 (j ≤ fs.length) ∧ Aside0 (fs.length - j ≤ gg) ∧ Aside0 (Below W1.heap.size W1 wr2) ∧ Aside0 (∀ i (h : i < j) (h' : i < fs.length), mgFree (fs.map Row.xs) (fs[i].xs.headD 0) = false))
        case atStart => exact ⟨0, rfl, rfl, ⟨by omega⟩, ⟨by omega⟩, ⟨Below.refl _ _⟩, ⟨fun i h => absurd h (Nat.not_lt_zero _)⟩⟩
        case round =>
          obtain ⟨j, rfl, rfl, hj, hg, HBL, HNO⟩ := hrel
          have hbig : fs.length ≤ 9223372036854775807 := Nat.le_trans HF.out (Nat.le_trans hle.out HL.out)
          by_cases hlt : j < fs.length
          · have hltz : decide ((j : Int) < (fs.length : Int)) = true := decide_eq_true (by omega)
            have hlt2 : decide (j < fs.length) = true := decide_eq_true hlt
            have HH2 := Aside0.mk (holds_of_at HH1.out (HBL.out.block B HBW.out))
            obtain ⟨hx, hfz⟩ := HH2.out j (by simpa using hlt)
            rw [show (fs.toArray)[j]! = fs[j] from by rw [getElem!_pos _ j (by simpa using hlt)]; simp] at hx
            obtain ⟨A, c, el, hlc, hlC⟩ := (fs[j]).slice
            have HEL := Aside0.mk el
            have HLC := Aside0.mk hlc
            have HCC := Aside0.mk hlC
            rw [el] at hx
            clear el hlc hlC hfz
            have hj0 : 0 < (fs[j]).xs.length := HN.out _ (List.getElem_mem hlt)
            obtain ⟨ad, ea, hx0⟩ := Kd.at_int (HCC.out W1 HW1'.out) 0 (by omega) (by omega)
            cases ea
            rw [show rd (fs[j]).xs 0 = (fs[j]).xs.headD 0 from by cases (fs[j]).xs <;> rfl] at hx0
            replace hx0 : W1.cell? ad = some (.int .i64 ((fs[j]).xs.headD 0)) := by simpa [Addr.add] using hx0
            have hx1 : wr.cell? ad = some (.int .i64 ((fs[j]).xs.headD 0)) := (HBL.out.cell (World.block_lt_of_cell? W1 _ hx0)).trans hx0
            have hcon := mg_contains w B O cap fs HN.out (fs[j]) hj0 (wr.alloc (.cells #[.slice (some ad) (fs[j]).xs.length c] 28)) wr.heap.size ((HW1'.out.below HBL.out).alloc _)
              (fun i hi => by
                obtain ⟨q1, _⟩ := HH2.out i (by simpa using hi)
                rw [show (fs.toArray)[i]! = fs[i] from by rw [getElem!_pos _ i (by simpa using hi)]; simp] at q1
                exact ((below_alloc (Below.refl _ wr) _).cell (World.block_lt_of_cell? wr _ q1)).trans q1)
              (by simp [HEL.out]) (Nat.le_trans HF.out (Nat.le_trans hle.out HL.out))
            have hany : (fs.any fun m => decide ((fs[j]).xs.headD 0 ∈ m.xs.drop 1)) = !(mgFree (fs.map Row.xs) ((fs[j]).xs.headD 0)) := by
              unfold mgFree
              rw [List.any_map, Bool.not_not]
              rfl
            rw [hany] at hcon
            have hl1 : decide ((0 : Int) < ((fs[j]).xs.length : Int)) = true := decide_eq_true (by omega)
            have hl2 : decide (0 < (fs[j]).xs.length) = true := decide_eq_true hj0
            clear hx0 hany
            by_cases hfr : mgFree (fs.map Row.xs) ((fs[j]).xs.headD 0) = true
            · rw [hfr] at hcon
              have HCON := Aside0.mk hcon
              have HFR := Aside0.mk hfr
              clear hcon hfr
              have HPK := Aside0.mk (mg_found fs j hlt HNO.out HFR.out)
              obtain ⟨hd, HHD⟩ : ∃ hd, Aside0 (hd = (fs[j]).xs.headD 0) := ⟨_, ⟨rfl⟩⟩
              rw [← HHD.out] at hx1
              have hb0 : Below W1.heap.size W1 (wr.alloc (.cells #[.slice (some ad) (fs[j]).xs.length c] 28)) := HBL.out.alloc HBL.out.size _
              have HX := Aside0.mk (show (wr.alloc (.cells #[.slice (some ad) (fs[j]).xs.length c] 28)).cell? ad = some (.int .i64 hd) from ((below_alloc (Below.refl _ wr) _).cell (World.block_lt_of_cell? wr _ hx1)).trans hx1)
              have HB0 := Aside0.mk hb0
              have hcg : (wr.alloc (.cells #[.slice (some ad) (fs[j]).xs.length c] 28)).cell? ⟨wr.heap.size, 0, none⟩ = some (.slice (some ad) (fs[j]).xs.length c) := by simp
              have HCG := Aside0.mk hcg
              clear hb0 hcg hx1
              have hk := HK2.out
              rw [HPK.out] at hk
              simp only [← HHD.out] at hk
              by_cases hneg : hd < 0
              · have hn1 : decide (hd < 0) = true := decide_eq_true hneg
                rw [if_pos hneg] at hk
                simp only [Option.some.injEq, Prod.mk.injEq] at hk
                obtain ⟨rfl, rfl⟩ := hk
                go_wp2_with (go_at_call 53; refine (HCON.out).mono ?_; rintro e w3 ⟨rfl, q2, hw3⟩; (have hx3 : w3.cell? ad = some (.int .i64 hd) := by rw [hw3]; exact HX.out); (have hc3 : w3.cell? ⟨wr.heap.size, 0, none⟩ = some (.slice (some ad) (fs[j]).xs.length c) := by rw [hw3]; exact HCG.out); have HB3 := Aside0.mk (show Below W1.heap.size W1 w3 from by rw [hw3]; exact HB0.out.trans (pw_below_drewN (Below.refl _ _) _)); clear hw3)
                go_ret2
                exact ⟨_, rfl, Kd.R_nil _ _ _ _ _, HW1'.out.below HB3.out⟩
              · have hn1 : decide (hd < 0) = false := decide_eq_false hneg
                rw [if_neg hneg] at hk
                by_cases hol : out.length < 1000000
                · rw [if_pos hol] at hk
                  have HK3 := Aside0.mk hk
                  have HOL := Aside0.mk hol
                  clear hk hol
                  go_wp2_with (first | (go_at_call 53; refine (HCON.out).mono ?_; rintro e w3 ⟨rfl, q2, hw3⟩; (have hx3 : w3.cell? ad = some (.int .i64 hd) := by rw [hw3]; exact HX.out); (have hc3 : w3.cell? ⟨wr.heap.size, 0, none⟩ = some (.slice (some ad) (fs[j]).xs.length c) := by rw [hw3]; exact HCG.out); have HB3 := Aside0.mk (show Below W1.heap.size W1 w3 from by rw [hw3]; exact HB0.out.trans (pw_below_drewN (Below.refl _ _) _)); clear hw3) | ((with_reducible refine gate_builtin (b := .append) (xs := #[.tmp 32, .tmp 34]) rfl ?_); at_builtin; refine Kd.R_append (Kd.int .i64) (w0 := w3) w.heap.size rfl (.tmp 32) (.tmp 34) 28 3 (.int .i64 0) 8 rfl Try.underlying28 info3 rfl (by decide) (by omega) u4 out hd [.int .i64 hd] (fun k_ => (w.heap.size ≤ k_)) (fun _ => False) rfl rfl ?aP (fun _ hk => hk.elim) ?aF ?aO ?aB ?aS ?aL ?_; (case aP => exact rfl); (case aF => exact fun k_ hk => Nat.le_trans (Nat.le_trans HSZ.out HB3.out.size) hk); (case aO => exact Kd.R_below HO1.out HB3.out); (case aB => exact Below.refl _ _); (case aS => exact Nat.le_trans HSZ.out HB3.out.size); (case aL => have := HOL.out; omega); intro v4 w4 ho hb hg hat; have HO4 := Aside0.mk ho; have HW4 := Aside0.mk (WK.grown (HW1'.out.below HB3.out) hg (fun k hk => Kd.R_base HO1.out k hk)); have HH4 := Aside0.mk (holds_of_at (holds_of_at HH1.out (HB3.out.block B HBW.out)) (hg.block B (Nat.lt_of_lt_of_le HBW.out HB3.out.size) (fun e => by have := Kd.R_base HO1.out B e.symm; have := HBs.out; omega))); clear ho hb hg hat hx3 hc3))
                  go_loopg [38] fs.length (fun gg s38 wr4 => ∃ (i : Nat) (ds : List (Row w B)), s38 = .int .i64 i ∧ Aside0 (i ≤ fs.length) ∧ Aside0 (fs.length - i ≤ gg) ∧ Aside0 (ds.length = fs.length) ∧ Aside0 (∀ m (h : m < ds.length) (h' : m < fs.length), m < i → (ds[m]).xs = if (fs[m]).xs.headD 0 = hd then (fs[m]).xs.drop 1 else (fs[m]).xs) ∧ Aside0 (∀ m (h : m < ds.length) (h' : m < fs.length), i ≤ m → ds[m] = fs[m]) ∧ Aside0 (WK B w wr4) ∧ Aside0 (Holds Row.enc wr4 B O ds.toArray) ∧ Aside0 (Kd.R (Kd.int .i64) 3 wr4 w.heap.size (fun k_ => w.heap.size ≤ k_) v4 (out ++ [hd])))
                  case atStart => exact ⟨0, fs, rfl, ⟨by omega⟩, ⟨by omega⟩, ⟨rfl⟩, ⟨fun m h h' hm => absurd hm (Nat.not_lt_zero _)⟩, ⟨fun m h h' hm => rfl⟩, HW4, HH4, HO4⟩
                  case round =>
                    obtain ⟨i, ds, rfl, hi, hg, hdl, hdn, hup, HW5, HH5, HO5⟩ := hrel
                    by_cases hit : i < fs.length
                    · have hitz : decide ((i : Int) < (fs.length : Int)) = true := decide_eq_true (by omega)
                      have hit2 : decide (i < fs.length) = true := decide_eq_true hit
                      have hid : i < ds.length := by have := hdl.out; omega
                      obtain ⟨hx, hfz⟩ := HH5.out i (by simpa using hid)
                      rw [show (ds.toArray)[i]! = fs[i] from by rw [getElem!_pos _ i (by simpa using hid)]; simpa using hup.out i hid hit (Nat.le_refl _)] at hx
                      obtain ⟨A, c, el, hlc, hlC⟩ := (fs[i]).slice
                      have hi0 : 0 < (fs[i]).xs.length := HN.out _ (List.getElem_mem hit)
                      obtain ⟨ad2, ea, hx0⟩ := Kd.at_int (hlC wr HW5.out) 0 (by omega) (by omega)
                      cases ea
                      rw [show rd (fs[i]).xs 0 = (fs[i]).xs.headD 0 from by cases (fs[i]).xs <;> rfl] at hx0
                      replace hx0 : wr.cell? ad2 = some (.int .i64 ((fs[i]).xs.headD 0)) := by simpa [Addr.add] using hx0
                      rw [el] at hx
                      have hl1 : decide ((0 : Int) < ((fs[i]).xs.length : Int)) = true := decide_eq_true (by omega)
                      have hl2 : decide (0 < (fs[i]).xs.length) = true := decide_eq_true hi0
                      by_cases heq : (fs[i]).xs.headD 0 = hd
                      · obtain ⟨i0, hin, _, hsz, _⟩ := info_parts info3
                        obtain ⟨A9, hcut9, hA9, hC9⟩ := print_drop_of (P := Try.prog) (Value.int .i64) 0 28 3 .i64 Try.underlying28 hin hsz (some ad2) c (fs[i]).xs 1 (by omega) (by omega) hlc
                        obtain ⟨nr, hn1, hn2⟩ : ∃ nr : Row w B, nr.enc = .slice A9 ((fs[i]).xs.length - 1) (c - 1) ∧ nr.xs = (fs[i]).xs.drop 1 := ⟨⟨(.slice A9 ((fs[i]).xs.drop 1).length (c - 1), (fs[i]).xs.drop 1), ⟨A9, c - 1, rfl, hC9, fun W hW => Kd.C_of_reads (h1 := fun _ => rfl) (hA9 _ (Kd.reads_of_C (hlC W hW)))⟩⟩, by show Value.slice A9 ((fs[i]).xs.drop 1).length (c - 1) = _; rw [List.length_drop], rfl⟩
                        have hset := mg_set ds wr B O i hid HH5.out nr
                        rw [hn1] at hset
                        have HSET := Aside0.mk hset
                        have HNX := Aside0.mk hn2
                        clear hset hn1 hn2
                        have HEQ := Aside0.mk heq
                        rw [heq] at hx0
                        clear hA9 hC9 hin hsz hlC el hlc heq
                        go_wp2
                        go_roundg (fs.length - (i + 1))
                        case measure => have := hg.out; omega
                        case rel =>
                          refine ⟨i + 1, ds.set i nr, by go_num, ⟨by omega⟩, ⟨Nat.le_refl _⟩, ⟨by rw [List.length_set]; exact hdl.out⟩, ⟨fun m h h' hm => ?_⟩, ⟨fun m h h' hm => ?_⟩, ⟨HW5.out.setCell (.inl rfl) _⟩, HSET, ⟨Kd.R_far HO5.out (fun k hk e => by have := HBs.out; have e' : k = B := e; omega) _⟩⟩
                          · rw [List.getElem_set]
                            by_cases q : i = m
                            · subst q
                              rw [if_pos rfl, if_pos HEQ.out]
                              exact HNX.out
                            · rw [if_neg q]
                              exact hdn.out m (by simpa using h) h' (by omega)
                          · rw [List.getElem_set, if_neg (by omega)]
                            exact hup.out m (by simpa using h) h' (by omega)
                      · have hq1 : (((fs[i]).xs.headD 0) == hd) = false := beq_eq_false_iff_ne.2 heq
                        have hq2 : decide (((fs[i]).xs.headD 0) = hd) = false := decide_eq_false heq
                        have HEQ := Aside0.mk heq
                        generalize (fs[i]).xs.headD 0 = hd2 at hx0 hq1 hq2
                        clear heq hlC el hlc hfz
                        go_wp2
                        go_roundg (fs.length - (i + 1))
                        case measure => have := hg.out; omega
                        case rel =>
                          exact ⟨i + 1, ds, by go_num, ⟨by omega⟩, ⟨Nat.le_refl _⟩, hdl, ⟨fun m h h' hm => by
                            rcases Nat.lt_or_ge m i with q | q
                            · exact hdn.out m h h' q
                            · obtain rfl : m = i := by omega
                              rw [if_neg HEQ.out, hup.out m h h' q]⟩, ⟨fun m h h' hm => hup.out m h h' (by omega)⟩, HW5, HH5, HO5⟩
                    · have hitz : decide ((i : Int) < (fs.length : Int)) = false := decide_eq_false (by omega)
                      have hit2 : decide (i < fs.length) = false := decide_eq_false hit
                      have HEND := Aside0.mk (show ds.map Row.xs = (fs.map Row.xs).map fun m => if m.headD 0 = hd then m.drop 1 else m from List.ext_getElem (by have := hdl.out; simp; omega) (fun m h1 h2 => by
                        simp only [List.getElem_map]
                        exact hdn.out m (by simpa using h1) (by simpa using h2) (by simp at h1; have := hdl.out; omega)))
                      go_wp2
                      go_roundg k1
                      case measure => omega
                      case rel =>
                        exact ⟨fs.length, out ++ [hd], ds, rfl, ⟨hdl.out.symm⟩, ⟨by rw [hdl.out]; exact Nat.le_trans HF.out hle.out⟩, HW5, HH5, ⟨Kd.R_mono HO5.out (fun _ _ => trivial)⟩, ⟨by rw [HEND.out]; exact HK3.out⟩⟩
                · rw [if_neg hol] at hk
                  exact absurd hk (by simp)
            · replace hfr : mgFree (fs.map Row.xs) ((fs[j]).xs.headD 0) = false := by simpa using hfr
              rw [hfr] at hcon
              have HCON := Aside0.mk hcon
              have HFR := Aside0.mk hfr
              clear hcon hfr
              go_wp2_with (go_at_call 53; refine (HCON.out).mono ?_; rintro e w' ⟨rfl, q2, rfl⟩)
              go_roundg (fs.length - (j + 1))
              case measure => have := hg.out; omega
              case rel => exact ⟨j + 1, by go_num, rfl, ⟨by omega⟩, ⟨Nat.le_refl _⟩, ⟨((HBL.out.alloc HBL.out.size _)).trans (pw_below_drewN (Below.refl _ _) _)⟩, ⟨fun i h h' => by
                rcases Nat.lt_or_ge i j with q | q
                · exact HNO.out i q h'
                · obtain rfl : i = j := by omega
                  exact HFR.out⟩⟩
          · have hltz : decide ((j : Int) < (fs.length : Int)) = false := decide_eq_false (by omega)
            have hlt2 : decide (j < fs.length) = false := decide_eq_false hlt
            have HNO2 := Aside0.mk (fun i (h' : i < fs.length) => HNO.out i (by omega) h')
            have hk := HK2.out
            rw [mg_none fs HNO2.out] at hk
            simp only [Option.some.injEq, Prod.mk.injEq] at hk
            obtain ⟨rfl, rfl⟩ := hk
            go_wp2
            go_ret2
            exact ⟨_, rfl, Kd.R_nil _ _ _ _ _, HW1'.out.below HBL.out⟩
theorem mg_row {w : World} {base g n cap : Nat} {ok : Nat → Prop} {l0 : List (List Int)} (hR : Kd.R (Kd.slice 3 (Kd.int .i64)) 28 w base ok (.slice (some ⟨g, 0, none⟩) n cap) l0) (j : Nat) (hj : j < l0.length) :
    ∃ r : Row w g, r.xs = l0[j] ∧ w.cell? ⟨g, 0 + j, none⟩ = some r.enc ∧ w.frozen? ⟨g, 0 + j, none⟩ = false := by
  obtain ⟨hn, _, _⟩ := Kd.R_reads' hR
  obtain ⟨c, _, hM, hc, hf⟩ := Kd.R_elem hR [] (j : Int) (by omega) (by omega)
  rw [Int.toNat_natCast, List.getD_eq_getElem?_getD, List.getElem?_eq_getElem hj, Option.getD_some] at hM
  obtain ⟨v, rfl, hv⟩ := hM
  have hc0 := hc 0 v rfl
  have hf0 := hf 0
  have e : (j : Int).toNat * (Kd.slice 3 (Kd.int .i64)).sz + 0 = 0 + j := by show (j : Int).toNat * 1 + 0 = 0 + j; omega
  rw [e] at hc0 hf0
  obtain ⟨A, c, rfl⟩ := Kd.R_slice hv
  refine ⟨⟨(.slice A l0[j].length c, l0[j]), A, c, rfl, ?_, fun W hW => ?_⟩, rfl, hc0, hf0⟩
  · exact (Kd.R_reads' hv).2.1
  · exact (Kd.R_reads' (Kd.R_step hv (fun k ho hk => hW.block k hk ho.2))).2.2
theorem mg_rows {w : World} {base g n cap : Nat} {ok : Nat → Prop} {l0 : List (List Int)} (hR : Kd.R (Kd.slice 3 (Kd.int .i64)) 28 w base ok (.slice (some ⟨g, 0, none⟩) n cap) l0) :
    ∃ es : List (Row w g), es.map Row.xs = l0 ∧ Holds Row.enc w g 0 es.toArray := by
  have H := fun j : Fin l0.length => mg_row hR j.1 j.2
  refine ⟨List.ofFn fun j => Classical.choose (H j), List.ext_getElem (by simp) (fun m h1 h2 => ?_), fun j hj => ?_⟩
  · rw [List.getElem_map, List.getElem_ofFn]
    exact (Classical.choose_spec (H ⟨m, h2⟩)).1
  · have hj' : j < l0.length := by simpa using hj
    rw [getElem!_pos _ j hj]
    have := (Classical.choose_spec (H ⟨j, hj'⟩)).2
    simpa using this
set_option maxHeartbeats 1000000 in
theorem impl_mergeOrders.calls (k : Nat) (A : Option Addr) (c : Nat) (l0 : List (List Int)) (r1 : List Int) (r2 : Bool) (base : Nat) (ok : Nat → Prop) (w : World) (hR : Kd.R (Kd.slice 3 (Kd.int .i64)) 28 w base ok (.slice A l0.length c) l0) (hp : 0 < l0.length) (h : impl_mergeOrders.f k l0 = some (r1, r2)) :
    Calls Try.prog 46 #[.slice A l0.length c] w fun e w' => ∃ v0_ : Value, e = .returned (.tuple #[v0_, .bool r2]) ∧ Kd.R (Kd.int .i64) 3 w' w.heap.size (fun _ => True) v0_ r1 ∧ Below base w w' := by
  obtain ⟨g, cap, e, hb, hlt, _⟩ := Kd.R_form hR hp
  injection e with e1 e2 e3
  subst e1
  subst e3
  obtain ⟨es, hes, hH⟩ := mg_rows hR
  have hl : es.length = l0.length := by rw [← hes]; simp
  obtain ⟨_, hcap, hC⟩ := Kd.R_reads' hR
  have := mg_walk k w g 0 c es hH (by omega) (by have := Kd.C_max hC; omega) hlt r1 r2 (by rw [hes]; exact h)
  rw [hl] at this
  exact this.mono fun e w' ⟨v0, h1, h2, h3⟩ => ⟨v0, h1, h2, (h3.toBelow (Nat.le_of_lt hlt)).mono hb⟩
theorem impl_mergeOrders.mono_l : ∀ k ls out, LeO (impl_mergeOrders.l0 k ls out) (impl_mergeOrders.l0 (k + 1) ls out)
  | 0, _, _ => fun r h => by simp [impl_mergeOrders.l0] at h
  | k + 1, ls, out => fun r h => by
    rw [impl_mergeOrders.l0] at h ⊢
    split at h
    · rename_i q
      rw [if_pos q]; exact h
    · rename_i q
      rw [if_neg q]
      cases hm : mgPick (ls.filter fun l => !decide (l.length = 0)) with
      | none => rw [hm] at h; exact h
      | some l =>
        rw [hm] at h
        simp only at h ⊢
        split at h
        · rename_i q2
          rw [if_pos q2]; exact h
        · rename_i q2
          rw [if_neg q2]
          split at h
          · rename_i q3
            rw [if_pos q3]
            exact impl_mergeOrders.mono_l k _ _ r h
          · cases h
theorem impl_mergeOrders.mono : ∀ a0 k, LeO (impl_mergeOrders.f k a0) (impl_mergeOrders.f (k + 1) a0) := fun a0 k => impl_mergeOrders.mono_l k a0 []
end

end Go.Proofs.Ytdlobdhpledbfaa.Q
