-- Printed by a program of this project's own, for this seat.
import Derived.Test.YthocdlaajncmpaaQ0
import Derived.Test.YthocdlaajncmpaaQ6
import Derived.Test.YthocdlaajncmpaaQ7
namespace Go.Proofs.Ythocdlaajncmpaa.Q
open Go.RowKit Go.Proofs.YthocdlaajncmpaaW.PrintWords Go.Proofs.YthocdlaajncmpaaW.PrintLast Go.Proofs.YthocdlaajncmpaaW.PrintMore
attribute [local go_sem] max2_int min2_int max_two min_two max_three min_three max_four min_four   -- for this text's walks alone
set_option linter.unusedVariables false
set_option linter.unusedSimpArgs false

/-! ### impl_Dict_find: function 18 -/
def impl_Dict_find.f (k : Nat) (l0_0 : List Int) (l0_1 : List (S38)) (a1 : ByteArray) : Option (Int) := (impl_Dict_probe.f k l0_0 l0_1 a1).bind fun t228 => (if 0 ≤ (wrap64 ((t228.length : Int) - 1)) then (if (wrap64 ((t228.length : Int) - 1)) < (t228.length : Int) then (if 0 ≤ (rd t228 (wrap64 ((t228.length : Int) - 1))) then (if (rd t228 (wrap64 ((t228.length : Int) - 1))) < (l0_0.length : Int) then (some (mx (rd l0_0 (rd t228 (wrap64 ((t228.length : Int) - 1)))) (-1))) else (none)) else (none)) else (none)) else (none))
theorem impl_Dict_find.mono : ∀ a0 a1 a2 k, LeO (impl_Dict_find.f k a0 a1 a2) (impl_Dict_find.f (k + 1) a0 a1 a2) := by
 intro a0 a1 a2 k
 unfold impl_Dict_find.f
 repeat' first
   | (with_reducible exact impl_Dict_probe.mono _ _ _ _)
   | (with_reducible exact LeO.refl _)
   | (with_reducible exact LeO.none _)
   | (with_reducible refine LeO.ite ?_ ?_)
   | (with_reducible refine LeO.bind ?_ (fun _ => ?_))
   | exact impl_Dict_probe.mono _ _ _ _
   | exact LeO.none _
   | refine LeO.ite ?_ ?_
   | refine LeO.bind ?_ (fun _ => ?_)
set_option maxHeartbeats 8000000 in
set_option maxRecDepth 100000 in
theorem impl_Dict_find.calls (k : Nat) (A0_0 : Option Addr) (c0_0 : Nat) (l0_0 : List Int) (A0_1 : Option Addr) (c0_1 : Nat) (l0_1 : List (S38)) (a1 : ByteArray) (r : Int) (w : World) (hr0_0 : Kd.C (Kd.int .i64) w A0_0 l0_0.length l0_0) (hc0_0 : l0_0.length ≤ c0_0) (hr0_1 : Kd.C k38 w A0_1 l0_1.length l0_1) (hc0_1 : l0_1.length ≤ c0_1) (h : impl_Dict_find.f k l0_0 l0_1 a1 = some r) :
  Calls Try.prog 18 #[.agg #[.slice A0_0 l0_0.length c0_0, .slice A0_1 l0_1.length c0_1], .string a1] w fun e w' => e = .returned (.int .i64 r) ∧ Below w.heap.size w w' := by
 have hu30 := Try.underlying30
 have HR0_0 := aM hr0_0
 have HC0_0 := aM hc0_0
 clear hr0_0 hc0_0
 have HR0_1 := aM hr0_1
 have HC0_1 := aM hc0_1
 clear hr0_1 hc0_1
 have HB := aM (Below.refl w.heap.size w)
 have H : ((impl_Dict_probe.f k l0_0 l0_1 a1).bind fun t228 => (if 0 ≤ (wrap64 ((t228.length : Int) - 1)) then (if (wrap64 ((t228.length : Int) - 1)) < (t228.length : Int) then (if 0 ≤ (rd t228 (wrap64 ((t228.length : Int) - 1))) then (if (rd t228 (wrap64 ((t228.length : Int) - 1))) < (l0_0.length : Int) then (some (mx (rd l0_0 (rd t228 (wrap64 ((t228.length : Int) - 1)))) (-1))) else (none)) else (none)) else (none)) else (none))) = some r := h
 clear h
 replace H := Option.bind_eq_some_iff.mp H
 obtain ⟨t228, A30, H⟩ := H
 replace H : (if 0 ≤ (wrap64 ((t228.length : Int) - 1)) then (if (wrap64 ((t228.length : Int) - 1)) < (t228.length : Int) then (if 0 ≤ (rd t228 (wrap64 ((t228.length : Int) - 1))) then (if (rd t228 (wrap64 ((t228.length : Int) - 1))) < (l0_0.length : Int) then (some (mx (rd l0_0 (rd t228 (wrap64 ((t228.length : Int) - 1)))) (-1))) else (none)) else (none)) else (none)) else (none)) = some r := H
 have A3 := aM A30
 clear A30
 obtain ⟨ji4, hji4⟩ : ∃ j_ : Int, (wrap64 ((t228.length : Int) - 1)) = j_ := ⟨_, rfl⟩
 replace H : (if 0 ≤ (ji4) then (if (ji4) < (t228.length : Int) then (if 0 ≤ (rd t228 (ji4)) then (if (rd t228 (ji4)) < (l0_0.length : Int) then (some (mx (rd l0_0 (rd t228 (ji4))) (-1))) else (none)) else (none)) else (none)) else (none)) = some r := by first | (rw [hji4] at H; exact H) | (simp only [hji4] at H ⊢; exact H)
 (try rw [hji4] at A3)
 have hji4w : (IntKind.i64.wrap ((t228.length : Int) - 1)) = ji4 := (i64_w _).trans hji4
 by_cases c5 : 0 ≤ (ji4)
 ·rw [if_pos c5] at H
  have c5b0 : decide (0 ≤ (ji4)) = true := decide_eq_true c5
  clear c5
  by_cases c6 : (ji4) < (t228.length : Int)
  ·rw [if_pos c6] at H
   have c6b0 : decide ((ji4) < (t228.length : Int)) = true := decide_eq_true c6
   clear c6
   by_cases c7 : 0 ≤ (rd t228 (ji4))
   ·rw [if_pos c7] at H
    have c7b0 : decide (0 ≤ (rd t228 (ji4))) = true := decide_eq_true c7
    clear c7
    by_cases c8 : (rd t228 (ji4)) < (l0_0.length : Int)
    ·rw [if_pos c8] at H
     have c8b0 : decide ((rd t228 (ji4)) < (l0_0.length : Int)) = true := decide_eq_true c8
     clear c8
     obtain ⟨ji9, hji9⟩ : ∃ j_ : Int, (mx (rd l0_0 (rd t228 (ji4))) (-1)) = j_ := ⟨_, rfl⟩
     replace H : (some ji9) = some r := by first | (rw [hji9] at H; exact H) | (simp only [hji9] at H ⊢; exact H)
     (try rw [hji9] at A3)
     have hji9_ : (if (rd l0_0 (rd t228 (ji4))) < (-1) then (-1) else (rd l0_0 (rd t228 (ji4)))) = ji9 := hji9
     obtain rfl := Option.some.inj H
     go_enter Try.func18, Try.ntmps18
     go_wp2_with (first | ((with_reducible refine gate_dst (N := 2) rfl ?_); refine box_event ?hg (N := 2) ?hd (cs := #[.slice A0_0 l0_0.length c0_0, .slice A0_1 l0_1.length c0_1]) (t := 30) ?hr ?_; (case hd => rfl); (case hg => rfl); (case hr => first | (go_simp; done) | (go_simp; rfl)); intro gb227 hg w10 hbox hb; have n0_ := aM (below_step (px_h0 HB.out) hb); have n1_ := aM (hbox); have n2_ := aM ((by rw [hg]; exact (below_size (px_h0 HB.out)) : w.heap.size ≤ gb227)); have n3_ := aM ((by rw [hg]; exact (below_size (px_h0 HB.out)) : w.heap.size ≤ gb227)); clear HB; have HB := n0_; have BK227 := n1_; have GW227 := n2_; have GE227 := n3_; clear n0_ n1_ n2_ n3_; clear hb hbox hg; have hcz11_0 : w10.cell? ⟨gb227, 0, none⟩ = some (.slice A0_0 l0_0.length c0_0) := (blk_cell BK227.out 0).trans rfl; have hcz11_1 : w10.cell? ⟨gb227, 1, none⟩ = some (.slice A0_1 l0_1.length c0_1) := (blk_cell BK227.out 1).trans rfl; have hfz11_0 := blk_frozen BK227.out 0; have hfz11_1 := blk_frozen BK227.out 1) | (go_at_call 31; (with_reducible refine (impl_Dict_probe.calls k _ _ l0_0 _ _ l0_1 a1 t228 _ ?side1 ?side2 ?side3 ?side4 A3.out).mono ?_); (case side1 => exact px_cV ((Kd.C_below HR0_0.out HB.out))); (case side2 => exact HC0_0.out); (case side3 => exact px_cV ((Kd.C_below HR0_1.out HB.out))); (case side4 => exact HC0_1.out); rintro e w12 ⟨v229, rfl, ho0, hb⟩; have n0_ := aM (Kd.R_lower ho0 (below_size (px_h1 HB.out GE227.out))); have n1_ := aM (blk_below (g := gb227) (o := .cells #[.slice A0_0 l0_0.length c0_0, .slice A0_1 l0_1.length c0_1] 30 (0, 0)) (px_bV BK227.out) hb); have n2_ := aM (below_step (px_h1 HB.out GE227.out) hb); clear BK227; clear HB; have HO230 := n0_; have BK227 := n1_; have HB := n2_; clear n0_ n1_ n2_; (try clear hb); (try clear hb2); (try clear hk); (try clear hi); (try clear ho0); have hcz13_0 : w12.cell? ⟨gb227, 0, none⟩ = some (.slice A0_0 l0_0.length c0_0) := (blk_cell BK227.out 0).trans rfl; have hcz13_1 : w12.cell? ⟨gb227, 1, none⟩ = some (.slice A0_1 l0_1.length c0_1) := (blk_cell BK227.out 1).trans rfl; have hfz13_0 := blk_frozen BK227.out 0; have hfz13_1 := blk_frozen BK227.out 1; obtain ⟨Ao14, co14, eo14⟩ := Kd.R_slice HO230.out; subst eo14; have p231 : 0 ≤ ((ji4) : Int) := px_od; have q231 : (ji4) < (t228.length : Int) := px_od; obtain ⟨ad231, e231, hx231_0⟩ := Kd.at_int (Kd.R_reads' HO230.out).2.2 (ji4) p231 q231; cases e231; replace p231 := eq_true p231; replace q231 := eq_true q231; have p232 : 0 ≤ ((rd t228 (ji4)) : Int) := px_od; have q232 : (rd t228 (ji4)) < (l0_0.length : Int) := px_od; obtain ⟨ad232, e232, hx232_0⟩ := Kd.at_int HR0_0.out (rd t228 (ji4)) p232 q232; cases e232; replace hx232_0 := px_hx HB.out hx232_0; replace p232 := eq_true p232; replace q232 := eq_true q232))
     repeat (go_quiet (first | ((with_reducible refine gate_dst (N := 2) rfl ?_); refine box_event ?hg (N := 2) ?hd (cs := #[.slice A0_0 l0_0.length c0_0, .slice A0_1 l0_1.length c0_1]) (t := 30) ?hr ?_; (case hd => rfl); (case hg => rfl); (case hr => first | (go_simp; done) | (go_simp; rfl)); intro gb227 hg w10 hbox hb; have n0_ := aM (below_step (px_h0 HB.out) hb); have n1_ := aM (hbox); have n2_ := aM ((by rw [hg]; exact (below_size (px_h0 HB.out)) : w.heap.size ≤ gb227)); have n3_ := aM ((by rw [hg]; exact (below_size (px_h0 HB.out)) : w.heap.size ≤ gb227)); clear HB; have HB := n0_; have BK227 := n1_; have GW227 := n2_; have GE227 := n3_; clear n0_ n1_ n2_ n3_; clear hb hbox hg; have hcz11_0 : w10.cell? ⟨gb227, 0, none⟩ = some (.slice A0_0 l0_0.length c0_0) := (blk_cell BK227.out 0).trans rfl; have hcz11_1 : w10.cell? ⟨gb227, 1, none⟩ = some (.slice A0_1 l0_1.length c0_1) := (blk_cell BK227.out 1).trans rfl; have hfz11_0 := blk_frozen BK227.out 0; have hfz11_1 := blk_frozen BK227.out 1) | (go_at_call 31; (with_reducible refine (impl_Dict_probe.calls k _ _ l0_0 _ _ l0_1 a1 t228 _ ?side1 ?side2 ?side3 ?side4 A3.out).mono ?_); (case side1 => exact px_cV ((Kd.C_below HR0_0.out HB.out))); (case side2 => exact HC0_0.out); (case side3 => exact px_cV ((Kd.C_below HR0_1.out HB.out))); (case side4 => exact HC0_1.out); rintro e w12 ⟨v229, rfl, ho0, hb⟩; have n0_ := aM (Kd.R_lower ho0 (below_size (px_h1 HB.out GE227.out))); have n1_ := aM (blk_below (g := gb227) (o := .cells #[.slice A0_0 l0_0.length c0_0, .slice A0_1 l0_1.length c0_1] 30 (0, 0)) (px_bV BK227.out) hb); have n2_ := aM (below_step (px_h1 HB.out GE227.out) hb); clear BK227; clear HB; have HO230 := n0_; have BK227 := n1_; have HB := n2_; clear n0_ n1_ n2_; (try clear hb); (try clear hb2); (try clear hk); (try clear hi); (try clear ho0); have hcz13_0 : w12.cell? ⟨gb227, 0, none⟩ = some (.slice A0_0 l0_0.length c0_0) := (blk_cell BK227.out 0).trans rfl; have hcz13_1 : w12.cell? ⟨gb227, 1, none⟩ = some (.slice A0_1 l0_1.length c0_1) := (blk_cell BK227.out 1).trans rfl; have hfz13_0 := blk_frozen BK227.out 0; have hfz13_1 := blk_frozen BK227.out 1; obtain ⟨Ao14, co14, eo14⟩ := Kd.R_slice HO230.out; subst eo14; have p231 : 0 ≤ ((ji4) : Int) := px_od; have q231 : (ji4) < (t228.length : Int) := px_od; obtain ⟨ad231, e231, hx231_0⟩ := Kd.at_int (Kd.R_reads' HO230.out).2.2 (ji4) p231 q231; cases e231; replace p231 := eq_true p231; replace q231 := eq_true q231; have p232 : 0 ≤ ((rd t228 (ji4)) : Int) := px_od; have q232 : (rd t228 (ji4)) < (l0_0.length : Int) := px_od; obtain ⟨ad232, e232, hx232_0⟩ := Kd.at_int HR0_0.out (rd t228 (ji4)) p232 q232; cases e232; replace hx232_0 := px_hx HB.out hx232_0; replace p232 := eq_true p232; replace q232 := eq_true q232)); try go_wp2_with (first | ((with_reducible refine gate_dst (N := 2) rfl ?_); refine box_event ?hg (N := 2) ?hd (cs := #[.slice A0_0 l0_0.length c0_0, .slice A0_1 l0_1.length c0_1]) (t := 30) ?hr ?_; (case hd => rfl); (case hg => rfl); (case hr => first | (go_simp; done) | (go_simp; rfl)); intro gb227 hg w10 hbox hb; have n0_ := aM (below_step (px_h0 HB.out) hb); have n1_ := aM (hbox); have n2_ := aM ((by rw [hg]; exact (below_size (px_h0 HB.out)) : w.heap.size ≤ gb227)); have n3_ := aM ((by rw [hg]; exact (below_size (px_h0 HB.out)) : w.heap.size ≤ gb227)); clear HB; have HB := n0_; have BK227 := n1_; have GW227 := n2_; have GE227 := n3_; clear n0_ n1_ n2_ n3_; clear hb hbox hg; have hcz11_0 : w10.cell? ⟨gb227, 0, none⟩ = some (.slice A0_0 l0_0.length c0_0) := (blk_cell BK227.out 0).trans rfl; have hcz11_1 : w10.cell? ⟨gb227, 1, none⟩ = some (.slice A0_1 l0_1.length c0_1) := (blk_cell BK227.out 1).trans rfl; have hfz11_0 := blk_frozen BK227.out 0; have hfz11_1 := blk_frozen BK227.out 1) | (go_at_call 31; (with_reducible refine (impl_Dict_probe.calls k _ _ l0_0 _ _ l0_1 a1 t228 _ ?side1 ?side2 ?side3 ?side4 A3.out).mono ?_); (case side1 => exact px_cV ((Kd.C_below HR0_0.out HB.out))); (case side2 => exact HC0_0.out); (case side3 => exact px_cV ((Kd.C_below HR0_1.out HB.out))); (case side4 => exact HC0_1.out); rintro e w12 ⟨v229, rfl, ho0, hb⟩; have n0_ := aM (Kd.R_lower ho0 (below_size (px_h1 HB.out GE227.out))); have n1_ := aM (blk_below (g := gb227) (o := .cells #[.slice A0_0 l0_0.length c0_0, .slice A0_1 l0_1.length c0_1] 30 (0, 0)) (px_bV BK227.out) hb); have n2_ := aM (below_step (px_h1 HB.out GE227.out) hb); clear BK227; clear HB; have HO230 := n0_; have BK227 := n1_; have HB := n2_; clear n0_ n1_ n2_; (try clear hb); (try clear hb2); (try clear hk); (try clear hi); (try clear ho0); have hcz13_0 : w12.cell? ⟨gb227, 0, none⟩ = some (.slice A0_0 l0_0.length c0_0) := (blk_cell BK227.out 0).trans rfl; have hcz13_1 : w12.cell? ⟨gb227, 1, none⟩ = some (.slice A0_1 l0_1.length c0_1) := (blk_cell BK227.out 1).trans rfl; have hfz13_0 := blk_frozen BK227.out 0; have hfz13_1 := blk_frozen BK227.out 1; obtain ⟨Ao14, co14, eo14⟩ := Kd.R_slice HO230.out; subst eo14; have p231 : 0 ≤ ((ji4) : Int) := px_od; have q231 : (ji4) < (t228.length : Int) := px_od; obtain ⟨ad231, e231, hx231_0⟩ := Kd.at_int (Kd.R_reads' HO230.out).2.2 (ji4) p231 q231; cases e231; replace p231 := eq_true p231; replace q231 := eq_true q231; have p232 : 0 ≤ ((rd t228 (ji4)) : Int) := px_od; have q232 : (rd t228 (ji4)) < (l0_0.length : Int) := px_od; obtain ⟨ad232, e232, hx232_0⟩ := Kd.at_int HR0_0.out (rd t228 (ji4)) p232 q232; cases e232; replace hx232_0 := px_hx HB.out hx232_0; replace p232 := eq_true p232; replace q232 := eq_true q232)))
     go_ret
     exact ⟨by first | rfl | (simp [errW_none, errW_some] <;> rfl) | (simp only [← hji4, ← hji9]; first | rfl | (simp [errW_none, errW_some] <;> rfl)) | (simp [*, errW_none, errW_some] <;> rfl), px_h1 HB.out GE227.out⟩
    ·rw [if_neg c8] at H
     exact absurd H (by simp)
   ·rw [if_neg c7] at H
    exact absurd H (by simp)
  ·rw [if_neg c6] at H
   exact absurd H (by simp)
 ·rw [if_neg c5] at H
  exact absurd H (by simp)

/-! ### impl_DictSame: function 7 -/
mutual
def impl_DictSame.j0 : Nat → Bool → List Int → List (S38) → List Int → List (S38) → Option (Bool)
 | 0, _, _, _, _, _ => none
 | k + 1, x22, x234000, x234001, x235000, x235001 => if x22 = true then (some false) else (impl_DictSame.l0 k x234001 (x234001.length : Int) 0 x235000 x235001)
def impl_DictSame.l0 : Nat → List (S38) → Int → Int → List Int → List (S38) → Option (Bool)
 | 0, _, _, _, _, _ => none
 | k + 1, x24, x25, x26, x235000, x235001 => if x26 < x25 then (if 0 ≤ x26 then (if x26 < (x24.length : Int) then (if ((rd_T38 x24 x26).f3 = true) then ((impl_Dict_find.f k x235000 x235001 ((rd_T38 x24 x26).f0)).bind fun t241 => (if t241 < 0 then (some false) else (if 0 ≤ t241 then (if t241 < (x235001.length : Int) then (if ((rd_T38 x235001 t241).f2) = ((rd_T38 x24 x26).f2) then (impl_DictSame.l0 k x24 x25 (wrap64 (x26 + 1)) x235000 x235001) else (some false)) else (none)) else (none)))) else (impl_DictSame.l0 k x24 x25 (wrap64 (x26 + 1)) x235000 x235001)) else (none)) else (none)) else (some true)
end
def impl_DictSame.f (k : Nat) (l0_0 : List Int) (l0_1 : List (S38)) (l1_0 : List Int) (l1_1 : List (S38)) : Option (Bool) := (impl_DictOk.f k l0_0 l0_1).bind fun t235 => (if t235 = true then ((impl_DictOk.f k l1_0 l1_1).bind fun t236 => (if t236 = true then ((impl_Dict_live.f k l0_0 l0_1).bind fun t237 => ((impl_Dict_live.f k l1_0 l1_1).bind fun t238 => (impl_DictSame.j0 k (t237 != t238) l0_0 l0_1 l1_0 l1_1))) else (impl_DictSame.j0 k true l0_0 l0_1 l1_0 l1_1))) else (impl_DictSame.j0 k true l0_0 l0_1 l1_0 l1_1))
theorem impl_DictSame.mono_l : ∀ k, (∀ y0 y1 y2 y3 y4, LeO (impl_DictSame.j0 k y0 y1 y2 y3 y4) (impl_DictSame.j0 (k + 1) y0 y1 y2 y3 y4)) ∧ (∀ y0 y1 y2 y3 y4, LeO (impl_DictSame.l0 k y0 y1 y2 y3 y4) (impl_DictSame.l0 (k + 1) y0 y1 y2 y3 y4))
 | 0 => ⟨fun _ _ _ _ _ r h => by simp [impl_DictSame.j0] at h, fun _ _ _ _ _ r h => by simp [impl_DictSame.l0] at h⟩
 | k + 1 => by
  obtain ⟨ih0, ih1⟩ := impl_DictSame.mono_l k
  refine ⟨?_, ?_⟩
  ·intro y0 y1 y2 y3 y4
   unfold impl_DictSame.j0
   repeat' first
   | (with_reducible exact ih0 _ _ _ _ _)
   | (with_reducible exact ih1 _ _ _ _ _)
   | (with_reducible exact impl_DictOk.mono _ _ _)
   | (with_reducible exact impl_Dict_find.mono _ _ _ _)
   | (with_reducible exact impl_Dict_live.mono _ _ _)
   | (with_reducible exact LeO.refl _)
   | (with_reducible exact LeO.none _)
   | (with_reducible refine LeO.ite ?_ ?_)
   | (with_reducible refine LeO.bind ?_ (fun _ => ?_))
   | exact ih0 _ _ _ _ _
   | exact ih1 _ _ _ _ _
   | exact impl_DictOk.mono _ _ _
   | exact impl_Dict_find.mono _ _ _ _
   | exact impl_Dict_live.mono _ _ _
   | exact LeO.none _
   | refine LeO.ite ?_ ?_
   | refine LeO.bind ?_ (fun _ => ?_)
  ·intro y0 y1 y2 y3 y4
   unfold impl_DictSame.l0
   repeat' first
   | (with_reducible exact ih0 _ _ _ _ _)
   | (with_reducible exact ih1 _ _ _ _ _)
   | (with_reducible exact impl_DictOk.mono _ _ _)
   | (with_reducible exact impl_Dict_find.mono _ _ _ _)
   | (with_reducible exact impl_Dict_live.mono _ _ _)
   | (with_reducible exact LeO.refl _)
   | (with_reducible exact LeO.none _)
   | (with_reducible refine LeO.ite ?_ ?_)
   | (with_reducible refine LeO.bind ?_ (fun _ => ?_))
   | exact ih0 _ _ _ _ _
   | exact ih1 _ _ _ _ _
   | exact impl_DictOk.mono _ _ _
   | exact impl_Dict_find.mono _ _ _ _
   | exact impl_Dict_live.mono _ _ _
   | exact LeO.none _
   | refine LeO.ite ?_ ?_
   | refine LeO.bind ?_ (fun _ => ?_)
theorem impl_DictSame.mono : ∀ a0 a1 a2 a3 k, LeO (impl_DictSame.f k a0 a1 a2 a3) (impl_DictSame.f (k + 1) a0 a1 a2 a3) := by
 intro a0 a1 a2 a3 k
 obtain ⟨ih0, ih1⟩ := impl_DictSame.mono_l k
 unfold impl_DictSame.f
 repeat' first
   | (with_reducible exact ih0 _ _ _ _ _)
   | (with_reducible exact ih1 _ _ _ _ _)
   | (with_reducible exact impl_DictOk.mono _ _ _)
   | (with_reducible exact impl_Dict_find.mono _ _ _ _)
   | (with_reducible exact impl_Dict_live.mono _ _ _)
   | (with_reducible exact LeO.refl _)
   | (with_reducible exact LeO.none _)
   | (with_reducible refine LeO.ite ?_ ?_)
   | (with_reducible refine LeO.bind ?_ (fun _ => ?_))
   | exact ih0 _ _ _ _ _
   | exact ih1 _ _ _ _ _
   | exact impl_DictOk.mono _ _ _
   | exact impl_Dict_find.mono _ _ _ _
   | exact impl_Dict_live.mono _ _ _
   | exact LeO.none _
   | refine LeO.ite ?_ ?_
   | refine LeO.bind ?_ (fun _ => ?_)
def impl_DictSame.T1 : Bool × List (List Nat × List Nat) := (true, [([], []), ([0], [0]), ([1], [1]), ([2, 1], [2]), ([3], [3]), ([4, 3, 3], [3, 4]), ([5, 3], [3, 5]), ([3, 6], [3, 6]), ([7, 5], [7]), ([8], [8]), ([9, 8, 8], [8, 9]), ([8], [8]), ([11, 10, 8], [8, 11]), ([10, 12, 8], [8, 10, 12]), ([8, 13], [8, 13])])
def impl_DictSame.B1 : List Nat := [0, 1, 3, 7, 15, 31, 63, 127, 255, 511, 1023, 511, 4095, 8191, 16383]
theorem impl_DictSame.tab1 : rtab .any (opsOf Try.f7 1) = impl_DictSame.T1 := by kernel_rfl
theorem impl_DictSame.bits1 : waitsOk impl_DictSame.T1.2 impl_DictSame.B1 = true := by kernel_rfl
def impl_DictSame.T8 : Bool × List (List Nat × List Nat) := (true, [([], []), ([0], [0]), ([1], [1]), ([2], [2]), ([3, 2], [2, 3]), ([2], [2]), ([4, 5, 2], [2, 4, 5]), ([6, 2], [2, 6]), ([7, 2], [2, 7]), ([2], [2]), ([9, 2], [2, 9]), ([8, 10, 2], [2, 8, 10]), ([2, 11], [2, 11])])
def impl_DictSame.B8 : List Nat := [0, 1, 3, 7, 15, 7, 63, 127, 255, 7, 519, 2047, 4095]
theorem impl_DictSame.tab8 : rtab .any (opsOf Try.f7 8) = impl_DictSame.T8 := by kernel_rfl
theorem impl_DictSame.bits8 : waitsOk impl_DictSame.T8.2 impl_DictSame.B8 = true := by kernel_rfl
set_option maxHeartbeats 8000000 in
set_option maxRecDepth 100000 in
theorem impl_DictSame.calls (k : Nat) (A0_0 : Option Addr) (c0_0 : Nat) (l0_0 : List Int) (A0_1 : Option Addr) (c0_1 : Nat) (l0_1 : List (S38)) (A1_0 : Option Addr) (c1_0 : Nat) (l1_0 : List Int) (A1_1 : Option Addr) (c1_1 : Nat) (l1_1 : List (S38)) (r : Bool) (w : World) (hr0_0 : Kd.C (Kd.int .i64) w A0_0 l0_0.length l0_0) (hc0_0 : l0_0.length ≤ c0_0) (hr0_1 : Kd.C k38 w A0_1 l0_1.length l0_1) (hc0_1 : l0_1.length ≤ c0_1) (hr1_0 : Kd.C (Kd.int .i64) w A1_0 l1_0.length l1_0) (hc1_0 : l1_0.length ≤ c1_0) (hr1_1 : Kd.C k38 w A1_1 l1_1.length l1_1) (hc1_1 : l1_1.length ≤ c1_1) (h : impl_DictSame.f k l0_0 l0_1 l1_0 l1_1 = some r) :
  Calls Try.prog 7 #[.agg #[.slice A0_0 l0_0.length c0_0, .slice A0_1 l0_1.length c0_1], .agg #[.slice A1_0 l1_0.length c1_0, .slice A1_1 l1_1.length c1_1]] w fun e w' => e = .returned (.bool r) ∧ Below w.heap.size w w' := by
 have hu30 := Try.underlying30
 have hu38 := Try.underlying38
 have HR0_0 := aM hr0_0
 have HC0_0 := aM hc0_0
 clear hr0_0 hc0_0
 have HR0_1 := aM hr0_1
 have HC0_1 := aM hc0_1
 clear hr0_1 hc0_1
 have HR1_0 := aM hr1_0
 have HC1_0 := aM hc1_0
 clear hr1_0 hc1_0
 have HR1_1 := aM hr1_1
 have HC1_1 := aM hc1_1
 clear hr1_1 hc1_1
 have HB := aM (Below.refl w.heap.size w)
 have H : ((impl_DictOk.f k l0_0 l0_1).bind fun t235 => (if t235 = true then ((impl_DictOk.f k l1_0 l1_1).bind fun t236 => (if t236 = true then ((impl_Dict_live.f k l0_0 l0_1).bind fun t237 => ((impl_Dict_live.f k l1_0 l1_1).bind fun t238 => (impl_DictSame.j0 k (t237 != t238) l0_0 l0_1 l1_0 l1_1))) else (impl_DictSame.j0 k true l0_0 l0_1 l1_0 l1_1))) else (impl_DictSame.j0 k true l0_0 l0_1 l1_0 l1_1))) = some r := h
 clear h
 have HC3 := aM H
 clear H
 go_enter Try.func7, Try.ntmps7
 go_upto_region 1 with (first | ((with_reducible refine gate_dst (N := 2) rfl ?_); refine box_event ?hg (N := 2) ?hd (cs := #[.slice A0_0 l0_0.length c0_0, .slice A0_1 l0_1.length c0_1]) (t := 30) ?hr ?_; (case hd => rfl); (case hg => rfl); (case hr => first | (go_simp; done) | (go_simp; rfl)); intro gb233 hg w4 hbox hb; have n0_ := aM (below_step (px_h0 HB.out) hb); have n1_ := aM (hbox); have n2_ := aM ((by rw [hg]; exact (below_size (px_h0 HB.out)) : w.heap.size ≤ gb233)); have n3_ := aM ((by rw [hg]; exact (below_size (px_h0 HB.out)) : w.heap.size ≤ gb233)); clear HB; have HB := n0_; have BK233 := n1_; have GW233 := n2_; have GE233 := n3_; clear n0_ n1_ n2_ n3_; clear hb hbox hg) | ((with_reducible refine gate_dst (N := 3) rfl ?_); refine box_event ?hg (N := 3) ?hd (cs := #[.slice A1_0 l1_0.length c1_0, .slice A1_1 l1_1.length c1_1]) (t := 30) ?hr ?_; (case hd => rfl); (case hg => rfl); (case hr => first | (go_simp; done) | (go_simp; rfl)); intro gb234 hg w5 hbox hb; have n0_ := aM (blk_below (g := gb233) (o := .cells #[.slice A0_0 l0_0.length c0_0, .slice A0_1 l0_1.length c0_1] 30 (0, 0)) (px_bV BK233.out) hb); have n1_ := aM (below_step (px_h1 HB.out GE233.out) hb); have n2_ := aM (hbox); have n3_ := aM ((by rw [hg]; exact (below_size (px_h1 HB.out GE233.out)) : w.heap.size ≤ gb234)); have n4_ := aM ((by rw [hg]; exact (below_size (px_h1 HB.out GE233.out)) : w.heap.size ≤ gb234)); have n5_ := aM ((by rw [hg]; exact Nat.ne_of_lt (blk_lt (g := gb233) (o := .cells #[.slice A0_0 l0_0.length c0_0, .slice A0_1 l0_1.length c0_1] 30 (0, 0)) (px_bV BK233.out)) : gb233 ≠ gb234)); have n6_ := aM ((by rw [hg]; exact Nat.ne_of_gt (blk_lt (g := gb233) (o := .cells #[.slice A0_0 l0_0.length c0_0, .slice A0_1 l0_1.length c0_1] 30 (0, 0)) (px_bV BK233.out)) : gb234 ≠ gb233)); clear BK233; clear HB; have BK233 := n0_; have HB := n1_; have BK234 := n2_; have GW234 := n3_; have GE234 := n4_; have NB233_234 := n5_; have NB234_233 := n6_; clear n0_ n1_ n2_ n3_ n4_ n5_ n6_; clear hb hbox hg))
 (try simp only [Act.put, List.setIfInBounds_toArray, List.set_cons_zero, List.set_cons_succ])
 go_cut [22] (fun v22 wc => ∃ (kq : Nat) (x22_2 : Bool), v22 = .bool x22_2 ∧ Aside0 (impl_DictSame.j0 kq x22_2 l0_0 l0_1 l1_0 l1_1 = some r) ∧ Aside0 (kq ≤ k) ∧ Aside0 (wc.heap[gb233]? = some (.cells #[(.slice A0_0 l0_0.length c0_0), (.slice A0_1 l0_1.length c0_1)] 30 (0, 0))) ∧ Aside0 (wc.heap[gb234]? = some (.cells #[(.slice A1_0 l1_0.length c1_0), (.slice A1_1 l1_1.length c1_1)] 30 (0, 0))) ∧ Aside0 (Below w.heap.size w wc))
 case first =>
  have H := HC3.out
  clear HC3
  replace H := Option.bind_eq_some_iff.mp H
  obtain ⟨t235, A60, H⟩ := H
  replace H : (if t235 = true then ((impl_DictOk.f k l1_0 l1_1).bind fun t236 => (if t236 = true then ((impl_Dict_live.f k l0_0 l0_1).bind fun t237 => ((impl_Dict_live.f k l1_0 l1_1).bind fun t238 => (impl_DictSame.j0 k (t237 != t238) l0_0 l0_1 l1_0 l1_1))) else (impl_DictSame.j0 k true l0_0 l0_1 l1_0 l1_1))) else (impl_DictSame.j0 k true l0_0 l0_1 l1_0 l1_1)) = some r := H
  have A6 := aM A60
  clear A60
  by_cases c7 : t235 = true
  ·subst c7
   have H1 : ((impl_DictOk.f k l1_0 l1_1).bind fun t236 => (if t236 = true then ((impl_Dict_live.f k l0_0 l0_1).bind fun t237 => ((impl_Dict_live.f k l1_0 l1_1).bind fun t238 => (impl_DictSame.j0 k (t237 != t238) l0_0 l0_1 l1_0 l1_1))) else (impl_DictSame.j0 k true l0_0 l0_1 l1_0 l1_1))) = some r := by rw [if_pos rfl] at H; exact H
   clear H
   have H := H1
   clear H1
   replace H := Option.bind_eq_some_iff.mp H
   obtain ⟨t236, A80, H⟩ := H
   replace H : (if t236 = true then ((impl_Dict_live.f k l0_0 l0_1).bind fun t237 => ((impl_Dict_live.f k l1_0 l1_1).bind fun t238 => (impl_DictSame.j0 k (t237 != t238) l0_0 l0_1 l1_0 l1_1))) else (impl_DictSame.j0 k true l0_0 l0_1 l1_0 l1_1)) = some r := H
   have A8 := aM A80
   clear A80
   by_cases c9 : t236 = true
   ·subst c9
    have H1 : ((impl_Dict_live.f k l0_0 l0_1).bind fun t237 => ((impl_Dict_live.f k l1_0 l1_1).bind fun t238 => (impl_DictSame.j0 k (t237 != t238) l0_0 l0_1 l1_0 l1_1))) = some r := by rw [if_pos rfl] at H; exact H
    clear H
    have H := H1
    clear H1
    replace H := Option.bind_eq_some_iff.mp H
    obtain ⟨t237, A100, H⟩ := H
    replace H : ((impl_Dict_live.f k l1_0 l1_1).bind fun t238 => (impl_DictSame.j0 k (t237 != t238) l0_0 l0_1 l1_0 l1_1)) = some r := H
    have A10 := aM A100
    clear A100
    replace H := Option.bind_eq_some_iff.mp H
    obtain ⟨t238, A110, H⟩ := H
    replace H : (impl_DictSame.j0 k (t237 != t238) l0_0 l0_1 l1_0 l1_1) = some r := H
    have A11 := aM A110
    clear A110
    have H' := aM H
    clear H
    try go_wp2
    have n0_ := aM (blk_drew BK233.out)
    have n1_ := aM (blk_drew BK234.out)
    have n2_ := aM (below_drew1 HB.out)
    clear BK233
    clear BK234
    clear HB
    have BK233 := n0_
    have BK234 := n1_
    have HB := n2_
    clear n0_ n1_ n2_
    refine start_ (n := 15) (S := fun w' => w'.cell? ⟨gb233, 0, none⟩ = some (.slice A0_0 l0_0.length c0_0) ∧ w'.cell? ⟨gb233, 1, none⟩ = some (.slice A0_1 l0_1.length c0_1) ∧ w'.cell? ⟨gb234, 0, none⟩ = some (.slice A1_0 l1_0.length c1_0) ∧ w'.cell? ⟨gb234, 1, none⟩ = some (.slice A1_1 l1_1.length c1_1)) (ds := []) (px_l 0 15) (by kernel_rfl) rfl rfl ⟨(blk_cell BK233.out 0).trans rfl, (blk_cell BK233.out 1).trans rfl, (blk_cell BK234.out 0).trans rfl, (blk_cell BK234.out 1).trans rfl⟩ (fun hHeld => ?_); refine with_tabW impl_DictSame.tab1 impl_DictSame.bits1 (fun HT_ HW_ => ?_)
    generalize w5.drew = w12 at BK233 BK234 HB hHeld ⊢
    refine take_ (i := 0) (N := some 8) (v := ?_) (a' := ?_) (px_l 1 14) rfl rfl (take_ofW HT_.out HW_.out (by kernel_rfl)) (fun _ _ _ h => h) (Or.inl ⟨by rfl, ?_⟩) hHeld ?_ ?_
    rotate_left
    ·rintro w' ⟨s0, s1, s2, s3⟩
     go_simp
     with_reducible rfl
    rotate_left
    ·simp only [px_q]
     rfl
    refine one_ (i := 1) (N := some 9) (px_l 2 13) rfl rfl (one_of HT_.out (by kernel_rfl)) (by decide) (fun K hK => ?_)
    refine goes_ Try.func16 (by kernel_rfl) rfl #[.agg #[.slice A0_0 l0_0.length c0_0, .slice A0_1 l0_1.length c0_1]] (by rfl) rfl rfl px_dn ?_
    with_reducible refine (impl_DictOk.calls k _ _ l0_0 _ _ l0_1 true _ ?side1 ?side2 ?side3 ?side4 A6.out).mono ?_
    (case side1 => exact px_cV ((Kd.C_below HR0_0.out HB.out)))
    (case side2 => exact HC0_0.out)
    (case side3 => exact px_cV ((Kd.C_below HR0_1.out HB.out)))
    (case side4 => exact HC0_1.out)
    rintro e w13 ⟨rfl, hb⟩
    refine ⟨_, rfl, ?_⟩
    have n0_ := aM (blk_below (g := gb233) (o := .cells #[.slice A0_0 l0_0.length c0_0, .slice A0_1 l0_1.length c0_1] 30 (0, 0)) (px_bV BK233.out) hb)
    have n1_ := aM (blk_below (g := gb234) (o := .cells #[.slice A1_0 l1_0.length c1_0, .slice A1_1 l1_1.length c1_1] 30 (0, 0)) (px_bV BK234.out) hb)
    have n2_ := aM (below_step (px_h2 HB.out GE233.out GE234.out) hb)
    clear BK233
    clear BK234
    clear HB
    have BK233 := n0_
    have BK234 := n1_
    have HB := n2_
    clear n0_ n1_ n2_
    (try clear hb)
    (try clear hb2)
    (try clear hk)
    (try clear hi)
    refine hK.out _ _ ⟨(blk_cell BK233.out 0).trans rfl, (blk_cell BK233.out 1).trans rfl, (blk_cell BK234.out 0).trans rfl, (blk_cell BK234.out 1).trans rfl⟩ (fun hHeld => ?_)
    clear hK K
    refine norm_ (a' := ?_) ?_ ?_
    rotate_left
    ·show Act.put _ (some 9) _ = _
     simp only [px_q]
     rfl
    refine pure_ (i := 2) (N := some 10) (v := ?_) (a' := ?_) (px_l 3 12) rfl rfl (any_of HT_.out (by kernel_rfl)) (fun _ _ _ h => h) (Or.inl ⟨by rfl, ?_⟩) ?_ ?_
    rotate_left
    ·intro w'
     go_simp
     with_reducible rfl
    rotate_left
    ·simp only [px_q]
     rfl
    refine pure_ (i := 3) (N := some 11) (v := ?_) (a' := ?_) (px_l 4 11) rfl rfl (any_of HT_.out (by kernel_rfl)) (fun _ _ _ h => h) (Or.inl ⟨by rfl, ?_⟩) ?_ ?_
    rotate_left
    ·intro w'
     go_simp
     with_reducible rfl
    rotate_left
    ·simp only [px_q]
     rfl
    refine take_ (i := 4) (N := some 12) (v := ?_) (a' := ?_) (px_l 5 10) rfl rfl (take_ofW HT_.out HW_.out (by kernel_rfl)) (fun _ _ _ h => h) (Or.inl ⟨by rfl, ?_⟩) hHeld ?_ ?_
    rotate_left
    ·rintro w' ⟨s0, s1, s2, s3⟩
     go_simp
     with_reducible rfl
    rotate_left
    ·simp only [px_q]
     rfl
    refine one_ (i := 5) (N := some 13) (px_l 6 9) rfl rfl (one_of HT_.out (by kernel_rfl)) (by decide) (fun K hK => ?_)
    refine goes_ Try.func16 (by kernel_rfl) rfl #[.agg #[.slice A1_0 l1_0.length c1_0, .slice A1_1 l1_1.length c1_1]] (by rfl) rfl rfl px_dn ?_
    with_reducible refine (impl_DictOk.calls k _ _ l1_0 _ _ l1_1 true _ ?side1 ?side2 ?side3 ?side4 A8.out).mono ?_
    (case side1 => exact px_cV ((Kd.C_below HR1_0.out HB.out)))
    (case side2 => exact HC1_0.out)
    (case side3 => exact px_cV ((Kd.C_below HR1_1.out HB.out)))
    (case side4 => exact HC1_1.out)
    rintro e w14 ⟨rfl, hb⟩
    refine ⟨_, rfl, ?_⟩
    have n0_ := aM (blk_below (g := gb233) (o := .cells #[.slice A0_0 l0_0.length c0_0, .slice A0_1 l0_1.length c0_1] 30 (0, 0)) (px_bV BK233.out) hb)
    have n1_ := aM (blk_below (g := gb234) (o := .cells #[.slice A1_0 l1_0.length c1_0, .slice A1_1 l1_1.length c1_1] 30 (0, 0)) (px_bV BK234.out) hb)
    have n2_ := aM (below_step (px_h2 HB.out GE233.out GE234.out) hb)
    clear BK233
    clear BK234
    clear HB
    have BK233 := n0_
    have BK234 := n1_
    have HB := n2_
    clear n0_ n1_ n2_
    (try clear hb)
    (try clear hb2)
    (try clear hk)
    (try clear hi)
    refine hK.out _ _ ⟨(blk_cell BK233.out 0).trans rfl, (blk_cell BK233.out 1).trans rfl, (blk_cell BK234.out 0).trans rfl, (blk_cell BK234.out 1).trans rfl⟩ (fun hHeld => ?_)
    clear hK K
    refine norm_ (a' := ?_) ?_ ?_
    rotate_left
    ·show Act.put _ (some 13) _ = _
     simp only [px_q]
     rfl
    refine pure_ (i := 6) (N := some 14) (v := ?_) (a' := ?_) (px_l 7 8) rfl rfl (any_of HT_.out (by kernel_rfl)) (fun _ _ _ h => h) (Or.inl ⟨by rfl, ?_⟩) ?_ ?_
    rotate_left
    ·intro w'
     go_simp
     with_reducible rfl
    rotate_left
    ·simp only [px_q]
     rfl
    refine pure_ (i := 7) (N := some 15) (v := ?_) (a' := ?_) (px_l 8 7) rfl rfl (any_of HT_.out (by kernel_rfl)) (fun _ _ _ h => h) (Or.inl ⟨by rfl, ?_⟩) ?_ ?_
    rotate_left
    ·intro w'
     go_simp
     with_reducible rfl
    rotate_left
    ·simp only [px_q]
     rfl
    refine pure_ (i := 8) (N := some 16) (v := ?_) (a' := ?_) (px_l 9 6) rfl rfl (any_of HT_.out (by kernel_rfl)) (fun _ _ _ h => h) (Or.inl ⟨by rfl, ?_⟩) ?_ ?_
    rotate_left
    ·intro w'
     go_simp
     with_reducible rfl
    rotate_left
    ·simp only [px_q]
     rfl
    refine take_ (i := 9) (N := some 17) (v := ?_) (a' := ?_) (px_l 10 5) rfl rfl (take_ofW HT_.out HW_.out (by kernel_rfl)) (fun _ _ _ h => h) (Or.inl ⟨by rfl, ?_⟩) hHeld ?_ ?_
    rotate_left
    ·rintro w' ⟨s0, s1, s2, s3⟩
     go_simp
     with_reducible rfl
    rotate_left
    ·simp only [px_q]
     rfl
    refine take_ (i := 11) (N := some 19) (v := ?_) (a' := ?_) #[true, true, true, true, true, true, true, true, true, true, false, true, false, false, false] rfl rfl (take_ofW HT_.out HW_.out (by kernel_rfl)) (fun _ _ _ h => h) (Or.inl ⟨by rfl, ?_⟩) hHeld ?_ ?_
    rotate_left
    ·rintro w' ⟨s0, s1, s2, s3⟩
     go_simp
     with_reducible rfl
    rotate_left
    ·simp only [px_q]
     rfl
    refine one_ (i := 10) (N := some 18) (px_l 12 3) rfl rfl (one_of HT_.out (by kernel_rfl)) (by decide) (fun K hK => ?_)
    refine goes_ Try.func17 (by kernel_rfl) rfl #[.agg #[.slice A0_0 l0_0.length c0_0, .slice A0_1 l0_1.length c0_1]] (by rfl) rfl rfl px_dn ?_
    with_reducible refine (impl_Dict_live.calls k _ _ l0_0 _ _ l0_1 t237 _ ?side1 ?side2 ?side3 ?side4 A10.out).mono ?_
    (case side1 => exact px_cV ((Kd.C_below HR0_0.out HB.out)))
    (case side2 => exact HC0_0.out)
    (case side3 => exact px_cV ((Kd.C_below HR0_1.out HB.out)))
    (case side4 => exact HC0_1.out)
    rintro e w15 ⟨rfl, hb⟩
    refine ⟨_, rfl, ?_⟩
    have n0_ := aM (blk_below (g := gb233) (o := .cells #[.slice A0_0 l0_0.length c0_0, .slice A0_1 l0_1.length c0_1] 30 (0, 0)) (px_bV BK233.out) hb)
    have n1_ := aM (blk_below (g := gb234) (o := .cells #[.slice A1_0 l1_0.length c1_0, .slice A1_1 l1_1.length c1_1] 30 (0, 0)) (px_bV BK234.out) hb)
    have n2_ := aM (below_step (px_h2 HB.out GE233.out GE234.out) hb)
    clear BK233
    clear BK234
    clear HB
    have BK233 := n0_
    have BK234 := n1_
    have HB := n2_
    clear n0_ n1_ n2_
    (try clear hb)
    (try clear hb2)
    (try clear hk)
    (try clear hi)
    refine hK.out _ _ ⟨(blk_cell BK233.out 0).trans rfl, (blk_cell BK233.out 1).trans rfl, (blk_cell BK234.out 0).trans rfl, (blk_cell BK234.out 1).trans rfl⟩ (fun hHeld => ?_)
    clear hK K
    refine norm_ (a' := ?_) ?_ ?_
    rotate_left
    ·show Act.put _ (some 18) _ = _
     simp only [px_q]
     rfl
    refine one_ (i := 12) (N := some 20) (px_l 13 2) rfl rfl (one_of HT_.out (by kernel_rfl)) (by decide) (fun K hK => ?_)
    refine goes_ Try.func17 (by kernel_rfl) rfl #[.agg #[.slice A1_0 l1_0.length c1_0, .slice A1_1 l1_1.length c1_1]] (by rfl) rfl rfl px_dn ?_
    with_reducible refine (impl_Dict_live.calls k _ _ l1_0 _ _ l1_1 t238 _ ?side1 ?side2 ?side3 ?side4 A11.out).mono ?_
    (case side1 => exact px_cV ((Kd.C_below HR1_0.out HB.out)))
    (case side2 => exact HC1_0.out)
    (case side3 => exact px_cV ((Kd.C_below HR1_1.out HB.out)))
    (case side4 => exact HC1_1.out)
    rintro e w16 ⟨rfl, hb⟩
    refine ⟨_, rfl, ?_⟩
    have n0_ := aM (blk_below (g := gb233) (o := .cells #[.slice A0_0 l0_0.length c0_0, .slice A0_1 l0_1.length c0_1] 30 (0, 0)) (px_bV BK233.out) hb)
    have n1_ := aM (blk_below (g := gb234) (o := .cells #[.slice A1_0 l1_0.length c1_0, .slice A1_1 l1_1.length c1_1] 30 (0, 0)) (px_bV BK234.out) hb)
    have n2_ := aM (below_step (px_h2 HB.out GE233.out GE234.out) hb)
    clear BK233
    clear BK234
    clear HB
    have BK233 := n0_
    have BK234 := n1_
    have HB := n2_
    clear n0_ n1_ n2_
    (try clear hb)
    (try clear hb2)
    (try clear hk)
    (try clear hi)
    refine hK.out _ _ ⟨(blk_cell BK233.out 0).trans rfl, (blk_cell BK233.out 1).trans rfl, (blk_cell BK234.out 0).trans rfl, (blk_cell BK234.out 1).trans rfl⟩ (fun hHeld => ?_)
    clear hK K
    refine norm_ (a' := ?_) ?_ ?_
    rotate_left
    ·show Act.put _ (some 20) _ = _
     simp only [px_q]
     rfl
    refine pure_ (i := 13) (N := some 21) (v := ?_) (a' := ?_) (px_l 14 1) rfl rfl (any_of HT_.out (by kernel_rfl)) (fun _ _ _ h => h) (Or.inl ⟨by rfl, ?_⟩) ?_ ?_
    rotate_left
    ·intro w'
     go_simp
     with_reducible rfl
    rotate_left
    ·simp only [px_q]
     rfl
    refine pure_ (i := 14) (N := some 22) (v := ?_) (a' := ?_) (px_l 15 0) rfl rfl (any_of HT_.out (by kernel_rfl)) (fun _ _ _ h => h) (Or.inl ⟨by rfl, ?_⟩) ?_ ?_
    rotate_left
    ·intro w'
     go_simp
     with_reducible rfl
    rotate_left
    ·simp only [px_q]
     rfl
    refine done_ (done_of HT_.out (by kernel_rfl)) ?_
    try go_wp2
    go_meet
    case rel => exact ⟨_, ((t237 != t238)), px_rf, H', ⟨by first | omega | exact Nat.le_refl _⟩, ⟨px_bV BK233.out⟩, ⟨px_bV BK234.out⟩, ⟨px_h2 HB.out GE233.out GE234.out⟩⟩
   ·replace c9 := Bool.eq_false_iff.mpr c9
    subst c9
    have H1 : (impl_DictSame.j0 k true l0_0 l0_1 l1_0 l1_1) = some r := by rw [if_neg (show ¬ (false = true) by decide)] at H; exact H
    clear H
    have H := H1
    clear H1
    have H' := aM H
    clear H
    try go_wp2
    have n0_ := aM (blk_drew BK233.out)
    have n1_ := aM (blk_drew BK234.out)
    have n2_ := aM (below_drew1 HB.out)
    clear BK233
    clear BK234
    clear HB
    have BK233 := n0_
    have BK234 := n1_
    have HB := n2_
    clear n0_ n1_ n2_
    refine start_ (n := 15) (S := fun w' => w'.cell? ⟨gb233, 0, none⟩ = some (.slice A0_0 l0_0.length c0_0) ∧ w'.cell? ⟨gb233, 1, none⟩ = some (.slice A0_1 l0_1.length c0_1) ∧ w'.cell? ⟨gb234, 0, none⟩ = some (.slice A1_0 l1_0.length c1_0) ∧ w'.cell? ⟨gb234, 1, none⟩ = some (.slice A1_1 l1_1.length c1_1)) (ds := []) (px_l 0 15) (by kernel_rfl) rfl rfl ⟨(blk_cell BK233.out 0).trans rfl, (blk_cell BK233.out 1).trans rfl, (blk_cell BK234.out 0).trans rfl, (blk_cell BK234.out 1).trans rfl⟩ (fun hHeld => ?_); refine with_tabW impl_DictSame.tab1 impl_DictSame.bits1 (fun HT_ HW_ => ?_)
    generalize w5.drew = w17 at BK233 BK234 HB hHeld ⊢
    refine take_ (i := 0) (N := some 8) (v := ?_) (a' := ?_) (px_l 1 14) rfl rfl (take_ofW HT_.out HW_.out (by kernel_rfl)) (fun _ _ _ h => h) (Or.inl ⟨by rfl, ?_⟩) hHeld ?_ ?_
    rotate_left
    ·rintro w' ⟨s0, s1, s2, s3⟩
     go_simp
     with_reducible rfl
    rotate_left
    ·simp only [px_q]
     rfl
    refine one_ (i := 1) (N := some 9) (px_l 2 13) rfl rfl (one_of HT_.out (by kernel_rfl)) (by decide) (fun K hK => ?_)
    refine goes_ Try.func16 (by kernel_rfl) rfl #[.agg #[.slice A0_0 l0_0.length c0_0, .slice A0_1 l0_1.length c0_1]] (by rfl) rfl rfl px_dn ?_
    with_reducible refine (impl_DictOk.calls k _ _ l0_0 _ _ l0_1 true _ ?side1 ?side2 ?side3 ?side4 A6.out).mono ?_
    (case side1 => exact px_cV ((Kd.C_below HR0_0.out HB.out)))
    (case side2 => exact HC0_0.out)
    (case side3 => exact px_cV ((Kd.C_below HR0_1.out HB.out)))
    (case side4 => exact HC0_1.out)
    rintro e w18 ⟨rfl, hb⟩
    refine ⟨_, rfl, ?_⟩
    have n0_ := aM (blk_below (g := gb233) (o := .cells #[.slice A0_0 l0_0.length c0_0, .slice A0_1 l0_1.length c0_1] 30 (0, 0)) (px_bV BK233.out) hb)
    have n1_ := aM (blk_below (g := gb234) (o := .cells #[.slice A1_0 l1_0.length c1_0, .slice A1_1 l1_1.length c1_1] 30 (0, 0)) (px_bV BK234.out) hb)
    have n2_ := aM (below_step (px_h2 HB.out GE233.out GE234.out) hb)
    clear BK233
    clear BK234
    clear HB
    have BK233 := n0_
    have BK234 := n1_
    have HB := n2_
    clear n0_ n1_ n2_
    (try clear hb)
    (try clear hb2)
    (try clear hk)
    (try clear hi)
    refine hK.out _ _ ⟨(blk_cell BK233.out 0).trans rfl, (blk_cell BK233.out 1).trans rfl, (blk_cell BK234.out 0).trans rfl, (blk_cell BK234.out 1).trans rfl⟩ (fun hHeld => ?_)
    clear hK K
    refine norm_ (a' := ?_) ?_ ?_
    rotate_left
    ·show Act.put _ (some 9) _ = _
     simp only [px_q]
     rfl
    refine pure_ (i := 2) (N := some 10) (v := ?_) (a' := ?_) (px_l 3 12) rfl rfl (any_of HT_.out (by kernel_rfl)) (fun _ _ _ h => h) (Or.inl ⟨by rfl, ?_⟩) ?_ ?_
    rotate_left
    ·intro w'
     go_simp
     with_reducible rfl
    rotate_left
    ·simp only [px_q]
     rfl
    refine pure_ (i := 3) (N := some 11) (v := ?_) (a' := ?_) (px_l 4 11) rfl rfl (any_of HT_.out (by kernel_rfl)) (fun _ _ _ h => h) (Or.inl ⟨by rfl, ?_⟩) ?_ ?_
    rotate_left
    ·intro w'
     go_simp
     with_reducible rfl
    rotate_left
    ·simp only [px_q]
     rfl
    refine take_ (i := 4) (N := some 12) (v := ?_) (a' := ?_) (px_l 5 10) rfl rfl (take_ofW HT_.out HW_.out (by kernel_rfl)) (fun _ _ _ h => h) (Or.inl ⟨by rfl, ?_⟩) hHeld ?_ ?_
    rotate_left
    ·rintro w' ⟨s0, s1, s2, s3⟩
     go_simp
     with_reducible rfl
    rotate_left
    ·simp only [px_q]
     rfl
    refine one_ (i := 5) (N := some 13) (px_l 6 9) rfl rfl (one_of HT_.out (by kernel_rfl)) (by decide) (fun K hK => ?_)
    refine goes_ Try.func16 (by kernel_rfl) rfl #[.agg #[.slice A1_0 l1_0.length c1_0, .slice A1_1 l1_1.length c1_1]] (by rfl) rfl rfl px_dn ?_
    with_reducible refine (impl_DictOk.calls k _ _ l1_0 _ _ l1_1 false _ ?side1 ?side2 ?side3 ?side4 A8.out).mono ?_
    (case side1 => exact px_cV ((Kd.C_below HR1_0.out HB.out)))
    (case side2 => exact HC1_0.out)
    (case side3 => exact px_cV ((Kd.C_below HR1_1.out HB.out)))
    (case side4 => exact HC1_1.out)
    rintro e w19 ⟨rfl, hb⟩
    refine ⟨_, rfl, ?_⟩
    have n0_ := aM (blk_below (g := gb233) (o := .cells #[.slice A0_0 l0_0.length c0_0, .slice A0_1 l0_1.length c0_1] 30 (0, 0)) (px_bV BK233.out) hb)
    have n1_ := aM (blk_below (g := gb234) (o := .cells #[.slice A1_0 l1_0.length c1_0, .slice A1_1 l1_1.length c1_1] 30 (0, 0)) (px_bV BK234.out) hb)
    have n2_ := aM (below_step (px_h2 HB.out GE233.out GE234.out) hb)
    clear BK233
    clear BK234
    clear HB
    have BK233 := n0_
    have BK234 := n1_
    have HB := n2_
    clear n0_ n1_ n2_
    (try clear hb)
    (try clear hb2)
    (try clear hk)
    (try clear hi)
    refine hK.out _ _ ⟨(blk_cell BK233.out 0).trans rfl, (blk_cell BK233.out 1).trans rfl, (blk_cell BK234.out 0).trans rfl, (blk_cell BK234.out 1).trans rfl⟩ (fun hHeld => ?_)
    clear hK K
    refine norm_ (a' := ?_) ?_ ?_
    rotate_left
    ·show Act.put _ (some 13) _ = _
     simp only [px_q]
     rfl
    refine pure_ (i := 6) (N := some 14) (v := ?_) (a' := ?_) (px_l 7 8) rfl rfl (any_of HT_.out (by kernel_rfl)) (fun _ _ _ h => h) (Or.inl ⟨by rfl, ?_⟩) ?_ ?_
    rotate_left
    ·intro w'
     go_simp
     with_reducible rfl
    rotate_left
    ·simp only [px_q]
     rfl
    refine pure_ (i := 7) (N := some 15) (v := ?_) (a' := ?_) (px_l 8 7) rfl rfl (any_of HT_.out (by kernel_rfl)) (fun _ _ _ h => h) (Or.inl ⟨by rfl, ?_⟩) ?_ ?_
    rotate_left
    ·intro w'
     go_simp
     with_reducible rfl
    rotate_left
    ·simp only [px_q]
     rfl
    refine pure_ (i := 8) (N := some 16) (v := ?_) (a' := ?_) (px_l 9 6) rfl rfl (any_of HT_.out (by kernel_rfl)) (fun _ _ _ h => h) (Or.inl ⟨by rfl, ?_⟩) ?_ ?_
    rotate_left
    ·intro w'
     go_simp
     with_reducible rfl
    rotate_left
    ·simp only [px_q]
     rfl
    refine pure_ (i := 9) (N := some 17) (v := undef) (a' := ?_) (px_l 10 5) rfl rfl (any_of HT_.out (by kernel_rfl)) (fun _ _ _ h => h) (Or.inr ⟨by rfl, rfl⟩) ?_ ?_
    rotate_left
    ·simp only [px_q]
     rfl
    refine pure_ (i := 10) (N := some 18) (v := undef) (a' := ?_) (px_l 11 4) rfl rfl (any_of HT_.out (by kernel_rfl)) (fun _ _ _ h => h) (Or.inr ⟨by rfl, rfl⟩) ?_ ?_
    rotate_left
    ·simp only [px_q]
     rfl
    refine pure_ (i := 11) (N := some 19) (v := undef) (a' := ?_) (px_l 12 3) rfl rfl (any_of HT_.out (by kernel_rfl)) (fun _ _ _ h => h) (Or.inr ⟨by rfl, rfl⟩) ?_ ?_
    rotate_left
    ·simp only [px_q]
     rfl
    refine pure_ (i := 12) (N := some 20) (v := undef) (a' := ?_) (px_l 13 2) rfl rfl (any_of HT_.out (by kernel_rfl)) (fun _ _ _ h => h) (Or.inr ⟨by rfl, rfl⟩) ?_ ?_
    rotate_left
    ·simp only [px_q]
     rfl
    refine pure_ (i := 13) (N := some 21) (v := undef) (a' := ?_) (px_l 14 1) rfl rfl (any_of HT_.out (by kernel_rfl)) (fun _ _ _ h => h) (Or.inr ⟨by rfl, rfl⟩) ?_ ?_
    rotate_left
    ·simp only [px_q]
     rfl
    refine pure_ (i := 14) (N := some 22) (v := ?_) (a' := ?_) (px_l 15 0) rfl rfl (any_of HT_.out (by kernel_rfl)) (fun _ _ _ h => h) (Or.inl ⟨by rfl, ?_⟩) ?_ ?_
    rotate_left
    ·intro w'
     go_simp
     with_reducible rfl
    rotate_left
    ·simp only [px_q]
     rfl
    refine done_ (done_of HT_.out (by kernel_rfl)) ?_
    try go_wp2
    go_meet
    case rel => exact ⟨_, (true), px_rf, H', ⟨by first | omega | exact Nat.le_refl _⟩, ⟨px_bV BK233.out⟩, ⟨px_bV BK234.out⟩, ⟨px_h2 HB.out GE233.out GE234.out⟩⟩
  ·replace c7 := Bool.eq_false_iff.mpr c7
   subst c7
   have H1 : (impl_DictSame.j0 k true l0_0 l0_1 l1_0 l1_1) = some r := by rw [if_neg (show ¬ (false = true) by decide)] at H; exact H
   clear H
   have H := H1
   clear H1
   have H' := aM H
   clear H
   try go_wp2
   have n0_ := aM (blk_drew BK233.out)
   have n1_ := aM (blk_drew BK234.out)
   have n2_ := aM (below_drew1 HB.out)
   clear BK233
   clear BK234
   clear HB
   have BK233 := n0_
   have BK234 := n1_
   have HB := n2_
   clear n0_ n1_ n2_
   refine start_ (n := 15) (S := fun w' => w'.cell? ⟨gb233, 0, none⟩ = some (.slice A0_0 l0_0.length c0_0) ∧ w'.cell? ⟨gb233, 1, none⟩ = some (.slice A0_1 l0_1.length c0_1)) (ds := []) (px_l 0 15) (by kernel_rfl) rfl rfl ⟨(blk_cell BK233.out 0).trans rfl, (blk_cell BK233.out 1).trans rfl⟩ (fun hHeld => ?_); refine with_tabW impl_DictSame.tab1 impl_DictSame.bits1 (fun HT_ HW_ => ?_)
   generalize w5.drew = w20 at BK233 BK234 HB hHeld ⊢
   refine take_ (i := 0) (N := some 8) (v := ?_) (a' := ?_) (px_l 1 14) rfl rfl (take_ofW HT_.out HW_.out (by kernel_rfl)) (fun _ _ _ h => h) (Or.inl ⟨by rfl, ?_⟩) hHeld ?_ ?_
   rotate_left
   ·rintro w' ⟨s0, s1⟩
    go_simp
    with_reducible rfl
   rotate_left
   ·simp only [px_q]
    rfl
   refine one_ (i := 1) (N := some 9) (px_l 2 13) rfl rfl (one_of HT_.out (by kernel_rfl)) (by decide) (fun K hK => ?_)
   refine goes_ Try.func16 (by kernel_rfl) rfl #[.agg #[.slice A0_0 l0_0.length c0_0, .slice A0_1 l0_1.length c0_1]] (by rfl) rfl rfl px_dn ?_
   with_reducible refine (impl_DictOk.calls k _ _ l0_0 _ _ l0_1 false _ ?side1 ?side2 ?side3 ?side4 A6.out).mono ?_
   (case side1 => exact px_cV ((Kd.C_below HR0_0.out HB.out)))
   (case side2 => exact HC0_0.out)
   (case side3 => exact px_cV ((Kd.C_below HR0_1.out HB.out)))
   (case side4 => exact HC0_1.out)
   rintro e w21 ⟨rfl, hb⟩
   refine ⟨_, rfl, ?_⟩
   have n0_ := aM (blk_below (g := gb233) (o := .cells #[.slice A0_0 l0_0.length c0_0, .slice A0_1 l0_1.length c0_1] 30 (0, 0)) (px_bV BK233.out) hb)
   have n1_ := aM (blk_below (g := gb234) (o := .cells #[.slice A1_0 l1_0.length c1_0, .slice A1_1 l1_1.length c1_1] 30 (0, 0)) (px_bV BK234.out) hb)
   have n2_ := aM (below_step (px_h2 HB.out GE233.out GE234.out) hb)
   clear BK233
   clear BK234
   clear HB
   have BK233 := n0_
   have BK234 := n1_
   have HB := n2_
   clear n0_ n1_ n2_
   (try clear hb)
   (try clear hb2)
   (try clear hk)
   (try clear hi)
   refine hK.out _ _ ⟨(blk_cell BK233.out 0).trans rfl, (blk_cell BK233.out 1).trans rfl⟩ (fun hHeld => ?_)
   clear hK K
   refine norm_ (a' := ?_) ?_ ?_
   rotate_left
   ·show Act.put _ (some 9) _ = _
    simp only [px_q]
    rfl
   refine pure_ (i := 2) (N := some 10) (v := ?_) (a' := ?_) (px_l 3 12) rfl rfl (any_of HT_.out (by kernel_rfl)) (fun _ _ _ h => h) (Or.inl ⟨by rfl, ?_⟩) ?_ ?_
   rotate_left
   ·intro w'
    go_simp
    with_reducible rfl
   rotate_left
   ·simp only [px_q]
    rfl
   refine pure_ (i := 3) (N := some 11) (v := ?_) (a' := ?_) (px_l 4 11) rfl rfl (any_of HT_.out (by kernel_rfl)) (fun _ _ _ h => h) (Or.inl ⟨by rfl, ?_⟩) ?_ ?_
   rotate_left
   ·intro w'
    go_simp
    with_reducible rfl
   rotate_left
   ·simp only [px_q]
    rfl
   refine pure_ (i := 4) (N := some 12) (v := undef) (a' := ?_) (px_l 5 10) rfl rfl (any_of HT_.out (by kernel_rfl)) (fun _ _ _ h => h) (Or.inr ⟨by rfl, rfl⟩) ?_ ?_
   rotate_left
   ·simp only [px_q]
    rfl
   refine pure_ (i := 5) (N := some 13) (v := undef) (a' := ?_) (px_l 6 9) rfl rfl (any_of HT_.out (by kernel_rfl)) (fun _ _ _ h => h) (Or.inr ⟨by rfl, rfl⟩) ?_ ?_
   rotate_left
   ·simp only [px_q]
    rfl
   refine pure_ (i := 6) (N := some 14) (v := undef) (a' := ?_) (px_l 7 8) rfl rfl (any_of HT_.out (by kernel_rfl)) (fun _ _ _ h => h) (Or.inr ⟨by rfl, rfl⟩) ?_ ?_
   rotate_left
   ·simp only [px_q]
    rfl
   refine pure_ (i := 7) (N := some 15) (v := ?_) (a' := ?_) (px_l 8 7) rfl rfl (any_of HT_.out (by kernel_rfl)) (fun _ _ _ h => h) (Or.inl ⟨by rfl, ?_⟩) ?_ ?_
   rotate_left
   ·intro w'
    go_simp
    with_reducible rfl
   rotate_left
   ·simp only [px_q]
    rfl
   refine pure_ (i := 8) (N := some 16) (v := ?_) (a' := ?_) (px_l 9 6) rfl rfl (any_of HT_.out (by kernel_rfl)) (fun _ _ _ h => h) (Or.inl ⟨by rfl, ?_⟩) ?_ ?_
   rotate_left
   ·intro w'
    go_simp
    with_reducible rfl
   rotate_left
   ·simp only [px_q]
    rfl
   refine pure_ (i := 9) (N := some 17) (v := undef) (a' := ?_) (px_l 10 5) rfl rfl (any_of HT_.out (by kernel_rfl)) (fun _ _ _ h => h) (Or.inr ⟨by rfl, rfl⟩) ?_ ?_
   rotate_left
   ·simp only [px_q]
    rfl
   refine pure_ (i := 10) (N := some 18) (v := undef) (a' := ?_) (px_l 11 4) rfl rfl (any_of HT_.out (by kernel_rfl)) (fun _ _ _ h => h) (Or.inr ⟨by rfl, rfl⟩) ?_ ?_
   rotate_left
   ·simp only [px_q]
    rfl
   refine pure_ (i := 11) (N := some 19) (v := undef) (a' := ?_) (px_l 12 3) rfl rfl (any_of HT_.out (by kernel_rfl)) (fun _ _ _ h => h) (Or.inr ⟨by rfl, rfl⟩) ?_ ?_
   rotate_left
   ·simp only [px_q]
    rfl
   refine pure_ (i := 12) (N := some 20) (v := undef) (a' := ?_) (px_l 13 2) rfl rfl (any_of HT_.out (by kernel_rfl)) (fun _ _ _ h => h) (Or.inr ⟨by rfl, rfl⟩) ?_ ?_
   rotate_left
   ·simp only [px_q]
    rfl
   refine pure_ (i := 13) (N := some 21) (v := undef) (a' := ?_) (px_l 14 1) rfl rfl (any_of HT_.out (by kernel_rfl)) (fun _ _ _ h => h) (Or.inr ⟨by rfl, rfl⟩) ?_ ?_
   rotate_left
   ·simp only [px_q]
    rfl
   refine pure_ (i := 14) (N := some 22) (v := ?_) (a' := ?_) (px_l 15 0) rfl rfl (any_of HT_.out (by kernel_rfl)) (fun _ _ _ h => h) (Or.inl ⟨by rfl, ?_⟩) ?_ ?_
   rotate_left
   ·intro w'
    go_simp
    with_reducible rfl
   rotate_left
   ·simp only [px_q]
    rfl
   refine done_ (done_of HT_.out (by kernel_rfl)) ?_
   try go_wp2
   go_meet
   case rel => exact ⟨_, (true), px_rf, H', ⟨by first | omega | exact Nat.le_refl _⟩, ⟨px_bV BK233.out⟩, ⟨px_bV BK234.out⟩, ⟨px_h2 HB.out GE233.out GE234.out⟩⟩
 case rest =>
  clear HC3
  try clear c1
  try clear p2
  try clear c7
  try clear c9
  try clear c16
  try clear c17
  obtain ⟨kq, x22_2, rfl, HA, HJ2, BK233, BK234, HB⟩ := hcut
  cases kq with
  | zero => exact absurd HA.out (by simp [impl_DictSame.j0])
  | succ kj2 =>
   have H := HA.out
   clear HA
   simp only [impl_DictSame.j0] at H
   by_cases c22 : x22_2 = true
   ·subst c22
    have H1 : (some false) = some r := by rw [if_pos rfl] at H; exact H
    clear H
    have H := H1
    clear H1
    obtain rfl := Option.some.inj H
    go_wp2
    go_ret
    exact ⟨by first | rfl | (simp [errW_none, errW_some] <;> rfl) | (simp [*, errW_none, errW_some] <;> rfl), px_h2 HB.out GE233.out GE234.out⟩
   ·replace c22 := Bool.eq_false_iff.mpr c22
    subst c22
    have H1 : (impl_DictSame.l0 kj2 l0_1 (l0_1.length : Int) 0 l1_0 l1_1) = some r := by rw [if_neg (show ¬ (false = true) by decide)] at H; exact H
    clear H
    have H := H1
    clear H1
    have H' := aM H
    clear H
    have hnb23 := NB233_234.out
    have hnc23 := NB234_233.out
    have hcz24_0 : wc.cell? ⟨gb233, 0, none⟩ = some (.slice A0_0 l0_0.length c0_0) := (blk_cell BK233.out 0).trans rfl
    have hcz24_1 : wc.cell? ⟨gb233, 1, none⟩ = some (.slice A0_1 l0_1.length c0_1) := (blk_cell BK233.out 1).trans rfl
    have hfz24_0 := blk_frozen BK233.out 0
    have hfz24_1 := blk_frozen BK233.out 1
    go_wp2
    go_loopg [26] kj2 (fun kq v26 w' => ∃ (x26_2 : Int), v26 = .int .i64 x26_2 ∧ Aside0 (impl_DictSame.l0 kq l0_1 (l0_1.length : Int) x26_2 l1_0 l1_1 = some r) ∧ Aside0 (kq ≤ kj2) ∧ Aside0 (w'.heap[gb233]? = some (.cells #[(.slice A0_0 l0_0.length c0_0), (.slice A0_1 l0_1.length c0_1)] 30 (0, 0))) ∧ Aside0 (w'.heap[gb234]? = some (.cells #[(.slice A1_0 l1_0.length c1_0), (.slice A1_1 l1_1.length c1_1)] 30 (0, 0))) ∧ Aside0 (Below w.heap.size w w'))
    case atStart => exact ⟨(0), px_rf, H', ⟨Nat.le_refl _⟩, ⟨px_bV BK233.out⟩, ⟨px_bV BK234.out⟩, ⟨px_h2 HB.out GE233.out GE234.out⟩⟩
    case round =>
     clear H'
     try clear c1
     try clear c2
     try clear p2
     try clear c7
     try clear c9
     try clear c16
     try clear c17
     try clear c22
     try clear c23
     try clear hcz24_0
     try clear hcz24_1
     try clear hfz24_0
     try clear hfz24_1
     try clear p2
     obtain ⟨x26_2, rfl, HA, HK2, BK233, BK234, HB⟩ := hrel
     cases gk with
     | zero => exact absurd HA.out (by simp [impl_DictSame.l0])
     | succ k2 =>
      have H := HA.out
      clear HA
      simp only [impl_DictSame.l0] at H
      by_cases c25 : x26_2 < (l0_1.length : Int)
      ·rw [if_pos c25] at H
       have c25b0 : decide (x26_2 < (l0_1.length : Int)) = true := decide_eq_true c25
       clear c25
       by_cases c26 : 0 ≤ x26_2
       ·rw [if_pos c26] at H
        have c26b0 : decide (0 ≤ x26_2) = true := decide_eq_true c26
        clear c26
        by_cases c27 : x26_2 < (l0_1.length : Int)
        ·rw [if_pos c27] at H
         have c27b0 : decide (x26_2 < (l0_1.length : Int)) = true := decide_eq_true c27
         clear c27
         obtain ⟨bq28, hbq28⟩ : ∃ b_ : Bool, b_ = ((rd_T38 l0_1 x26_2).f3) := ⟨_, rfl⟩
         replace H : (if (bq28 = true) then ((impl_Dict_find.f k2 l1_0 l1_1 ((rd_T38 l0_1 x26_2).f0)).bind fun t241 => (if t241 < 0 then (some false) else (if 0 ≤ t241 then (if t241 < (l1_1.length : Int) then (if ((rd_T38 l1_1 t241).f2) = ((rd_T38 l0_1 x26_2).f2) then (impl_DictSame.l0 k2 l0_1 (l0_1.length : Int) (wrap64 (x26_2 + 1)) l1_0 l1_1) else (some false)) else (none)) else (none)))) else (impl_DictSame.l0 k2 l0_1 (l0_1.length : Int) (wrap64 (x26_2 + 1)) l1_0 l1_1)) = some r := by rw [← hbq28] at H; exact H
         have Nbq28 := aM hbq28
         clear hbq28
         by_cases c29 : (bq28 = true)
         ·subst c29
          have H1 : ((impl_Dict_find.f k2 l1_0 l1_1 ((rd_T38 l0_1 x26_2).f0)).bind fun t241 => (if t241 < 0 then (some false) else (if 0 ≤ t241 then (if t241 < (l1_1.length : Int) then (if ((rd_T38 l1_1 t241).f2) = ((rd_T38 l0_1 x26_2).f2) then (impl_DictSame.l0 k2 l0_1 (l0_1.length : Int) (wrap64 (x26_2 + 1)) l1_0 l1_1) else (some false)) else (none)) else (none)))) = some r := by rw [if_pos rfl] at H; exact H
          clear H
          have H := H1
          clear H1
          replace H := Option.bind_eq_some_iff.mp H
          obtain ⟨t241, A300, H⟩ := H
          replace H : (if t241 < 0 then (some false) else (if 0 ≤ t241 then (if t241 < (l1_1.length : Int) then (if ((rd_T38 l1_1 t241).f2) = ((rd_T38 l0_1 x26_2).f2) then (impl_DictSame.l0 k2 l0_1 (l0_1.length : Int) (wrap64 (x26_2 + 1)) l1_0 l1_1) else (some false)) else (none)) else (none))) = some r := H
          have A30 := aM A300
          clear A300
          by_cases c31 : t241 < 0
          ·rw [if_pos c31] at H
           have c31b0 : decide (t241 < 0) = true := decide_eq_true c31
           clear c31
           obtain rfl := Option.some.inj H
           have p239 : 0 ≤ (x26_2 : Int) := px_od
           have q239 : x26_2 < (l0_1.length : Int) := px_od
           obtain ⟨ad239, e239, hx239_0, hx239_1, hx239_2, hx239_3⟩ := at_T38 HR0_1.out x26_2 p239 q239
           (try rw [← Nbq28.out] at hx239_3)
           (try rw [← Nbq28.out] at hw239_3)
           cases e239
           replace hx239_0 := px_hx HB.out hx239_0
           replace hx239_1 := px_hx HB.out hx239_1
           replace hx239_2 := px_hx HB.out hx239_2
           replace hx239_3 := px_hx HB.out hx239_3
           replace p239 := eq_true p239
           replace q239 := eq_true q239
           try go_wp2_with (first | ((with_reducible refine gate_dst (N := 6) rfl ?_); refine box_event ?hg (N := 6) ?hd (cs := #[.string (⟨#[]⟩ : ByteArray), .int .i64 0, .int .i64 0, .bool false]) (t := 38) ?hr ?_; (case hd => rfl); (case hg => rfl); (case hr => first | (go_simp; done) | (go_simp; rfl)); intro gb240 hg w32 hbox hb; have n0_ := aM (blk_below (g := gb233) (o := .cells #[.slice A0_0 l0_0.length c0_0, .slice (some ad239) l0_1.length c0_1] 30 (0, 0)) (px_bV BK233.out) hb); have n1_ := aM (blk_below (g := gb234) (o := .cells #[.slice A1_0 l1_0.length c1_0, .slice A1_1 l1_1.length c1_1] 30 (0, 0)) (px_bV BK234.out) hb); have n2_ := aM (below_step (px_h2 HB.out GE233.out GE234.out) hb); have n3_ := aM (hbox); have n4_ := aM ((by rw [hg]; exact (below_size (px_h2 HB.out GE233.out GE234.out)) : w.heap.size ≤ gb240)); have n5_ := aM ((by rw [hg]; exact (below_size (px_h2 HB.out GE233.out GE234.out)) : w.heap.size ≤ gb240)); have n6_ := aM ((by rw [hg]; exact Nat.ne_of_lt (blk_lt (g := gb233) (o := .cells #[.slice A0_0 l0_0.length c0_0, .slice (some ad239) l0_1.length c0_1] 30 (0, 0)) (px_bV BK233.out)) : gb233 ≠ gb240)); have n7_ := aM ((by rw [hg]; exact Nat.ne_of_gt (blk_lt (g := gb233) (o := .cells #[.slice A0_0 l0_0.length c0_0, .slice (some ad239) l0_1.length c0_1] 30 (0, 0)) (px_bV BK233.out)) : gb240 ≠ gb233)); have n8_ := aM ((by rw [hg]; exact Nat.ne_of_lt (blk_lt (g := gb234) (o := .cells #[.slice A1_0 l1_0.length c1_0, .slice A1_1 l1_1.length c1_1] 30 (0, 0)) (px_bV BK234.out)) : gb234 ≠ gb240)); have n9_ := aM ((by rw [hg]; exact Nat.ne_of_gt (blk_lt (g := gb234) (o := .cells #[.slice A1_0 l1_0.length c1_0, .slice A1_1 l1_1.length c1_1] 30 (0, 0)) (px_bV BK234.out)) : gb240 ≠ gb234)); clear BK233; clear BK234; clear HB; have BK233 := n0_; have BK234 := n1_; have HB := n2_; have BK240 := n3_; have GW240 := n4_; have GE240 := n5_; have NB233_240 := n6_; have NB240_233 := n7_; have NB234_240 := n8_; have NB240_234 := n9_; clear n0_ n1_ n2_ n3_ n4_ n5_ n6_ n7_ n8_ n9_; clear hb hbox hg; have hnb33 := NB240_233.out; have hnc33 := NB233_240.out; have hnb34 := NB240_234.out; have hnc34 := NB234_240.out; have hcz35_0 : w32.cell? ⟨gb240, 0, none⟩ = some (.string (⟨#[]⟩ : ByteArray)) := (blk_cell BK240.out 0).trans rfl; have hcz35_1 : w32.cell? ⟨gb240, 1, none⟩ = some (.int .i64 0) := (blk_cell BK240.out 1).trans rfl; have hcz35_2 : w32.cell? ⟨gb240, 2, none⟩ = some (.int .i64 0) := (blk_cell BK240.out 2).trans rfl; have hcz35_3 : w32.cell? ⟨gb240, 3, none⟩ = some (.bool false) := (blk_cell BK240.out 3).trans rfl; have hfz35_0 := blk_frozen BK240.out 0; have hfz35_1 := blk_frozen BK240.out 1; have hfz35_2 := blk_frozen BK240.out 2; have hfz35_3 := blk_frozen BK240.out 3; have hnb36 := NB234_233.out; have hnc36 := NB233_234.out; have hcz37_0 : w32.cell? ⟨gb234, 0, none⟩ = some (.slice A1_0 l1_0.length c1_0) := (blk_cell BK234.out 0).trans rfl; have hcz37_1 : w32.cell? ⟨gb234, 1, none⟩ = some (.slice A1_1 l1_1.length c1_1) := (blk_cell BK234.out 1).trans rfl; have hfz37_0 := blk_frozen BK234.out 0; have hfz37_1 := blk_frozen BK234.out 1) | ((with_reducible refine gate_callee (f := 18) rfl ?_); refine goesL_ (some 36) rfl rfl Try.func18 (by kernel_rfl) rfl #[.agg #[.slice A1_0 l1_0.length c1_0, .slice A1_1 l1_1.length c1_1], .string ((rd_T38 l0_1 x26_2).f0)] rfl px_dn ?_; (with_reducible refine (impl_Dict_find.calls k2 _ _ l1_0 _ _ l1_1 ((rd_T38 l0_1 x26_2).f0) t241 _ ?side1 ?side2 ?side3 ?side4 A30.out).mono ?_); (case side1 => exact Kd.C_below HR1_0.out (px_h3 HB.out GE233.out GE234.out GE240.out)); (case side2 => exact HC1_0.out); (case side3 => exact Kd.C_below HR1_1.out (px_h3 HB.out GE233.out GE234.out GE240.out)); (case side4 => exact HC1_1.out); rintro e w38 ⟨rfl, hb⟩; refine ⟨_, rfl, ?_⟩; have n0_ := aM (blk_below (g := gb233) (o := .cells #[.slice A0_0 l0_0.length c0_0, .slice (some ad239) l0_1.length c0_1] 30 (0, 0)) (by (with_reducible repeat (first | refine blk_drewN ?_ _ | refine blk_drew ?_ | refine blk_alloc ?_ _)); refine blk_far ?_ NB233_240.out _; (with_reducible repeat (first | refine blk_drewN ?_ _ | refine blk_drew ?_ | refine blk_alloc ?_ _)); refine blk_far ?_ NB233_240.out _; (with_reducible repeat (first | refine blk_drewN ?_ _ | refine blk_drew ?_ | refine blk_alloc ?_ _)); refine blk_far ?_ NB233_240.out _; (with_reducible repeat (first | refine blk_drewN ?_ _ | refine blk_drew ?_ | refine blk_alloc ?_ _)); refine blk_far ?_ NB233_240.out _; (with_reducible repeat (first | refine blk_drewN ?_ _ | refine blk_drew ?_ | refine blk_alloc ?_ _)); exact BK233.out) hb); have n1_ := aM (blk_below (g := gb234) (o := .cells #[.slice A1_0 l1_0.length c1_0, .slice A1_1 l1_1.length c1_1] 30 (0, 0)) (by (with_reducible repeat (first | refine blk_drewN ?_ _ | refine blk_drew ?_ | refine blk_alloc ?_ _)); refine blk_far ?_ NB234_240.out _; (with_reducible repeat (first | refine blk_drewN ?_ _ | refine blk_drew ?_ | refine blk_alloc ?_ _)); refine blk_far ?_ NB234_240.out _; (with_reducible repeat (first | refine blk_drewN ?_ _ | refine blk_drew ?_ | refine blk_alloc ?_ _)); refine blk_far ?_ NB234_240.out _; (with_reducible repeat (first | refine blk_drewN ?_ _ | refine blk_drew ?_ | refine blk_alloc ?_ _)); refine blk_far ?_ NB234_240.out _; (with_reducible repeat (first | refine blk_drewN ?_ _ | refine blk_drew ?_ | refine blk_alloc ?_ _)); exact BK234.out) hb); have n2_ := aM (blk_below (g := gb240) (o := .cells #[.string ((rd_T38 l0_1 x26_2).f0), .int .i64 ((rd_T38 l0_1 x26_2).f1), .int .i64 ((rd_T38 l0_1 x26_2).f2), .bool true] 38 (0, 0)) (by (with_reducible repeat (first | refine blk_drewN ?_ _ | refine blk_drew ?_ | refine blk_alloc ?_ _)); refine blk_put (cs := #[.string ((rd_T38 l0_1 x26_2).f0), .int .i64 ((rd_T38 l0_1 x26_2).f1), .int .i64 ((rd_T38 l0_1 x26_2).f2), .bool false]) ?_ 3 _ rfl; (with_reducible repeat (first | refine blk_drewN ?_ _ | refine blk_drew ?_ | refine blk_alloc ?_ _)); refine blk_put (cs := #[.string ((rd_T38 l0_1 x26_2).f0), .int .i64 ((rd_T38 l0_1 x26_2).f1), .int .i64 0, .bool false]) ?_ 2 _ rfl; (with_reducible repeat (first | refine blk_drewN ?_ _ | refine blk_drew ?_ | refine blk_alloc ?_ _)); refine blk_put (cs := #[.string ((rd_T38 l0_1 x26_2).f0), .int .i64 0, .int .i64 0, .bool false]) ?_ 1 _ rfl; (with_reducible repeat (first | refine blk_drewN ?_ _ | refine blk_drew ?_ | refine blk_alloc ?_ _)); refine blk_put (cs := #[.string (⟨#[]⟩ : ByteArray), .int .i64 0, .int .i64 0, .bool false]) ?_ 0 _ rfl; (with_reducible repeat (first | refine blk_drewN ?_ _ | refine blk_drew ?_ | refine blk_alloc ?_ _)); exact BK240.out) hb); have n3_ := aM (below_step (px_h3 HB.out GE233.out GE234.out GE240.out) hb); clear BK233; clear BK234; clear BK240; clear HB; have BK233 := n0_; have BK234 := n1_; have BK240 := n2_; have HB := n3_; clear n0_ n1_ n2_ n3_; (try clear hb); (try clear hb2); (try clear hk); (try clear hi)))
           have n0_ := aM (blk_drew BK233.out)
           have n1_ := aM (blk_drew BK234.out)
           have n2_ := aM (blk_drew BK240.out)
           have n3_ := aM (below_drew1 HB.out)
           clear BK233
           clear BK234
           clear BK240
           clear HB
           have BK233 := n0_
           have BK234 := n1_
           have BK240 := n2_
           have HB := n3_
           clear n0_ n1_ n2_ n3_
           refine start_ (n := 13) (S := fun w' => True) (ds := []) (px_l 0 13) (by kernel_rfl) rfl rfl trivial (fun hHeld => ?_); refine with_tabW impl_DictSame.tab8 impl_DictSame.bits8 (fun HT_ HW_ => ?_)
           generalize w38.drew = w39 at BK233 BK234 BK240 HB hHeld ⊢
           refine pure_ (i := 0) (N := some 37) (v := ?_) (a' := ?_) (px_l 1 12) rfl rfl (any_of HT_.out (by kernel_rfl)) (fun _ _ _ h => h) (Or.inl ⟨by rfl, ?_⟩) ?_ ?_
           rotate_left
           ·intro w'
            go_simp
            with_reducible rfl
           rotate_left
           ·simp only [px_q]
            rfl
           refine pure_ (i := 1) (N := some 38) (v := ?_) (a' := ?_) (px_l 2 11) rfl rfl (any_of HT_.out (by kernel_rfl)) (fun _ _ _ h => h) (Or.inl ⟨by rfl, ?_⟩) ?_ ?_
           rotate_left
           ·intro w'
            go_simp
            with_reducible rfl
           rotate_left
           ·simp only [px_q]
            rfl
           refine pure_ (i := 2) (N := some 39) (v := ?_) (a' := ?_) (px_l 3 10) rfl rfl (any_of HT_.out (by kernel_rfl)) (fun _ _ _ h => h) (Or.inl ⟨by rfl, ?_⟩) ?_ ?_
           rotate_left
           ·intro w'
            go_simp
            with_reducible rfl
           rotate_left
           ·simp only [px_q]
            rfl
           refine pure_ (i := 3) (N := some 40) (v := undef) (a' := ?_) (px_l 4 9) rfl rfl (any_of HT_.out (by kernel_rfl)) (fun _ _ _ h => h) (Or.inr ⟨by rfl, rfl⟩) ?_ ?_
           rotate_left
           ·simp only [px_q]
            rfl
           refine pure_ (i := 4) (N := some 41) (v := undef) (a' := ?_) (px_l 5 8) rfl rfl (any_of HT_.out (by kernel_rfl)) (fun _ _ _ h => h) (Or.inr ⟨by rfl, rfl⟩) ?_ ?_
           rotate_left
           ·simp only [px_q]
            rfl
           refine pure_ (i := 5) (N := some 42) (v := undef) (a' := ?_) (px_l 6 7) rfl rfl (any_of HT_.out (by kernel_rfl)) (fun _ _ _ h => h) (Or.inr ⟨by rfl, rfl⟩) ?_ ?_
           rotate_left
           ·simp only [px_q]
            rfl
           refine pure_ (i := 6) (N := some 43) (v := undef) (a' := ?_) (px_l 7 6) rfl rfl (any_of HT_.out (by kernel_rfl)) (fun _ _ _ h => h) (Or.inr ⟨by rfl, rfl⟩) ?_ ?_
           rotate_left
           ·simp only [px_q]
            rfl
           refine pure_ (i := 7) (N := some 44) (v := undef) (a' := ?_) (px_l 8 5) rfl rfl (any_of HT_.out (by kernel_rfl)) (fun _ _ _ h => h) (Or.inr ⟨by rfl, rfl⟩) ?_ ?_
           rotate_left
           ·simp only [px_q]
            rfl
           refine pure_ (i := 8) (N := some 45) (v := undef) (a' := ?_) (px_l 9 4) rfl rfl (any_of HT_.out (by kernel_rfl)) (fun _ _ _ h => h) (Or.inr ⟨by rfl, rfl⟩) ?_ ?_
           rotate_left
           ·simp only [px_q]
            rfl
           refine pure_ (i := 9) (N := some 46) (v := undef) (a' := ?_) (px_l 10 3) rfl rfl (any_of HT_.out (by kernel_rfl)) (fun _ _ _ h => h) (Or.inr ⟨by rfl, rfl⟩) ?_ ?_
           rotate_left
           ·simp only [px_q]
            rfl
           refine pure_ (i := 10) (N := some 47) (v := undef) (a' := ?_) (px_l 11 2) rfl rfl (any_of HT_.out (by kernel_rfl)) (fun _ _ _ h => h) (Or.inr ⟨by rfl, rfl⟩) ?_ ?_
           rotate_left
           ·simp only [px_q]
            rfl
           refine pure_ (i := 11) (N := some 48) (v := undef) (a' := ?_) (px_l 12 1) rfl rfl (any_of HT_.out (by kernel_rfl)) (fun _ _ _ h => h) (Or.inr ⟨by rfl, rfl⟩) ?_ ?_
           rotate_left
           ·simp only [px_q]
            rfl
           refine pure_ (i := 12) (N := some 49) (v := ?_) (a' := ?_) (px_l 13 0) rfl rfl (any_of HT_.out (by kernel_rfl)) (fun _ _ _ h => h) (Or.inl ⟨by rfl, ?_⟩) ?_ ?_
           rotate_left
           ·intro w'
            go_simp
            with_reducible rfl
           rotate_left
           ·simp only [px_q]
            rfl
           refine done_ (done_of HT_.out (by kernel_rfl)) ?_
           try go_wp2
           go_ret
           exact ⟨by first | rfl | (simp [errW_none, errW_some] <;> rfl) | (simp [*, errW_none, errW_some] <;> rfl), px_h3 HB.out GE233.out GE234.out GE240.out⟩
          ·rw [if_neg c31] at H
           have c31b0 : decide (t241 < 0) = false := decide_eq_false c31
           clear c31
           by_cases c40 : 0 ≤ t241
           ·rw [if_pos c40] at H
            have c40b0 : decide (0 ≤ t241) = true := decide_eq_true c40
            clear c40
            by_cases c41 : t241 < (l1_1.length : Int)
            ·rw [if_pos c41] at H
             have c41b0 : decide (t241 < (l1_1.length : Int)) = true := decide_eq_true c41
             clear c41
             by_cases c42 : ((rd_T38 l1_1 t241).f2) = ((rd_T38 l0_1 x26_2).f2)
             ·rw [if_pos c42] at H
              have c42b0 : (((rd_T38 l1_1 t241).f2) == ((rd_T38 l0_1 x26_2).f2)) = true := beq_iff_eq.mpr c42
              have c42b1 : (((rd_T38 l1_1 t241).f2) != ((rd_T38 l0_1 x26_2).f2)) = false := bne_eq_false_iff_eq.mpr c42
              clear c42
              have H' := aM H
              clear H
              have p239 : 0 ≤ (x26_2 : Int) := px_od
              have q239 : x26_2 < (l0_1.length : Int) := px_od
              obtain ⟨ad239, e239, hx239_0, hx239_1, hx239_2, hx239_3⟩ := at_T38 HR0_1.out x26_2 p239 q239
              (try rw [← Nbq28.out] at hx239_3)
              (try rw [← Nbq28.out] at hw239_3)
              cases e239
              replace hx239_0 := px_hx HB.out hx239_0
              replace hx239_1 := px_hx HB.out hx239_1
              replace hx239_2 := px_hx HB.out hx239_2
              replace hx239_3 := px_hx HB.out hx239_3
              replace p239 := eq_true p239
              replace q239 := eq_true q239
              try go_wp2_with (first | ((with_reducible refine gate_dst (N := 6) rfl ?_); refine box_event ?hg (N := 6) ?hd (cs := #[.string (⟨#[]⟩ : ByteArray), .int .i64 0, .int .i64 0, .bool false]) (t := 38) ?hr ?_; (case hd => rfl); (case hg => rfl); (case hr => first | (go_simp; done) | (go_simp; rfl)); intro gb240 hg w43 hbox hb; have n0_ := aM (blk_below (g := gb233) (o := .cells #[.slice A0_0 l0_0.length c0_0, .slice (some ad239) l0_1.length c0_1] 30 (0, 0)) (px_bV BK233.out) hb); have n1_ := aM (blk_below (g := gb234) (o := .cells #[.slice A1_0 l1_0.length c1_0, .slice A1_1 l1_1.length c1_1] 30 (0, 0)) (px_bV BK234.out) hb); have n2_ := aM (below_step (px_h2 HB.out GE233.out GE234.out) hb); have n3_ := aM (hbox); have n4_ := aM ((by rw [hg]; exact (below_size (px_h2 HB.out GE233.out GE234.out)) : w.heap.size ≤ gb240)); have n5_ := aM ((by rw [hg]; exact (below_size (px_h2 HB.out GE233.out GE234.out)) : w.heap.size ≤ gb240)); have n6_ := aM ((by rw [hg]; exact Nat.ne_of_lt (blk_lt (g := gb233) (o := .cells #[.slice A0_0 l0_0.length c0_0, .slice (some ad239) l0_1.length c0_1] 30 (0, 0)) (px_bV BK233.out)) : gb233 ≠ gb240)); have n7_ := aM ((by rw [hg]; exact Nat.ne_of_gt (blk_lt (g := gb233) (o := .cells #[.slice A0_0 l0_0.length c0_0, .slice (some ad239) l0_1.length c0_1] 30 (0, 0)) (px_bV BK233.out)) : gb240 ≠ gb233)); have n8_ := aM ((by rw [hg]; exact Nat.ne_of_lt (blk_lt (g := gb234) (o := .cells #[.slice A1_0 l1_0.length c1_0, .slice A1_1 l1_1.length c1_1] 30 (0, 0)) (px_bV BK234.out)) : gb234 ≠ gb240)); have n9_ := aM ((by rw [hg]; exact Nat.ne_of_gt (blk_lt (g := gb234) (o := .cells #[.slice A1_0 l1_0.length c1_0, .slice A1_1 l1_1.length c1_1] 30 (0, 0)) (px_bV BK234.out)) : gb240 ≠ gb234)); clear BK233; clear BK234; clear HB; have BK233 := n0_; have BK234 := n1_; have HB := n2_; have BK240 := n3_; have GW240 := n4_; have GE240 := n5_; have NB233_240 := n6_; have NB240_233 := n7_; have NB234_240 := n8_; have NB240_234 := n9_; clear n0_ n1_ n2_ n3_ n4_ n5_ n6_ n7_ n8_ n9_; clear hb hbox hg; have hnb44 := NB240_233.out; have hnc44 := NB233_240.out; have hnb45 := NB240_234.out; have hnc45 := NB234_240.out; have hcz46_0 : w43.cell? ⟨gb240, 0, none⟩ = some (.string (⟨#[]⟩ : ByteArray)) := (blk_cell BK240.out 0).trans rfl; have hcz46_1 : w43.cell? ⟨gb240, 1, none⟩ = some (.int .i64 0) := (blk_cell BK240.out 1).trans rfl; have hcz46_2 : w43.cell? ⟨gb240, 2, none⟩ = some (.int .i64 0) := (blk_cell BK240.out 2).trans rfl; have hcz46_3 : w43.cell? ⟨gb240, 3, none⟩ = some (.bool false) := (blk_cell BK240.out 3).trans rfl; have hfz46_0 := blk_frozen BK240.out 0; have hfz46_1 := blk_frozen BK240.out 1; have hfz46_2 := blk_frozen BK240.out 2; have hfz46_3 := blk_frozen BK240.out 3; have hnb47 := NB234_233.out; have hnc47 := NB233_234.out; have hcz48_0 : w43.cell? ⟨gb234, 0, none⟩ = some (.slice A1_0 l1_0.length c1_0) := (blk_cell BK234.out 0).trans rfl; have hcz48_1 : w43.cell? ⟨gb234, 1, none⟩ = some (.slice A1_1 l1_1.length c1_1) := (blk_cell BK234.out 1).trans rfl; have hfz48_0 := blk_frozen BK234.out 0; have hfz48_1 := blk_frozen BK234.out 1) | ((with_reducible refine gate_callee (f := 18) rfl ?_); refine goesL_ (some 36) rfl rfl Try.func18 (by kernel_rfl) rfl #[.agg #[.slice A1_0 l1_0.length c1_0, .slice A1_1 l1_1.length c1_1], .string ((rd_T38 l0_1 x26_2).f0)] rfl px_dn ?_; (with_reducible refine (impl_Dict_find.calls k2 _ _ l1_0 _ _ l1_1 ((rd_T38 l0_1 x26_2).f0) t241 _ ?side1 ?side2 ?side3 ?side4 A30.out).mono ?_); (case side1 => exact Kd.C_below HR1_0.out (px_h3 HB.out GE233.out GE234.out GE240.out)); (case side2 => exact HC1_0.out); (case side3 => exact Kd.C_below HR1_1.out (px_h3 HB.out GE233.out GE234.out GE240.out)); (case side4 => exact HC1_1.out); rintro e w49 ⟨rfl, hb⟩; refine ⟨_, rfl, ?_⟩; have n0_ := aM (blk_below (g := gb233) (o := .cells #[.slice A0_0 l0_0.length c0_0, .slice (some ad239) l0_1.length c0_1] 30 (0, 0)) (by (with_reducible repeat (first | refine blk_drewN ?_ _ | refine blk_drew ?_ | refine blk_alloc ?_ _)); refine blk_far ?_ NB233_240.out _; (with_reducible repeat (first | refine blk_drewN ?_ _ | refine blk_drew ?_ | refine blk_alloc ?_ _)); refine blk_far ?_ NB233_240.out _; (with_reducible repeat (first | refine blk_drewN ?_ _ | refine blk_drew ?_ | refine blk_alloc ?_ _)); refine blk_far ?_ NB233_240.out _; (with_reducible repeat (first | refine blk_drewN ?_ _ | refine blk_drew ?_ | refine blk_alloc ?_ _)); refine blk_far ?_ NB233_240.out _; (with_reducible repeat (first | refine blk_drewN ?_ _ | refine blk_drew ?_ | refine blk_alloc ?_ _)); exact BK233.out) hb); have n1_ := aM (blk_below (g := gb234) (o := .cells #[.slice A1_0 l1_0.length c1_0, .slice A1_1 l1_1.length c1_1] 30 (0, 0)) (by (with_reducible repeat (first | refine blk_drewN ?_ _ | refine blk_drew ?_ | refine blk_alloc ?_ _)); refine blk_far ?_ NB234_240.out _; (with_reducible repeat (first | refine blk_drewN ?_ _ | refine blk_drew ?_ | refine blk_alloc ?_ _)); refine blk_far ?_ NB234_240.out _; (with_reducible repeat (first | refine blk_drewN ?_ _ | refine blk_drew ?_ | refine blk_alloc ?_ _)); refine blk_far ?_ NB234_240.out _; (with_reducible repeat (first | refine blk_drewN ?_ _ | refine blk_drew ?_ | refine blk_alloc ?_ _)); refine blk_far ?_ NB234_240.out _; (with_reducible repeat (first | refine blk_drewN ?_ _ | refine blk_drew ?_ | refine blk_alloc ?_ _)); exact BK234.out) hb); have n2_ := aM (blk_below (g := gb240) (o := .cells #[.string ((rd_T38 l0_1 x26_2).f0), .int .i64 ((rd_T38 l0_1 x26_2).f1), .int .i64 ((rd_T38 l0_1 x26_2).f2), .bool true] 38 (0, 0)) (by (with_reducible repeat (first | refine blk_drewN ?_ _ | refine blk_drew ?_ | refine blk_alloc ?_ _)); refine blk_put (cs := #[.string ((rd_T38 l0_1 x26_2).f0), .int .i64 ((rd_T38 l0_1 x26_2).f1), .int .i64 ((rd_T38 l0_1 x26_2).f2), .bool false]) ?_ 3 _ rfl; (with_reducible repeat (first | refine blk_drewN ?_ _ | refine blk_drew ?_ | refine blk_alloc ?_ _)); refine blk_put (cs := #[.string ((rd_T38 l0_1 x26_2).f0), .int .i64 ((rd_T38 l0_1 x26_2).f1), .int .i64 0, .bool false]) ?_ 2 _ rfl; (with_reducible repeat (first | refine blk_drewN ?_ _ | refine blk_drew ?_ | refine blk_alloc ?_ _)); refine blk_put (cs := #[.string ((rd_T38 l0_1 x26_2).f0), .int .i64 0, .int .i64 0, .bool false]) ?_ 1 _ rfl; (with_reducible repeat (first | refine blk_drewN ?_ _ | refine blk_drew ?_ | refine blk_alloc ?_ _)); refine blk_put (cs := #[.string (⟨#[]⟩ : ByteArray), .int .i64 0, .int .i64 0, .bool false]) ?_ 0 _ rfl; (with_reducible repeat (first | refine blk_drewN ?_ _ | refine blk_drew ?_ | refine blk_alloc ?_ _)); exact BK240.out) hb); have n3_ := aM (below_step (px_h3 HB.out GE233.out GE234.out GE240.out) hb); clear BK233; clear BK234; clear BK240; clear HB; have BK233 := n0_; have BK234 := n1_; have BK240 := n2_; have HB := n3_; clear n0_ n1_ n2_ n3_; (try clear hb); (try clear hb2); (try clear hk); (try clear hi)))
              have n0_ := aM (blk_drew BK233.out)
              have n1_ := aM (blk_drew BK234.out)
              have n2_ := aM (blk_drew BK240.out)
              have n3_ := aM (below_drew1 HB.out)
              clear BK233
              clear BK234
              clear BK240
              clear HB
              have BK233 := n0_
              have BK234 := n1_
              have BK240 := n2_
              have HB := n3_
              clear n0_ n1_ n2_ n3_
              have p242 : 0 ≤ (t241 : Int) := px_od
              have q242 : t241 < (l1_1.length : Int) := px_od
              obtain ⟨ad242, e242, hx242_0, hx242_1, hx242_2, hx242_3⟩ := at_T38 HR1_1.out t241 p242 q242
              have hw242_3 := hx242_3
              have hw242_2 := hx242_2
              have hw242_1 := hx242_1
              have hw242_0 := hx242_0
              (try rw [← Nbq28.out] at hx242_3)
              (try rw [← Nbq28.out] at hw242_3)
              cases e242
              replace hx242_0 := px_hx HB.out hx242_0
              replace hx242_1 := px_hx HB.out hx242_1
              replace hx242_2 := px_hx HB.out hx242_2
              replace hx242_3 := px_hx HB.out hx242_3
              replace p242 := eq_true p242
              replace q242 := eq_true q242
              refine start_ (n := 13) (S := fun w' => w'.cell? ⟨gb234, 0, none⟩ = some (.slice A1_0 l1_0.length c1_0) ∧ w'.cell? ⟨gb234, 1, none⟩ = some (.slice (some ad242) l1_1.length c1_1) ∧ w'.cell? ⟨gb240, 0, none⟩ = some (.string ((rd_T38 l0_1 x26_2).f0)) ∧ w'.cell? ⟨gb240, 1, none⟩ = some (.int .i64 ((rd_T38 l0_1 x26_2).f1)) ∧ w'.cell? ⟨gb240, 2, none⟩ = some (.int .i64 ((rd_T38 l0_1 x26_2).f2)) ∧ w'.cell? ⟨gb240, 3, none⟩ = some (.bool true) ∧ w'.cell? (ad242.add ((t241).toNat * 4)) = some (.string ((rd_T38 l1_1 t241).f0)) ∧ w'.cell? ⟨(ad242.add ((t241).toNat * 4)).block, (ad242.add ((t241).toNat * 4)).off + 1, none⟩ = some (.int .i64 ((rd_T38 l1_1 t241).f1)) ∧ w'.cell? ⟨(ad242.add ((t241).toNat * 4)).block, (ad242.add ((t241).toNat * 4)).off + 2, none⟩ = some (.int .i64 ((rd_T38 l1_1 t241).f2)) ∧ w'.cell? ⟨(ad242.add ((t241).toNat * 4)).block, (ad242.add ((t241).toNat * 4)).off + 3, none⟩ = some (.bool ((rd_T38 l1_1 t241).f3))) (ds := []) (px_l 0 13) (by kernel_rfl) rfl rfl ⟨(blk_cell BK234.out 0).trans rfl, (blk_cell BK234.out 1).trans rfl, (blk_cell BK240.out 0).trans rfl, (blk_cell BK240.out 1).trans rfl, (blk_cell BK240.out 2).trans rfl, (blk_cell BK240.out 3).trans rfl, ((HB.out.cell (World.block_lt_of_cell? w _ hw242_0)).trans hw242_0), ((HB.out.cell (World.block_lt_of_cell? w _ hw242_1)).trans hw242_1), ((HB.out.cell (World.block_lt_of_cell? w _ hw242_2)).trans hw242_2), ((HB.out.cell (World.block_lt_of_cell? w _ hw242_3)).trans hw242_3)⟩ (fun hHeld => ?_); refine with_tabW impl_DictSame.tab8 impl_DictSame.bits8 (fun HT_ HW_ => ?_)
              generalize w49.drew = w50 at BK233 BK234 BK240 HB hx242_0 hx242_1 hx242_2 hx242_3 hHeld ⊢
              refine pure_ (i := 0) (N := some 37) (v := ?_) (a' := ?_) (px_l 1 12) rfl rfl (any_of HT_.out (by kernel_rfl)) (fun _ _ _ h => h) (Or.inl ⟨by rfl, ?_⟩) ?_ ?_
              rotate_left
              ·intro w'
               go_simp
               with_reducible rfl
              rotate_left
              ·simp only [px_q]
               rfl
              refine pure_ (i := 1) (N := some 38) (v := ?_) (a' := ?_) (px_l 2 11) rfl rfl (any_of HT_.out (by kernel_rfl)) (fun _ _ _ h => h) (Or.inl ⟨by rfl, ?_⟩) ?_ ?_
              rotate_left
              ·intro w'
               go_simp
               with_reducible rfl
              rotate_left
              ·simp only [px_q]
               rfl
              refine pure_ (i := 2) (N := some 39) (v := ?_) (a' := ?_) (px_l 3 10) rfl rfl (any_of HT_.out (by kernel_rfl)) (fun _ _ _ h => h) (Or.inl ⟨by rfl, ?_⟩) ?_ ?_
              rotate_left
              ·intro w'
               go_simp
               with_reducible rfl
              rotate_left
              ·simp only [px_q]
               rfl
              refine pure_ (i := 3) (N := some 40) (v := ?_) (a' := ?_) (px_l 4 9) rfl rfl (any_of HT_.out (by kernel_rfl)) (fun _ _ _ h => h) (Or.inl ⟨by rfl, ?_⟩) ?_ ?_
              rotate_left
              ·intro w'
               go_simp
               with_reducible rfl
              rotate_left
              ·simp only [px_q]
               rfl
              refine pure_ (i := 5) (N := some 42) (v := ?_) (a' := ?_) #[true, true, true, true, false, true, false, false, false, false, false, false, false] rfl rfl (any_of HT_.out (by kernel_rfl)) (fun _ _ _ h => h) (Or.inl ⟨by rfl, ?_⟩) ?_ ?_
              rotate_left
              ·intro w'
               go_simp
               with_reducible rfl
              rotate_left
              ·simp only [px_q]
               rfl
              refine pure_ (i := 9) (N := some 46) (v := ?_) (a' := ?_) #[true, true, true, true, false, true, false, false, false, true, false, false, false] rfl rfl (any_of HT_.out (by kernel_rfl)) (fun _ _ _ h => h) (Or.inl ⟨by rfl, ?_⟩) ?_ ?_
              rotate_left
              ·intro w'
               go_simp
               with_reducible rfl
              rotate_left
              ·simp only [px_q]
               rfl
              refine take_ (i := 4) (N := some 41) (v := ?_) (a' := ?_) #[true, true, true, true, true, true, false, false, false, true, false, false, false] rfl rfl (take_ofW HT_.out HW_.out (by kernel_rfl)) (fun _ _ _ h => h) (Or.inl ⟨by rfl, ?_⟩) hHeld ?_ ?_
              rotate_left
              ·rintro w' ⟨s0, s1, s2, s3, s4, s5, s6, s7, s8, s9⟩
               go_simp
               with_reducible rfl
              rotate_left
              ·simp only [px_q]
               rfl
              refine pure_ (i := 6) (N := some 43) (v := ?_) (a' := ?_) #[true, true, true, true, true, true, true, false, false, true, false, false, false] rfl rfl (any_of HT_.out (by kernel_rfl)) (fun _ _ _ h => h) (Or.inl ⟨by rfl, ?_⟩) ?_ ?_
              rotate_left
              ·intro w'
               go_simp
               with_reducible rfl
              rotate_left
              ·simp only [px_q]
               rfl
              refine pure_ (i := 7) (N := some 44) (v := ?_) (a' := ?_) #[true, true, true, true, true, true, true, true, false, true, false, false, false] rfl rfl (any_of HT_.out (by kernel_rfl)) (fun _ _ _ h => h) (Or.inl ⟨by rfl, ?_⟩) ?_ ?_
              rotate_left
              ·intro w'
               go_simp
               with_reducible rfl
              rotate_left
              ·simp only [px_q]
               rfl
              refine take_ (i := 8) (N := some 45) (v := ?_) (a' := ?_) (px_l 10 3) rfl rfl (take_ofW HT_.out HW_.out (by kernel_rfl)) (fun _ _ _ h => h) (Or.inl ⟨by rfl, ?_⟩) hHeld ?_ ?_
              rotate_left
              ·rintro w' ⟨s0, s1, s2, s3, s4, s5, s6, s7, s8, s9⟩
               go_simp
               with_reducible rfl
              rotate_left
              ·simp only [px_q]
               rfl
              refine take_ (i := 10) (N := some 47) (v := ?_) (a' := ?_) (px_l 11 2) rfl rfl (take_ofW HT_.out HW_.out (by kernel_rfl)) (fun _ _ _ h => h) (Or.inl ⟨by rfl, ?_⟩) hHeld ?_ ?_
              rotate_left
              ·rintro w' ⟨s0, s1, s2, s3, s4, s5, s6, s7, s8, s9⟩
               go_simp
               with_reducible rfl
              rotate_left
              ·simp only [px_q]
               rfl
              refine pure_ (i := 11) (N := some 48) (v := ?_) (a' := ?_) (px_l 12 1) rfl rfl (any_of HT_.out (by kernel_rfl)) (fun _ _ _ h => h) (Or.inl ⟨by rfl, ?_⟩) ?_ ?_
              rotate_left
              ·intro w'
               go_simp
               with_reducible rfl
              rotate_left
              ·simp only [px_q]
               rfl
              refine pure_ (i := 12) (N := some 49) (v := ?_) (a' := ?_) (px_l 13 0) rfl rfl (any_of HT_.out (by kernel_rfl)) (fun _ _ _ h => h) (Or.inl ⟨by rfl, ?_⟩) ?_ ?_
              rotate_left
              ·intro w'
               go_simp
               with_reducible rfl
              rotate_left
              ·simp only [px_q]
               rfl
              refine done_ (done_of HT_.out (by kernel_rfl)) ?_
              try go_wp2
              go_roundg k2
              case measure => have := HJ2.out; have := HK2.out; omega
              case rel => exact ⟨(wrap64 (x26_2 + 1)), px_rf, H', ⟨by have := HJ2.out; have := HK2.out; omega⟩, ⟨by first | exact px_bV BK233.out | (rw [← Nbq28.out]; exact px_bV BK233.out)⟩, ⟨by first | exact px_bV BK234.out | (rw [← Nbq28.out]; exact px_bV BK234.out)⟩, ⟨px_h3 HB.out GE233.out GE234.out GE240.out⟩⟩
             ·rw [if_neg c42] at H
              have c42b0 : (((rd_T38 l1_1 t241).f2) == ((rd_T38 l0_1 x26_2).f2)) = false := beq_eq_false_iff_ne.mpr c42
              have c42b1 : (((rd_T38 l1_1 t241).f2) != ((rd_T38 l0_1 x26_2).f2)) = true := bne_iff_ne.mpr c42
              obtain rfl := Option.some.inj H
              have p239 : 0 ≤ (x26_2 : Int) := px_od
              have q239 : x26_2 < (l0_1.length : Int) := px_od
              obtain ⟨ad239, e239, hx239_0, hx239_1, hx239_2, hx239_3⟩ := at_T38 HR0_1.out x26_2 p239 q239
              (try rw [← Nbq28.out] at hx239_3)
              (try rw [← Nbq28.out] at hw239_3)
              cases e239
              replace hx239_0 := px_hx HB.out hx239_0
              replace hx239_1 := px_hx HB.out hx239_1
              replace hx239_2 := px_hx HB.out hx239_2
              replace hx239_3 := px_hx HB.out hx239_3
              replace p239 := eq_true p239
              replace q239 := eq_true q239
              try go_wp2_with (first | ((with_reducible refine gate_dst (N := 6) rfl ?_); refine box_event ?hg (N := 6) ?hd (cs := #[.string (⟨#[]⟩ : ByteArray), .int .i64 0, .int .i64 0, .bool false]) (t := 38) ?hr ?_; (case hd => rfl); (case hg => rfl); (case hr => first | (go_simp; done) | (go_simp; rfl)); intro gb240 hg w51 hbox hb; have n0_ := aM (blk_below (g := gb233) (o := .cells #[.slice A0_0 l0_0.length c0_0, .slice (some ad239) l0_1.length c0_1] 30 (0, 0)) (px_bV BK233.out) hb); have n1_ := aM (blk_below (g := gb234) (o := .cells #[.slice A1_0 l1_0.length c1_0, .slice A1_1 l1_1.length c1_1] 30 (0, 0)) (px_bV BK234.out) hb); have n2_ := aM (below_step (px_h2 HB.out GE233.out GE234.out) hb); have n3_ := aM (hbox); have n4_ := aM ((by rw [hg]; exact (below_size (px_h2 HB.out GE233.out GE234.out)) : w.heap.size ≤ gb240)); have n5_ := aM ((by rw [hg]; exact (below_size (px_h2 HB.out GE233.out GE234.out)) : w.heap.size ≤ gb240)); have n6_ := aM ((by rw [hg]; exact Nat.ne_of_lt (blk_lt (g := gb233) (o := .cells #[.slice A0_0 l0_0.length c0_0, .slice (some ad239) l0_1.length c0_1] 30 (0, 0)) (px_bV BK233.out)) : gb233 ≠ gb240)); have n7_ := aM ((by rw [hg]; exact Nat.ne_of_gt (blk_lt (g := gb233) (o := .cells #[.slice A0_0 l0_0.length c0_0, .slice (some ad239) l0_1.length c0_1] 30 (0, 0)) (px_bV BK233.out)) : gb240 ≠ gb233)); have n8_ := aM ((by rw [hg]; exact Nat.ne_of_lt (blk_lt (g := gb234) (o := .cells #[.slice A1_0 l1_0.length c1_0, .slice A1_1 l1_1.length c1_1] 30 (0, 0)) (px_bV BK234.out)) : gb234 ≠ gb240)); have n9_ := aM ((by rw [hg]; exact Nat.ne_of_gt (blk_lt (g := gb234) (o := .cells #[.slice A1_0 l1_0.length c1_0, .slice A1_1 l1_1.length c1_1] 30 (0, 0)) (px_bV BK234.out)) : gb240 ≠ gb234)); clear BK233; clear BK234; clear HB; have BK233 := n0_; have BK234 := n1_; have HB := n2_; have BK240 := n3_; have GW240 := n4_; have GE240 := n5_; have NB233_240 := n6_; have NB240_233 := n7_; have NB234_240 := n8_; have NB240_234 := n9_; clear n0_ n1_ n2_ n3_ n4_ n5_ n6_ n7_ n8_ n9_; clear hb hbox hg; have hnb52 := NB240_233.out; have hnc52 := NB233_240.out; have hnb53 := NB240_234.out; have hnc53 := NB234_240.out; have hcz54_0 : w51.cell? ⟨gb240, 0, none⟩ = some (.string (⟨#[]⟩ : ByteArray)) := (blk_cell BK240.out 0).trans rfl; have hcz54_1 : w51.cell? ⟨gb240, 1, none⟩ = some (.int .i64 0) := (blk_cell BK240.out 1).trans rfl; have hcz54_2 : w51.cell? ⟨gb240, 2, none⟩ = some (.int .i64 0) := (blk_cell BK240.out 2).trans rfl; have hcz54_3 : w51.cell? ⟨gb240, 3, none⟩ = some (.bool false) := (blk_cell BK240.out 3).trans rfl; have hfz54_0 := blk_frozen BK240.out 0; have hfz54_1 := blk_frozen BK240.out 1; have hfz54_2 := blk_frozen BK240.out 2; have hfz54_3 := blk_frozen BK240.out 3; have hnb55 := NB234_233.out; have hnc55 := NB233_234.out; have hcz56_0 : w51.cell? ⟨gb234, 0, none⟩ = some (.slice A1_0 l1_0.length c1_0) := (blk_cell BK234.out 0).trans rfl; have hcz56_1 : w51.cell? ⟨gb234, 1, none⟩ = some (.slice A1_1 l1_1.length c1_1) := (blk_cell BK234.out 1).trans rfl; have hfz56_0 := blk_frozen BK234.out 0; have hfz56_1 := blk_frozen BK234.out 1) | ((with_reducible refine gate_callee (f := 18) rfl ?_); refine goesL_ (some 36) rfl rfl Try.func18 (by kernel_rfl) rfl #[.agg #[.slice A1_0 l1_0.length c1_0, .slice A1_1 l1_1.length c1_1], .string ((rd_T38 l0_1 x26_2).f0)] rfl px_dn ?_; (with_reducible refine (impl_Dict_find.calls k2 _ _ l1_0 _ _ l1_1 ((rd_T38 l0_1 x26_2).f0) t241 _ ?side1 ?side2 ?side3 ?side4 A30.out).mono ?_); (case side1 => exact Kd.C_below HR1_0.out (px_h3 HB.out GE233.out GE234.out GE240.out)); (case side2 => exact HC1_0.out); (case side3 => exact Kd.C_below HR1_1.out (px_h3 HB.out GE233.out GE234.out GE240.out)); (case side4 => exact HC1_1.out); rintro e w57 ⟨rfl, hb⟩; refine ⟨_, rfl, ?_⟩; have n0_ := aM (blk_below (g := gb233) (o := .cells #[.slice A0_0 l0_0.length c0_0, .slice (some ad239) l0_1.length c0_1] 30 (0, 0)) (by (with_reducible repeat (first | refine blk_drewN ?_ _ | refine blk_drew ?_ | refine blk_alloc ?_ _)); refine blk_far ?_ NB233_240.out _; (with_reducible repeat (first | refine blk_drewN ?_ _ | refine blk_drew ?_ | refine blk_alloc ?_ _)); refine blk_far ?_ NB233_240.out _; (with_reducible repeat (first | refine blk_drewN ?_ _ | refine blk_drew ?_ | refine blk_alloc ?_ _)); refine blk_far ?_ NB233_240.out _; (with_reducible repeat (first | refine blk_drewN ?_ _ | refine blk_drew ?_ | refine blk_alloc ?_ _)); refine blk_far ?_ NB233_240.out _; (with_reducible repeat (first | refine blk_drewN ?_ _ | refine blk_drew ?_ | refine blk_alloc ?_ _)); exact BK233.out) hb); have n1_ := aM (blk_below (g := gb234) (o := .cells #[.slice A1_0 l1_0.length c1_0, .slice A1_1 l1_1.length c1_1] 30 (0, 0)) (by (with_reducible repeat (first | refine blk_drewN ?_ _ | refine blk_drew ?_ | refine blk_alloc ?_ _)); refine blk_far ?_ NB234_240.out _; (with_reducible repeat (first | refine blk_drewN ?_ _ | refine blk_drew ?_ | refine blk_alloc ?_ _)); refine blk_far ?_ NB234_240.out _; (with_reducible repeat (first | refine blk_drewN ?_ _ | refine blk_drew ?_ | refine blk_alloc ?_ _)); refine blk_far ?_ NB234_240.out _; (with_reducible repeat (first | refine blk_drewN ?_ _ | refine blk_drew ?_ | refine blk_alloc ?_ _)); refine blk_far ?_ NB234_240.out _; (with_reducible repeat (first | refine blk_drewN ?_ _ | refine blk_drew ?_ | refine blk_alloc ?_ _)); exact BK234.out) hb); have n2_ := aM (blk_below (g := gb240) (o := .cells #[.string ((rd_T38 l0_1 x26_2).f0), .int .i64 ((rd_T38 l0_1 x26_2).f1), .int .i64 ((rd_T38 l0_1 x26_2).f2), .bool true] 38 (0, 0)) (by (with_reducible repeat (first | refine blk_drewN ?_ _ | refine blk_drew ?_ | refine blk_alloc ?_ _)); refine blk_put (cs := #[.string ((rd_T38 l0_1 x26_2).f0), .int .i64 ((rd_T38 l0_1 x26_2).f1), .int .i64 ((rd_T38 l0_1 x26_2).f2), .bool false]) ?_ 3 _ rfl; (with_reducible repeat (first | refine blk_drewN ?_ _ | refine blk_drew ?_ | refine blk_alloc ?_ _)); refine blk_put (cs := #[.string ((rd_T38 l0_1 x26_2).f0), .int .i64 ((rd_T38 l0_1 x26_2).f1), .int .i64 0, .bool false]) ?_ 2 _ rfl; (with_reducible repeat (first | refine blk_drewN ?_ _ | refine blk_drew ?_ | refine blk_alloc ?_ _)); refine blk_put (cs := #[.string ((rd_T38 l0_1 x26_2).f0), .int .i64 0, .int .i64 0, .bool false]) ?_ 1 _ rfl; (with_reducible repeat (first | refine blk_drewN ?_ _ | refine blk_drew ?_ | refine blk_alloc ?_ _)); refine blk_put (cs := #[.string (⟨#[]⟩ : ByteArray), .int .i64 0, .int .i64 0, .bool false]) ?_ 0 _ rfl; (with_reducible repeat (first | refine blk_drewN ?_ _ | refine blk_drew ?_ | refine blk_alloc ?_ _)); exact BK240.out) hb); have n3_ := aM (below_step (px_h3 HB.out GE233.out GE234.out GE240.out) hb); clear BK233; clear BK234; clear BK240; clear HB; have BK233 := n0_; have BK234 := n1_; have BK240 := n2_; have HB := n3_; clear n0_ n1_ n2_ n3_; (try clear hb); (try clear hb2); (try clear hk); (try clear hi)))
              have n0_ := aM (blk_drew BK233.out)
              have n1_ := aM (blk_drew BK234.out)
              have n2_ := aM (blk_drew BK240.out)
              have n3_ := aM (below_drew1 HB.out)
              clear BK233
              clear BK234
              clear BK240
              clear HB
              have BK233 := n0_
              have BK234 := n1_
              have BK240 := n2_
              have HB := n3_
              clear n0_ n1_ n2_ n3_
              have p242 : 0 ≤ (t241 : Int) := px_od
              have q242 : t241 < (l1_1.length : Int) := px_od
              obtain ⟨ad242, e242, hx242_0, hx242_1, hx242_2, hx242_3⟩ := at_T38 HR1_1.out t241 p242 q242
              have hw242_3 := hx242_3
              have hw242_2 := hx242_2
              have hw242_1 := hx242_1
              have hw242_0 := hx242_0
              (try rw [← Nbq28.out] at hx242_3)
              (try rw [← Nbq28.out] at hw242_3)
              cases e242
              replace hx242_0 := px_hx HB.out hx242_0
              replace hx242_1 := px_hx HB.out hx242_1
              replace hx242_2 := px_hx HB.out hx242_2
              replace hx242_3 := px_hx HB.out hx242_3
              replace p242 := eq_true p242
              replace q242 := eq_true q242
              refine start_ (n := 13) (S := fun w' => w'.cell? ⟨gb234, 0, none⟩ = some (.slice A1_0 l1_0.length c1_0) ∧ w'.cell? ⟨gb234, 1, none⟩ = some (.slice (some ad242) l1_1.length c1_1) ∧ w'.cell? ⟨gb240, 0, none⟩ = some (.string ((rd_T38 l0_1 x26_2).f0)) ∧ w'.cell? ⟨gb240, 1, none⟩ = some (.int .i64 ((rd_T38 l0_1 x26_2).f1)) ∧ w'.cell? ⟨gb240, 2, none⟩ = some (.int .i64 ((rd_T38 l0_1 x26_2).f2)) ∧ w'.cell? ⟨gb240, 3, none⟩ = some (.bool true) ∧ w'.cell? (ad242.add ((t241).toNat * 4)) = some (.string ((rd_T38 l1_1 t241).f0)) ∧ w'.cell? ⟨(ad242.add ((t241).toNat * 4)).block, (ad242.add ((t241).toNat * 4)).off + 1, none⟩ = some (.int .i64 ((rd_T38 l1_1 t241).f1)) ∧ w'.cell? ⟨(ad242.add ((t241).toNat * 4)).block, (ad242.add ((t241).toNat * 4)).off + 2, none⟩ = some (.int .i64 ((rd_T38 l1_1 t241).f2)) ∧ w'.cell? ⟨(ad242.add ((t241).toNat * 4)).block, (ad242.add ((t241).toNat * 4)).off + 3, none⟩ = some (.bool ((rd_T38 l1_1 t241).f3))) (ds := []) (px_l 0 13) (by kernel_rfl) rfl rfl ⟨(blk_cell BK234.out 0).trans rfl, (blk_cell BK234.out 1).trans rfl, (blk_cell BK240.out 0).trans rfl, (blk_cell BK240.out 1).trans rfl, (blk_cell BK240.out 2).trans rfl, (blk_cell BK240.out 3).trans rfl, ((HB.out.cell (World.block_lt_of_cell? w _ hw242_0)).trans hw242_0), ((HB.out.cell (World.block_lt_of_cell? w _ hw242_1)).trans hw242_1), ((HB.out.cell (World.block_lt_of_cell? w _ hw242_2)).trans hw242_2), ((HB.out.cell (World.block_lt_of_cell? w _ hw242_3)).trans hw242_3)⟩ (fun hHeld => ?_); refine with_tabW impl_DictSame.tab8 impl_DictSame.bits8 (fun HT_ HW_ => ?_)
              generalize w57.drew = w58 at BK233 BK234 BK240 HB hx242_0 hx242_1 hx242_2 hx242_3 hHeld ⊢
              refine pure_ (i := 0) (N := some 37) (v := ?_) (a' := ?_) (px_l 1 12) rfl rfl (any_of HT_.out (by kernel_rfl)) (fun _ _ _ h => h) (Or.inl ⟨by rfl, ?_⟩) ?_ ?_
              rotate_left
              ·intro w'
               go_simp
               with_reducible rfl
              rotate_left
              ·simp only [px_q]
               rfl
              refine pure_ (i := 1) (N := some 38) (v := ?_) (a' := ?_) (px_l 2 11) rfl rfl (any_of HT_.out (by kernel_rfl)) (fun _ _ _ h => h) (Or.inl ⟨by rfl, ?_⟩) ?_ ?_
              rotate_left
              ·intro w'
               go_simp
               with_reducible rfl
              rotate_left
              ·simp only [px_q]
               rfl
              refine pure_ (i := 2) (N := some 39) (v := ?_) (a' := ?_) (px_l 3 10) rfl rfl (any_of HT_.out (by kernel_rfl)) (fun _ _ _ h => h) (Or.inl ⟨by rfl, ?_⟩) ?_ ?_
              rotate_left
              ·intro w'
               go_simp
               with_reducible rfl
              rotate_left
              ·simp only [px_q]
               rfl
              refine pure_ (i := 3) (N := some 40) (v := ?_) (a' := ?_) (px_l 4 9) rfl rfl (any_of HT_.out (by kernel_rfl)) (fun _ _ _ h => h) (Or.inl ⟨by rfl, ?_⟩) ?_ ?_
              rotate_left
              ·intro w'
               go_simp
               with_reducible rfl
              rotate_left
              ·simp only [px_q]
               rfl
              refine pure_ (i := 5) (N := some 42) (v := ?_) (a' := ?_) #[true, true, true, true, false, true, false, false, false, false, false, false, false] rfl rfl (any_of HT_.out (by kernel_rfl)) (fun _ _ _ h => h) (Or.inl ⟨by rfl, ?_⟩) ?_ ?_
              rotate_left
              ·intro w'
               go_simp
               with_reducible rfl
              rotate_left
              ·simp only [px_q]
               rfl
              refine pure_ (i := 9) (N := some 46) (v := ?_) (a' := ?_) #[true, true, true, true, false, true, false, false, false, true, false, false, false] rfl rfl (any_of HT_.out (by kernel_rfl)) (fun _ _ _ h => h) (Or.inl ⟨by rfl, ?_⟩) ?_ ?_
              rotate_left
              ·intro w'
               go_simp
               with_reducible rfl
              rotate_left
              ·simp only [px_q]
               rfl
              refine take_ (i := 4) (N := some 41) (v := ?_) (a' := ?_) #[true, true, true, true, true, true, false, false, false, true, false, false, false] rfl rfl (take_ofW HT_.out HW_.out (by kernel_rfl)) (fun _ _ _ h => h) (Or.inl ⟨by rfl, ?_⟩) hHeld ?_ ?_
              rotate_left
              ·rintro w' ⟨s0, s1, s2, s3, s4, s5, s6, s7, s8, s9⟩
               go_simp
               with_reducible rfl
              rotate_left
              ·simp only [px_q]
               rfl
              refine pure_ (i := 6) (N := some 43) (v := ?_) (a' := ?_) #[true, true, true, true, true, true, true, false, false, true, false, false, false] rfl rfl (any_of HT_.out (by kernel_rfl)) (fun _ _ _ h => h) (Or.inl ⟨by rfl, ?_⟩) ?_ ?_
              rotate_left
              ·intro w'
               go_simp
               with_reducible rfl
              rotate_left
              ·simp only [px_q]
               rfl
              refine pure_ (i := 7) (N := some 44) (v := ?_) (a' := ?_) #[true, true, true, true, true, true, true, true, false, true, false, false, false] rfl rfl (any_of HT_.out (by kernel_rfl)) (fun _ _ _ h => h) (Or.inl ⟨by rfl, ?_⟩) ?_ ?_
              rotate_left
              ·intro w'
               go_simp
               with_reducible rfl
              rotate_left
              ·simp only [px_q]
               rfl
              refine take_ (i := 8) (N := some 45) (v := ?_) (a' := ?_) (px_l 10 3) rfl rfl (take_ofW HT_.out HW_.out (by kernel_rfl)) (fun _ _ _ h => h) (Or.inl ⟨by rfl, ?_⟩) hHeld ?_ ?_
              rotate_left
              ·rintro w' ⟨s0, s1, s2, s3, s4, s5, s6, s7, s8, s9⟩
               go_simp
               with_reducible rfl
              rotate_left
              ·simp only [px_q]
               rfl
              refine take_ (i := 10) (N := some 47) (v := ?_) (a' := ?_) (px_l 11 2) rfl rfl (take_ofW HT_.out HW_.out (by kernel_rfl)) (fun _ _ _ h => h) (Or.inl ⟨by rfl, ?_⟩) hHeld ?_ ?_
              rotate_left
              ·rintro w' ⟨s0, s1, s2, s3, s4, s5, s6, s7, s8, s9⟩
               go_simp
               with_reducible rfl
              rotate_left
              ·simp only [px_q]
               rfl
              refine pure_ (i := 11) (N := some 48) (v := ?_) (a' := ?_) (px_l 12 1) rfl rfl (any_of HT_.out (by kernel_rfl)) (fun _ _ _ h => h) (Or.inl ⟨by rfl, ?_⟩) ?_ ?_
              rotate_left
              ·intro w'
               go_simp
               with_reducible rfl
              rotate_left
              ·simp only [px_q]
               rfl
              refine pure_ (i := 12) (N := some 49) (v := ?_) (a' := ?_) (px_l 13 0) rfl rfl (any_of HT_.out (by kernel_rfl)) (fun _ _ _ h => h) (Or.inl ⟨by rfl, ?_⟩) ?_ ?_
              rotate_left
              ·intro w'
               go_simp
               with_reducible rfl
              rotate_left
              ·simp only [px_q]
               rfl
              refine done_ (done_of HT_.out (by kernel_rfl)) ?_
              try go_wp2
              go_ret
              exact ⟨by first | rfl | (simp [errW_none, errW_some] <;> rfl) | (simp [*, errW_none, errW_some] <;> rfl), px_h3 HB.out GE233.out GE234.out GE240.out⟩
            ·rw [if_neg c41] at H
             exact absurd H (by simp)
           ·rw [if_neg c40] at H
            exact absurd H (by simp)
         ·replace c29 := Bool.eq_false_iff.mpr c29
          subst c29
          have H1 : (impl_DictSame.l0 k2 l0_1 (l0_1.length : Int) (wrap64 (x26_2 + 1)) l1_0 l1_1) = some r := by rw [if_neg (show ¬ (false = true) by decide)] at H; exact H
          clear H
          have H := H1
          clear H1
          have H' := aM H
          clear H
          have p239 : 0 ≤ (x26_2 : Int) := px_od
          have q239 : x26_2 < (l0_1.length : Int) := px_od
          obtain ⟨ad239, e239, hx239_0, hx239_1, hx239_2, hx239_3⟩ := at_T38 HR0_1.out x26_2 p239 q239
          (try rw [← Nbq28.out] at hx239_3)
          (try rw [← Nbq28.out] at hw239_3)
          cases e239
          replace hx239_0 := px_hx HB.out hx239_0
          replace hx239_1 := px_hx HB.out hx239_1
          replace hx239_2 := px_hx HB.out hx239_2
          replace hx239_3 := px_hx HB.out hx239_3
          replace p239 := eq_true p239
          replace q239 := eq_true q239
          go_wp2_with (first | ((with_reducible refine gate_dst (N := 6) rfl ?_); refine box_event ?hg (N := 6) ?hd (cs := #[.string (⟨#[]⟩ : ByteArray), .int .i64 0, .int .i64 0, .bool false]) (t := 38) ?hr ?_; (case hd => rfl); (case hg => rfl); (case hr => first | (go_simp; done) | (go_simp; rfl)); intro gb240 hg w59 hbox hb; have n0_ := aM (blk_below (g := gb233) (o := .cells #[.slice A0_0 l0_0.length c0_0, .slice (some ad239) l0_1.length c0_1] 30 (0, 0)) (px_bV BK233.out) hb); have n1_ := aM (blk_below (g := gb234) (o := .cells #[.slice A1_0 l1_0.length c1_0, .slice A1_1 l1_1.length c1_1] 30 (0, 0)) (px_bV BK234.out) hb); have n2_ := aM (below_step (px_h2 HB.out GE233.out GE234.out) hb); have n3_ := aM (hbox); have n4_ := aM ((by rw [hg]; exact (below_size (px_h2 HB.out GE233.out GE234.out)) : w.heap.size ≤ gb240)); have n5_ := aM ((by rw [hg]; exact (below_size (px_h2 HB.out GE233.out GE234.out)) : w.heap.size ≤ gb240)); have n6_ := aM ((by rw [hg]; exact Nat.ne_of_lt (blk_lt (g := gb233) (o := .cells #[.slice A0_0 l0_0.length c0_0, .slice (some ad239) l0_1.length c0_1] 30 (0, 0)) (px_bV BK233.out)) : gb233 ≠ gb240)); have n7_ := aM ((by rw [hg]; exact Nat.ne_of_gt (blk_lt (g := gb233) (o := .cells #[.slice A0_0 l0_0.length c0_0, .slice (some ad239) l0_1.length c0_1] 30 (0, 0)) (px_bV BK233.out)) : gb240 ≠ gb233)); have n8_ := aM ((by rw [hg]; exact Nat.ne_of_lt (blk_lt (g := gb234) (o := .cells #[.slice A1_0 l1_0.length c1_0, .slice A1_1 l1_1.length c1_1] 30 (0, 0)) (px_bV BK234.out)) : gb234 ≠ gb240)); have n9_ := aM ((by rw [hg]; exact Nat.ne_of_gt (blk_lt (g := gb234) (o := .cells #[.slice A1_0 l1_0.length c1_0, .slice A1_1 l1_1.length c1_1] 30 (0, 0)) (px_bV BK234.out)) : gb240 ≠ gb234)); clear BK233; clear BK234; clear HB; have BK233 := n0_; have BK234 := n1_; have HB := n2_; have BK240 := n3_; have GW240 := n4_; have GE240 := n5_; have NB233_240 := n6_; have NB240_233 := n7_; have NB234_240 := n8_; have NB240_234 := n9_; clear n0_ n1_ n2_ n3_ n4_ n5_ n6_ n7_ n8_ n9_; clear hb hbox hg; have hnb60 := NB240_233.out; have hnc60 := NB233_240.out; have hnb61 := NB240_234.out; have hnc61 := NB234_240.out; have hcz62_0 : w59.cell? ⟨gb240, 0, none⟩ = some (.string (⟨#[]⟩ : ByteArray)) := (blk_cell BK240.out 0).trans rfl; have hcz62_1 : w59.cell? ⟨gb240, 1, none⟩ = some (.int .i64 0) := (blk_cell BK240.out 1).trans rfl; have hcz62_2 : w59.cell? ⟨gb240, 2, none⟩ = some (.int .i64 0) := (blk_cell BK240.out 2).trans rfl; have hcz62_3 : w59.cell? ⟨gb240, 3, none⟩ = some (.bool false) := (blk_cell BK240.out 3).trans rfl; have hfz62_0 := blk_frozen BK240.out 0; have hfz62_1 := blk_frozen BK240.out 1; have hfz62_2 := blk_frozen BK240.out 2; have hfz62_3 := blk_frozen BK240.out 3))
          go_roundg k2
          case measure => have := HJ2.out; have := HK2.out; omega
          case rel => exact ⟨(wrap64 (x26_2 + 1)), px_rf, H', ⟨by have := HJ2.out; have := HK2.out; omega⟩, ⟨by (with_reducible repeat (first | refine blk_drewN ?_ _ | refine blk_drew ?_ | refine blk_alloc ?_ _)); refine blk_far ?_ NB233_240.out _; (with_reducible repeat (first | refine blk_drewN ?_ _ | refine blk_drew ?_ | refine blk_alloc ?_ _)); refine blk_far ?_ NB233_240.out _; (with_reducible repeat (first | refine blk_drewN ?_ _ | refine blk_drew ?_ | refine blk_alloc ?_ _)); refine blk_far ?_ NB233_240.out _; (with_reducible repeat (first | refine blk_drewN ?_ _ | refine blk_drew ?_ | refine blk_alloc ?_ _)); refine blk_far ?_ NB233_240.out _; (with_reducible repeat (first | refine blk_drewN ?_ _ | refine blk_drew ?_ | refine blk_alloc ?_ _)); first | exact BK233.out | (rw [← Nbq28.out]; exact BK233.out)⟩, ⟨by (with_reducible repeat (first | refine blk_drewN ?_ _ | refine blk_drew ?_ | refine blk_alloc ?_ _)); refine blk_far ?_ NB234_240.out _; (with_reducible repeat (first | refine blk_drewN ?_ _ | refine blk_drew ?_ | refine blk_alloc ?_ _)); refine blk_far ?_ NB234_240.out _; (with_reducible repeat (first | refine blk_drewN ?_ _ | refine blk_drew ?_ | refine blk_alloc ?_ _)); refine blk_far ?_ NB234_240.out _; (with_reducible repeat (first | refine blk_drewN ?_ _ | refine blk_drew ?_ | refine blk_alloc ?_ _)); refine blk_far ?_ NB234_240.out _; (with_reducible repeat (first | refine blk_drewN ?_ _ | refine blk_drew ?_ | refine blk_alloc ?_ _)); first | exact BK234.out | (rw [← Nbq28.out]; exact BK234.out)⟩, ⟨px_h3 HB.out GE233.out GE234.out GE240.out⟩⟩
        ·rw [if_neg c27] at H
         exact absurd H (by simp)
       ·rw [if_neg c26] at H
        exact absurd H (by simp)
      ·rw [if_neg c25] at H
       have c25b0 : decide (x26_2 < (l0_1.length : Int)) = false := decide_eq_false c25
       clear c25
       obtain rfl := Option.some.inj H
       go_wp2
       go_ret
       exact ⟨by first | rfl | (simp [errW_none, errW_some] <;> rfl) | (simp [*, errW_none, errW_some] <;> rfl), px_h2 HB.out GE233.out GE234.out⟩

/-! ### laws_eqIntS: function 19 -/
def laws_eqIntS.l0 : Nat → List Int → List Int → Int → Option (Bool)
 | 0, _, _, _ => none
 | k + 1, x0, x1, x5 => if x5 < (x0.length : Int) then (if 0 ≤ x5 then (if x5 < (x1.length : Int) then (if (rd x0 x5) = (rd x1 x5) then (laws_eqIntS.l0 k x0 x1 (wrap64 (x5 + 1))) else (some false)) else (none)) else (none)) else (some true)
def laws_eqIntS.f (k : Nat) (l0 : List Int) (l1 : List Int) : Option (Bool) := if (l0.length : Int) = (l1.length : Int) then (laws_eqIntS.l0 k l0 l1 0) else (some false)
theorem laws_eqIntS.mono_l : ∀ k, (∀ y0 y1 y2, LeO (laws_eqIntS.l0 k y0 y1 y2) (laws_eqIntS.l0 (k + 1) y0 y1 y2))
 | 0 => fun _ _ _ r h => by simp [laws_eqIntS.l0] at h
 | k + 1 => by
  have ih0 := laws_eqIntS.mono_l k
  ·intro y0 y1 y2
   unfold laws_eqIntS.l0
   repeat' first
   | (with_reducible exact ih0 _ _ _)
   | (with_reducible exact LeO.refl _)
   | (with_reducible exact LeO.none _)
   | (with_reducible refine LeO.ite ?_ ?_)
   | (with_reducible refine LeO.bind ?_ (fun _ => ?_))
   | exact ih0 _ _ _
   | exact LeO.none _
   | refine LeO.ite ?_ ?_
   | refine LeO.bind ?_ (fun _ => ?_)
theorem laws_eqIntS.mono : ∀ a0 a1 k, LeO (laws_eqIntS.f k a0 a1) (laws_eqIntS.f (k + 1) a0 a1) := by
 intro a0 a1 k
 have ih0 := laws_eqIntS.mono_l k
 unfold laws_eqIntS.f
 repeat' first
   | (with_reducible exact ih0 _ _ _)
   | (with_reducible exact LeO.refl _)
   | (with_reducible exact LeO.none _)
   | (with_reducible refine LeO.ite ?_ ?_)
   | (with_reducible refine LeO.bind ?_ (fun _ => ?_))
   | exact ih0 _ _ _
   | exact LeO.none _
   | refine LeO.ite ?_ ?_
   | refine LeO.bind ?_ (fun _ => ?_)
set_option maxHeartbeats 8000000 in
set_option maxRecDepth 100000 in
theorem laws_eqIntS.calls (k : Nat) (A0 : Option Addr) (c0 : Nat) (l0 : List Int) (A1 : Option Addr) (c1 : Nat) (l1 : List Int) (r : Bool) (w : World) (hr0 : Kd.C (Kd.int .i64) w A0 l0.length l0) (hc0 : l0.length ≤ c0) (hr1 : Kd.C (Kd.int .i64) w A1 l1.length l1) (hc1 : l1.length ≤ c1) (h : laws_eqIntS.f k l0 l1 = some r) :
  Calls Try.prog 19 #[.slice A0 l0.length c0, .slice A1 l1.length c1] w fun e w' => e = .returned (.bool r) ∧ Drawn0 w w' := by
 have HR0 := aM hr0
 have HC0 := aM hc0
 clear hr0 hc0
 have HR1 := aM hr1
 have HC1 := aM hc1
 clear hr1 hc1
 have H : (if (l0.length : Int) = (l1.length : Int) then (laws_eqIntS.l0 k l0 l1 0) else (some false)) = some r := h
 clear h
 by_cases c3 : (l0.length : Int) = (l1.length : Int)
 ·rw [if_pos c3] at H
  have c3b0 : ((l0.length : Int) == (l1.length : Int)) = true := beq_iff_eq.mpr c3
  have c3b1 : ((l0.length : Int) != (l1.length : Int)) = false := bne_eq_false_iff_eq.mpr c3
  have c3b2 : (l0.length == l1.length) = true := by first | simpa using c3 | (simp at c3 ⊢; omega)
  clear c3
  have H' := aM H
  clear H
  go_enter Try.func19, Try.ntmps19
  go_wp2
  repeat (go_quiet (fail); try go_wp2)
  go_loopg [5] k (fun kq v5 w' => ∃ (x5_1 : Int), v5 = .int .i64 x5_1 ∧ Aside0 (laws_eqIntS.l0 kq l0 l1 x5_1 = some r) ∧ Aside0 (kq ≤ k) ∧ Drawn0 w w')
  case atStart => exact ⟨(0), px_rf, H', ⟨Nat.le_refl _⟩, by repeat (first | exact Drawn0.refl _ | apply Drawn0.step)⟩
  case round =>
   clear H'
   try clear c1
   try clear p2
   try clear c3
   try clear c3b0
   try clear c3b1
   try clear c3b2
   obtain ⟨x5_1, rfl, HA, HK1, ⟨m1, rfl⟩⟩ := hrel
   cases gk with
   | zero => exact absurd HA.out (by simp [laws_eqIntS.l0])
   | succ k1 =>
    have H := HA.out
    clear HA
    simp only [laws_eqIntS.l0] at H
    by_cases c4 : x5_1 < (l0.length : Int)
    ·rw [if_pos c4] at H
     have c4b0 : decide (x5_1 < (l0.length : Int)) = true := decide_eq_true c4
     clear c4
     by_cases c5 : 0 ≤ x5_1
     ·rw [if_pos c5] at H
      have c5b0 : decide (0 ≤ x5_1) = true := decide_eq_true c5
      clear c5
      by_cases c6 : x5_1 < (l1.length : Int)
      ·rw [if_pos c6] at H
       have c6b0 : decide (x5_1 < (l1.length : Int)) = true := decide_eq_true c6
       clear c6
       by_cases c7 : (rd l0 x5_1) = (rd l1 x5_1)
       ·rw [if_pos c7] at H
        have c7b0 : ((rd l0 x5_1) == (rd l1 x5_1)) = true := beq_iff_eq.mpr c7
        have c7b1 : ((rd l0 x5_1) != (rd l1 x5_1)) = false := bne_eq_false_iff_eq.mpr c7
        clear c7
        have H' := aM H
        clear H
        have p243 : 0 ≤ (x5_1 : Int) := px_od
        have q243 : x5_1 < (l0.length : Int) := px_od
        obtain ⟨ad243, e243, hx243_0⟩ := Kd.at_int HR0.out x5_1 p243 q243
        cases e243
        replace p243 := eq_true p243
        replace q243 := eq_true q243
        have p244 : 0 ≤ (x5_1 : Int) := px_od
        have q244 : x5_1 < (l1.length : Int) := px_od
        obtain ⟨ad244, e244, hx244_0⟩ := Kd.at_int HR1.out x5_1 p244 q244
        cases e244
        replace p244 := eq_true p244
        replace q244 := eq_true q244
        go_wp2
        repeat (go_quiet (fail); try go_wp2)
        go_roundg k1
        case measure => have := HK1.out; omega
        case rel => exact ⟨(wrap64 (x5_1 + 1)), px_rf, H', ⟨by have := HK1.out; omega⟩, by repeat (first | exact Drawn0.refl _ | apply Drawn0.step)⟩
       ·rw [if_neg c7] at H
        have c7b0 : ((rd l0 x5_1) == (rd l1 x5_1)) = false := beq_eq_false_iff_ne.mpr c7
        have c7b1 : ((rd l0 x5_1) != (rd l1 x5_1)) = true := bne_iff_ne.mpr c7
        obtain rfl := Option.some.inj H
        have p243 : 0 ≤ (x5_1 : Int) := px_od
        have q243 : x5_1 < (l0.length : Int) := px_od
        obtain ⟨ad243, e243, hx243_0⟩ := Kd.at_int HR0.out x5_1 p243 q243
        cases e243
        replace p243 := eq_true p243
        replace q243 := eq_true q243
        have p244 : 0 ≤ (x5_1 : Int) := px_od
        have q244 : x5_1 < (l1.length : Int) := px_od
        obtain ⟨ad244, e244, hx244_0⟩ := Kd.at_int HR1.out x5_1 p244 q244
        cases e244
        replace p244 := eq_true p244
        replace q244 := eq_true q244
        go_wp2
        repeat (go_quiet (fail); try go_wp2)
        go_ret
        exact ⟨by first | rfl | (simp; done) | (simp [*]; done), by repeat (first | exact Drawn0.refl _ | apply Drawn0.step)⟩
      ·rw [if_neg c6] at H
       exact absurd H (by simp)
     ·rw [if_neg c5] at H
      exact absurd H (by simp)
    ·rw [if_neg c4] at H
     have c4b0 : decide (x5_1 < (l0.length : Int)) = false := decide_eq_false c4
     clear c4
     obtain rfl := Option.some.inj H
     go_wp2
     repeat (go_quiet (fail); try go_wp2)
     go_ret
     exact ⟨by first | rfl | (simp; done) | (simp [*]; done), by repeat (first | exact Drawn0.refl _ | apply Drawn0.step)⟩
 ·rw [if_neg c3] at H
  have c3b0 : ((l0.length : Int) == (l1.length : Int)) = false := beq_eq_false_iff_ne.mpr c3
  have c3b1 : ((l0.length : Int) != (l1.length : Int)) = true := bne_iff_ne.mpr c3
  have c3b2 : (l0.length == l1.length) = false := by first | simpa using c3 | (simp at c3 ⊢; omega)
  obtain rfl := Option.some.inj H
  go_enter Try.func19, Try.ntmps19
  go_wp2
  repeat (go_quiet (fail); try go_wp2)
  go_ret
  exact ⟨by first | rfl | (simp; done) | (simp [*]; done), by repeat (first | exact Drawn0.refl _ | apply Drawn0.step)⟩

end Go.Proofs.Ythocdlaajncmpaa.Q
