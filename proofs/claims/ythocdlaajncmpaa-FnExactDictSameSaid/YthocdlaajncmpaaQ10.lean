-- Printed by a program of this project's own, for this seat.
import Derived.Test.YthocdlaajncmpaaQ0
import Derived.Test.YthocdlaajncmpaaQ2
import Derived.Test.YthocdlaajncmpaaQ5
import Derived.Test.YthocdlaajncmpaaQ6
import Derived.Test.YthocdlaajncmpaaQ8
import Derived.Test.YthocdlaajncmpaaQ9
namespace Go.Proofs.Ythocdlaajncmpaa.Q
open Go.RowKit Go.Proofs.YthocdlaajncmpaaW.PrintWords Go.Proofs.YthocdlaajncmpaaW.PrintLast Go.Proofs.YthocdlaajncmpaaW.PrintMore
attribute [local go_sem] max2_int min2_int max_two min_two max_three min_three max_four min_four   -- for this text's walks alone
set_option linter.unusedVariables false
set_option linter.unusedSimpArgs false

/-! ### laws_FnExactDictSame: function 3 -/
def laws_FnExactDictSame.f (k : Nat) (l0_0 : List Int) (l0_1 : List (S47)) (l1_0 : List Int) (l1_1 : List (S47)) : Option (Bool) := (laws_szDict.f k l0_0 l0_1 1048576).bind fun t256 => (if t256 < 0 then (some true) else ((laws_szDict.f k l1_0 l1_1 t256).bind fun t257 => (if t257 < 0 then (some true) else ((laws_toDict.f k l0_0 l0_1).bind fun bt258 => ((laws_toDict.f k l1_0 l1_1).bind fun bt264 => ((spec_DictSame.f k bt258.1 bt258.2 bt264.1 bt264.2).bind fun t270 => ((laws_toDict.f k l0_0 l0_1).bind fun bt271 => ((laws_toDict.f k l1_0 l1_1).bind fun bt278 => ((impl_DictSame.f k bt271.1 bt271.2 bt278.1 bt278.2).bind fun t285 => (if (t285 != t270) = true then (some false) else ((laws_toDict.f k l0_0 l0_1).bind fun bt286 => ((laws_eqDict.f k bt271.1 bt271.2 bt286.1 bt286.2).bind fun t292 => (if t292 = true then ((laws_toDict.f k l1_0 l1_1).bind fun bt293 => ((laws_eqDict.f k bt278.1 bt278.2 bt293.1 bt293.2).bind fun t299 => (if t299 = true then (some true) else (some false)))) else (some false))))))))))))))
theorem laws_FnExactDictSame.mono : ∀ a0 a1 a2 a3 k, LeO (laws_FnExactDictSame.f k a0 a1 a2 a3) (laws_FnExactDictSame.f (k + 1) a0 a1 a2 a3) := by
 intro a0 a1 a2 a3 k
 unfold laws_FnExactDictSame.f
 repeat' first
   | (with_reducible exact impl_DictSame.mono _ _ _ _ _)
   | (with_reducible exact laws_eqDict.mono _ _ _ _ _)
   | (with_reducible exact laws_szDict.mono _ _ _ _)
   | (with_reducible exact laws_toDict.mono _ _ _)
   | (with_reducible exact spec_DictSame.mono _ _ _ _ _)
   | (with_reducible exact LeO.refl _)
   | (with_reducible exact LeO.none _)
   | (with_reducible refine LeO.ite ?_ ?_)
   | (with_reducible refine LeO.bind ?_ (fun _ => ?_))
   | exact impl_DictSame.mono _ _ _ _ _
   | exact laws_eqDict.mono _ _ _ _ _
   | exact laws_szDict.mono _ _ _ _
   | exact laws_toDict.mono _ _ _
   | exact spec_DictSame.mono _ _ _ _ _
   | exact LeO.none _
   | refine LeO.ite ?_ ?_
   | refine LeO.bind ?_ (fun _ => ?_)
set_option maxHeartbeats 8000000 in
set_option maxRecDepth 100000 in
theorem laws_FnExactDictSame.calls (k : Nat) (A0_0 : Option Addr) (c0_0 : Nat) (l0_0 : List Int) (A0_1 : Option Addr) (c0_1 : Nat) (l0_1 : List (S47)) (A1_0 : Option Addr) (c1_0 : Nat) (l1_0 : List Int) (A1_1 : Option Addr) (c1_1 : Nat) (l1_1 : List (S47)) (r : Bool) (w : World) (hr0_0 : Kd.C (Kd.int .i64) w A0_0 l0_0.length l0_0) (hc0_0 : l0_0.length ≤ c0_0) (hr0_1 : Kd.C k47 w A0_1 l0_1.length l0_1) (hc0_1 : l0_1.length ≤ c0_1) (hr1_0 : Kd.C (Kd.int .i64) w A1_0 l1_0.length l1_0) (hc1_0 : l1_0.length ≤ c1_0) (hr1_1 : Kd.C k47 w A1_1 l1_1.length l1_1) (hc1_1 : l1_1.length ≤ c1_1) (h : laws_FnExactDictSame.f k l0_0 l0_1 l1_0 l1_1 = some r) :
  Calls Try.prog 3 #[.agg #[.slice A0_0 l0_0.length c0_0, .slice A0_1 l0_1.length c0_1], .agg #[.slice A1_0 l1_0.length c1_0, .slice A1_1 l1_1.length c1_1]] w fun e w' => e = .returned (.bool r) ∧ Below w.heap.size w w' := by
 have hu25 := Try.underlying25
 have hu30 := Try.underlying30
 have HR0_0 := aM hr0_0
 have HC0_0 := aM hc0_0
 clear hr0_0 hc0_0
 have HR0_1 := aM hr0_1
 have HC0_1 := aM hc0_1
 clear hr0_1 hc0_1
 have HR1_0 := aM hr1_0
 have HC1_0 := aM hc1_0
 clear hr1_0 hc1_0
 have HR1_1 := aM hr1_1
 have HC1_1 := aM hc1_1
 clear hr1_1 hc1_1
 have HB := aM (Below.refl w.heap.size w)
 have H : ((laws_szDict.f k l0_0 l0_1 1048576).bind fun t256 => (if t256 < 0 then (some true) else ((laws_szDict.f k l1_0 l1_1 t256).bind fun t257 => (if t257 < 0 then (some true) else ((laws_toDict.f k l0_0 l0_1).bind fun bt258 => ((laws_toDict.f k l1_0 l1_1).bind fun bt264 => ((spec_DictSame.f k bt258.1 bt258.2 bt264.1 bt264.2).bind fun t270 => ((laws_toDict.f k l0_0 l0_1).bind fun bt271 => ((laws_toDict.f k l1_0 l1_1).bind fun bt278 => ((impl_DictSame.f k bt271.1 bt271.2 bt278.1 bt278.2).bind fun t285 => (if (t285 != t270) = true then (some false) else ((laws_toDict.f k l0_0 l0_1).bind fun bt286 => ((laws_eqDict.f k bt271.1 bt271.2 bt286.1 bt286.2).bind fun t292 => (if t292 = true then ((laws_toDict.f k l1_0 l1_1).bind fun bt293 => ((laws_eqDict.f k bt278.1 bt278.2 bt293.1 bt293.2).bind fun t299 => (if t299 = true then (some true) else (some false)))) else (some false))))))))))))))) = some r := h
 clear h
 replace H := Option.bind_eq_some_iff.mp H
 obtain ⟨t256, A30, H⟩ := H
 replace H : (if t256 < 0 then (some true) else ((laws_szDict.f k l1_0 l1_1 t256).bind fun t257 => (if t257 < 0 then (some true) else ((laws_toDict.f k l0_0 l0_1).bind fun bt258 => ((laws_toDict.f k l1_0 l1_1).bind fun bt264 => ((spec_DictSame.f k bt258.1 bt258.2 bt264.1 bt264.2).bind fun t270 => ((laws_toDict.f k l0_0 l0_1).bind fun bt271 => ((laws_toDict.f k l1_0 l1_1).bind fun bt278 => ((impl_DictSame.f k bt271.1 bt271.2 bt278.1 bt278.2).bind fun t285 => (if (t285 != t270) = true then (some false) else ((laws_toDict.f k l0_0 l0_1).bind fun bt286 => ((laws_eqDict.f k bt271.1 bt271.2 bt286.1 bt286.2).bind fun t292 => (if t292 = true then ((laws_toDict.f k l1_0 l1_1).bind fun bt293 => ((laws_eqDict.f k bt278.1 bt278.2 bt293.1 bt293.2).bind fun t299 => (if t299 = true then (some true) else (some false)))) else (some false)))))))))))))) = some r := H
 have A3 := aM A30
 clear A30
 by_cases c4 : t256 < 0
 ·rw [if_pos c4] at H
  have c4b0 : decide (t256 < 0) = true := decide_eq_true c4
  clear c4
  obtain rfl := Option.some.inj H
  go_enter Try.func3, Try.ntmps3
  go_wp2_with (first | ((with_reducible refine gate_dst (N := 2) rfl ?_); refine box_event ?hg (N := 2) ?hd (cs := #[.slice A0_0 l0_0.length c0_0, .slice A0_1 l0_1.length c0_1]) (t := 25) ?hr ?_; (case hd => rfl); (case hg => rfl); (case hr => first | (go_simp; done) | (go_simp; rfl)); intro gb254 hg w5 hbox hb; have n0_ := aM (below_step (px_h0 HB.out) hb); have n1_ := aM (hbox); have n2_ := aM ((by rw [hg]; exact (below_size (px_h0 HB.out)) : w.heap.size ≤ gb254)); have n3_ := aM ((by rw [hg]; exact (below_size (px_h0 HB.out)) : w.heap.size ≤ gb254)); clear HB; have HB := n0_; have BK254 := n1_; have GW254 := n2_; have GE254 := n3_; clear n0_ n1_ n2_ n3_; clear hb hbox hg) | ((with_reducible refine gate_dst (N := 3) rfl ?_); refine box_event ?hg (N := 3) ?hd (cs := #[.slice A1_0 l1_0.length c1_0, .slice A1_1 l1_1.length c1_1]) (t := 25) ?hr ?_; (case hd => rfl); (case hg => rfl); (case hr => first | (go_simp; done) | (go_simp; rfl)); intro gb255 hg w6 hbox hb; have n0_ := aM (blk_below (g := gb254) (o := .cells #[.slice A0_0 l0_0.length c0_0, .slice A0_1 l0_1.length c0_1] 25 (0, 0)) (px_bV BK254.out) hb); have n1_ := aM (below_step (px_h1 HB.out GE254.out) hb); have n2_ := aM (hbox); have n3_ := aM ((by rw [hg]; exact (below_size (px_h1 HB.out GE254.out)) : w.heap.size ≤ gb255)); have n4_ := aM ((by rw [hg]; exact (below_size (px_h1 HB.out GE254.out)) : w.heap.size ≤ gb255)); have n5_ := aM ((by rw [hg]; exact Nat.ne_of_lt (blk_lt (g := gb254) (o := .cells #[.slice A0_0 l0_0.length c0_0, .slice A0_1 l0_1.length c0_1] 25 (0, 0)) (px_bV BK254.out)) : gb254 ≠ gb255)); have n6_ := aM ((by rw [hg]; exact Nat.ne_of_gt (blk_lt (g := gb254) (o := .cells #[.slice A0_0 l0_0.length c0_0, .slice A0_1 l0_1.length c0_1] 25 (0, 0)) (px_bV BK254.out)) : gb255 ≠ gb254)); clear BK254; clear HB; have BK254 := n0_; have HB := n1_; have BK255 := n2_; have GW255 := n3_; have GE255 := n4_; have NB254_255 := n5_; have NB255_254 := n6_; clear n0_ n1_ n2_ n3_ n4_ n5_ n6_; clear hb hbox hg; have hnb7 := NB254_255.out; have hnc7 := NB255_254.out; have hcz8_0 : w6.cell? ⟨gb254, 0, none⟩ = some (.slice A0_0 l0_0.length c0_0) := (blk_cell BK254.out 0).trans rfl; have hcz8_1 : w6.cell? ⟨gb254, 1, none⟩ = some (.slice A0_1 l0_1.length c0_1) := (blk_cell BK254.out 1).trans rfl; have hfz8_0 := blk_frozen BK254.out 0; have hfz8_1 := blk_frozen BK254.out 1) | ((with_reducible refine gate_callee (f := 4) rfl ?_); refine goesL_ (some 12) rfl rfl Try.func4 (by kernel_rfl) rfl #[.agg #[.slice A0_0 l0_0.length c0_0, .slice A0_1 l0_1.length c0_1], .int .i64 1048576] rfl px_dn ?_; (with_reducible refine (laws_szDict.calls k _ _ l0_0 _ _ l0_1 1048576 t256 _ ?side1 ?side2 ?side3 ?side4 A3.out).mono ?_); (case side1 => exact px_cV ((Kd.C_below HR0_0.out HB.out))); (case side2 => exact HC0_0.out); (case side3 => exact px_cV ((Kd.C_below HR0_1.out HB.out))); (case side4 => exact HC0_1.out); rintro e w9 ⟨rfl, hb⟩; refine ⟨_, rfl, ?_⟩; have n0_ := aM (blk_below (g := gb254) (o := .cells #[.slice A0_0 l0_0.length c0_0, .slice A0_1 l0_1.length c0_1] 25 (0, 0)) (px_bV BK254.out) hb); have n1_ := aM (blk_below (g := gb255) (o := .cells #[.slice A1_0 l1_0.length c1_0, .slice A1_1 l1_1.length c1_1] 25 (0, 0)) (px_bV BK255.out) hb); have n2_ := aM (below_step (px_h2 HB.out GE254.out GE255.out) hb); clear BK254; clear BK255; clear HB; have BK254 := n0_; have BK255 := n1_; have HB := n2_; clear n0_ n1_ n2_; (try clear hb); (try clear hb2); (try clear hk); (try clear hi)))
  go_ret
  exact ⟨by first | rfl | (simp [errW_none, errW_some] <;> rfl) | (simp [*, errW_none, errW_some] <;> rfl), px_h2 HB.out GE254.out GE255.out⟩
 ·rw [if_neg c4] at H
  have c4b0 : decide (t256 < 0) = false := decide_eq_false c4
  clear c4
  replace H := Option.bind_eq_some_iff.mp H
  obtain ⟨t257, A100, H⟩ := H
  replace H : (if t257 < 0 then (some true) else ((laws_toDict.f k l0_0 l0_1).bind fun bt258 => ((laws_toDict.f k l1_0 l1_1).bind fun bt264 => ((spec_DictSame.f k bt258.1 bt258.2 bt264.1 bt264.2).bind fun t270 => ((laws_toDict.f k l0_0 l0_1).bind fun bt271 => ((laws_toDict.f k l1_0 l1_1).bind fun bt278 => ((impl_DictSame.f k bt271.1 bt271.2 bt278.1 bt278.2).bind fun t285 => (if (t285 != t270) = true then (some false) else ((laws_toDict.f k l0_0 l0_1).bind fun bt286 => ((laws_eqDict.f k bt271.1 bt271.2 bt286.1 bt286.2).bind fun t292 => (if t292 = true then ((laws_toDict.f k l1_0 l1_1).bind fun bt293 => ((laws_eqDict.f k bt278.1 bt278.2 bt293.1 bt293.2).bind fun t299 => (if t299 = true then (some true) else (some false)))) else (some false)))))))))))) = some r := H
  have A10 := aM A100
  clear A100
  by_cases c11 : t257 < 0
  ·rw [if_pos c11] at H
   have c11b0 : decide (t257 < 0) = true := decide_eq_true c11
   clear c11
   obtain rfl := Option.some.inj H
   go_enter Try.func3, Try.ntmps3
   go_wp2_with (first | ((with_reducible refine gate_dst (N := 2) rfl ?_); refine box_event ?hg (N := 2) ?hd (cs := #[.slice A0_0 l0_0.length c0_0, .slice A0_1 l0_1.length c0_1]) (t := 25) ?hr ?_; (case hd => rfl); (case hg => rfl); (case hr => first | (go_simp; done) | (go_simp; rfl)); intro gb254 hg w12 hbox hb; have n0_ := aM (below_step (px_h0 HB.out) hb); have n1_ := aM (hbox); have n2_ := aM ((by rw [hg]; exact (below_size (px_h0 HB.out)) : w.heap.size ≤ gb254)); have n3_ := aM ((by rw [hg]; exact (below_size (px_h0 HB.out)) : w.heap.size ≤ gb254)); clear HB; have HB := n0_; have BK254 := n1_; have GW254 := n2_; have GE254 := n3_; clear n0_ n1_ n2_ n3_; clear hb hbox hg) | ((with_reducible refine gate_dst (N := 3) rfl ?_); refine box_event ?hg (N := 3) ?hd (cs := #[.slice A1_0 l1_0.length c1_0, .slice A1_1 l1_1.length c1_1]) (t := 25) ?hr ?_; (case hd => rfl); (case hg => rfl); (case hr => first | (go_simp; done) | (go_simp; rfl)); intro gb255 hg w13 hbox hb; have n0_ := aM (blk_below (g := gb254) (o := .cells #[.slice A0_0 l0_0.length c0_0, .slice A0_1 l0_1.length c0_1] 25 (0, 0)) (px_bV BK254.out) hb); have n1_ := aM (below_step (px_h1 HB.out GE254.out) hb); have n2_ := aM (hbox); have n3_ := aM ((by rw [hg]; exact (below_size (px_h1 HB.out GE254.out)) : w.heap.size ≤ gb255)); have n4_ := aM ((by rw [hg]; exact (below_size (px_h1 HB.out GE254.out)) : w.heap.size ≤ gb255)); have n5_ := aM ((by rw [hg]; exact Nat.ne_of_lt (blk_lt (g := gb254) (o := .cells #[.slice A0_0 l0_0.length c0_0, .slice A0_1 l0_1.length c0_1] 25 (0, 0)) (px_bV BK254.out)) : gb254 ≠ gb255)); have n6_ := aM ((by rw [hg]; exact Nat.ne_of_gt (blk_lt (g := gb254) (o := .cells #[.slice A0_0 l0_0.length c0_0, .slice A0_1 l0_1.length c0_1] 25 (0, 0)) (px_bV BK254.out)) : gb255 ≠ gb254)); clear BK254; clear HB; have BK254 := n0_; have HB := n1_; have BK255 := n2_; have GW255 := n3_; have GE255 := n4_; have NB254_255 := n5_; have NB255_254 := n6_; clear n0_ n1_ n2_ n3_ n4_ n5_ n6_; clear hb hbox hg; have hnb14 := NB254_255.out; have hnc14 := NB255_254.out; have hcz15_0 : w13.cell? ⟨gb254, 0, none⟩ = some (.slice A0_0 l0_0.length c0_0) := (blk_cell BK254.out 0).trans rfl; have hcz15_1 : w13.cell? ⟨gb254, 1, none⟩ = some (.slice A0_1 l0_1.length c0_1) := (blk_cell BK254.out 1).trans rfl; have hfz15_0 := blk_frozen BK254.out 0; have hfz15_1 := blk_frozen BK254.out 1) | ((with_reducible refine gate_callee (f := 4) rfl ?_); refine goesL_ (some 12) rfl rfl Try.func4 (by kernel_rfl) rfl #[.agg #[.slice A0_0 l0_0.length c0_0, .slice A0_1 l0_1.length c0_1], .int .i64 1048576] rfl px_dn ?_; (with_reducible refine (laws_szDict.calls k _ _ l0_0 _ _ l0_1 1048576 t256 _ ?side1 ?side2 ?side3 ?side4 A3.out).mono ?_); (case side1 => exact px_cV ((Kd.C_below HR0_0.out HB.out))); (case side2 => exact HC0_0.out); (case side3 => exact px_cV ((Kd.C_below HR0_1.out HB.out))); (case side4 => exact HC0_1.out); rintro e w16 ⟨rfl, hb⟩; refine ⟨_, rfl, ?_⟩; have n0_ := aM (blk_below (g := gb254) (o := .cells #[.slice A0_0 l0_0.length c0_0, .slice A0_1 l0_1.length c0_1] 25 (0, 0)) (px_bV BK254.out) hb); have n1_ := aM (blk_below (g := gb255) (o := .cells #[.slice A1_0 l1_0.length c1_0, .slice A1_1 l1_1.length c1_1] 25 (0, 0)) (px_bV BK255.out) hb); have n2_ := aM (below_step (px_h2 HB.out GE254.out GE255.out) hb); clear BK254; clear BK255; clear HB; have BK254 := n0_; have BK255 := n1_; have HB := n2_; clear n0_ n1_ n2_; (try clear hb); (try clear hb2); (try clear hk); (try clear hi); have hcz17_0 : w16.cell? ⟨gb255, 0, none⟩ = some (.slice A1_0 l1_0.length c1_0) := (blk_cell BK255.out 0).trans rfl; have hcz17_1 : w16.cell? ⟨gb255, 1, none⟩ = some (.slice A1_1 l1_1.length c1_1) := (blk_cell BK255.out 1).trans rfl; have hfz17_0 := blk_frozen BK255.out 0; have hfz17_1 := blk_frozen BK255.out 1) | ((with_reducible refine gate_callee (f := 4) rfl ?_); refine goesL_ (some 17) rfl rfl Try.func4 (by kernel_rfl) rfl #[.agg #[.slice A1_0 l1_0.length c1_0, .slice A1_1 l1_1.length c1_1], .int .i64 t256] rfl px_dn ?_; (with_reducible refine (laws_szDict.calls k _ _ l1_0 _ _ l1_1 t256 t257 _ ?side1 ?side2 ?side3 ?side4 A10.out).mono ?_); (case side1 => exact px_cV ((Kd.C_below HR1_0.out HB.out))); (case side2 => exact HC1_0.out); (case side3 => exact px_cV ((Kd.C_below HR1_1.out HB.out))); (case side4 => exact HC1_1.out); rintro e w18 ⟨rfl, hb⟩; refine ⟨_, rfl, ?_⟩; have n0_ := aM (blk_below (g := gb254) (o := .cells #[.slice A0_0 l0_0.length c0_0, .slice A0_1 l0_1.length c0_1] 25 (0, 0)) (px_bV BK254.out) hb); have n1_ := aM (blk_below (g := gb255) (o := .cells #[.slice A1_0 l1_0.length c1_0, .slice A1_1 l1_1.length c1_1] 25 (0, 0)) (px_bV BK255.out) hb); have n2_ := aM (below_step (px_h2 HB.out GE254.out GE255.out) hb); clear BK254; clear BK255; clear HB; have BK254 := n0_; have BK255 := n1_; have HB := n2_; clear n0_ n1_ n2_; (try clear hb); (try clear hb2); (try clear hk); (try clear hi)))
   go_ret
   exact ⟨by first | rfl | (simp [errW_none, errW_some] <;> rfl) | (simp [*, errW_none, errW_some] <;> rfl), px_h2 HB.out GE254.out GE255.out⟩
  ·rw [if_neg c11] at H
   have c11b0 : decide (t257 < 0) = false := decide_eq_false c11
   clear c11
   replace H := Option.bind_eq_some_iff.mp H
   obtain ⟨⟨t258, t261⟩, A190, H⟩ := H
   replace H : ((laws_toDict.f k l1_0 l1_1).bind fun bt264 => ((spec_DictSame.f k t258 t261 bt264.1 bt264.2).bind fun t270 => ((laws_toDict.f k l0_0 l0_1).bind fun bt271 => ((laws_toDict.f k l1_0 l1_1).bind fun bt278 => ((impl_DictSame.f k bt271.1 bt271.2 bt278.1 bt278.2).bind fun t285 => (if (t285 != t270) = true then (some false) else ((laws_toDict.f k l0_0 l0_1).bind fun bt286 => ((laws_eqDict.f k bt271.1 bt271.2 bt286.1 bt286.2).bind fun t292 => (if t292 = true then ((laws_toDict.f k l1_0 l1_1).bind fun bt293 => ((laws_eqDict.f k bt278.1 bt278.2 bt293.1 bt293.2).bind fun t299 => (if t299 = true then (some true) else (some false)))) else (some false)))))))))) = some r := H
   have A19 := aM A190
   clear A190
   replace H := Option.bind_eq_some_iff.mp H
   obtain ⟨⟨t264, t267⟩, A200, H⟩ := H
   replace H : ((spec_DictSame.f k t258 t261 t264 t267).bind fun t270 => ((laws_toDict.f k l0_0 l0_1).bind fun bt271 => ((laws_toDict.f k l1_0 l1_1).bind fun bt278 => ((impl_DictSame.f k bt271.1 bt271.2 bt278.1 bt278.2).bind fun t285 => (if (t285 != t270) = true then (some false) else ((laws_toDict.f k l0_0 l0_1).bind fun bt286 => ((laws_eqDict.f k bt271.1 bt271.2 bt286.1 bt286.2).bind fun t292 => (if t292 = true then ((laws_toDict.f k l1_0 l1_1).bind fun bt293 => ((laws_eqDict.f k bt278.1 bt278.2 bt293.1 bt293.2).bind fun t299 => (if t299 = true then (some true) else (some false)))) else (some false))))))))) = some r := H
   have A20 := aM A200
   clear A200
   replace H := Option.bind_eq_some_iff.mp H
   obtain ⟨t270, A210, H⟩ := H
   replace H : ((laws_toDict.f k l0_0 l0_1).bind fun bt271 => ((laws_toDict.f k l1_0 l1_1).bind fun bt278 => ((impl_DictSame.f k bt271.1 bt271.2 bt278.1 bt278.2).bind fun t285 => (if (t285 != t270) = true then (some false) else ((laws_toDict.f k l0_0 l0_1).bind fun bt286 => ((laws_eqDict.f k bt271.1 bt271.2 bt286.1 bt286.2).bind fun t292 => (if t292 = true then ((laws_toDict.f k l1_0 l1_1).bind fun bt293 => ((laws_eqDict.f k bt278.1 bt278.2 bt293.1 bt293.2).bind fun t299 => (if t299 = true then (some true) else (some false)))) else (some false)))))))) = some r := H
   have A21 := aM A210
   clear A210
   replace H := Option.bind_eq_some_iff.mp H
   obtain ⟨⟨t271, t274⟩, A220, H⟩ := H
   replace H : ((laws_toDict.f k l1_0 l1_1).bind fun bt278 => ((impl_DictSame.f k t271 t274 bt278.1 bt278.2).bind fun t285 => (if (t285 != t270) = true then (some false) else ((laws_toDict.f k l0_0 l0_1).bind fun bt286 => ((laws_eqDict.f k t271 t274 bt286.1 bt286.2).bind fun t292 => (if t292 = true then ((laws_toDict.f k l1_0 l1_1).bind fun bt293 => ((laws_eqDict.f k bt278.1 bt278.2 bt293.1 bt293.2).bind fun t299 => (if t299 = true then (some true) else (some false)))) else (some false))))))) = some r := H
   have A22 := aM A220
   clear A220
   replace H := Option.bind_eq_some_iff.mp H
   obtain ⟨⟨t278, t281⟩, A230, H⟩ := H
   replace H : ((impl_DictSame.f k t271 t274 t278 t281).bind fun t285 => (if (t285 != t270) = true then (some false) else ((laws_toDict.f k l0_0 l0_1).bind fun bt286 => ((laws_eqDict.f k t271 t274 bt286.1 bt286.2).bind fun t292 => (if t292 = true then ((laws_toDict.f k l1_0 l1_1).bind fun bt293 => ((laws_eqDict.f k t278 t281 bt293.1 bt293.2).bind fun t299 => (if t299 = true then (some true) else (some false)))) else (some false)))))) = some r := H
   have A23 := aM A230
   clear A230
   replace H := Option.bind_eq_some_iff.mp H
   obtain ⟨t285, A240, H⟩ := H
   replace H : (if (t285 != t270) = true then (some false) else ((laws_toDict.f k l0_0 l0_1).bind fun bt286 => ((laws_eqDict.f k t271 t274 bt286.1 bt286.2).bind fun t292 => (if t292 = true then ((laws_toDict.f k l1_0 l1_1).bind fun bt293 => ((laws_eqDict.f k t278 t281 bt293.1 bt293.2).bind fun t299 => (if t299 = true then (some true) else (some false)))) else (some false))))) = some r := H
   have A24 := aM A240
   clear A240
   by_cases c25 : (t285 != t270) = true
   ·rw [if_pos c25] at H
    have c25b0 : (t285 != t270) = true := c25
    (try (have c25b1 : decide (t285 = t270) = false := by simpa using c25))
    (try (have c25b2 : (t285 == t270) = false := by simpa using c25))
    (try (have c25b3 : ¬ (t285 = t270) := by simpa using c25))
    clear c25
    obtain rfl := Option.some.inj H
    go_enter Try.func3, Try.ntmps3
    try go_wp2_with (first | ((with_reducible refine gate_dst (N := 2) rfl ?_); refine box_event ?hg (N := 2) ?hd (cs := #[.slice A0_0 l0_0.length c0_0, .slice A0_1 l0_1.length c0_1]) (t := 25) ?hr ?_; (case hd => rfl); (case hg => rfl); (case hr => first | (go_simp; done) | (go_simp; rfl)); intro gb254 hg w26 hbox hb; have n0_ := aM (below_step (px_h0 HB.out) hb); have n1_ := aM (hbox); have n2_ := aM ((by rw [hg]; exact (below_size (px_h0 HB.out)) : w.heap.size ≤ gb254)); have n3_ := aM ((by rw [hg]; exact (below_size (px_h0 HB.out)) : w.heap.size ≤ gb254)); clear HB; have HB := n0_; have BK254 := n1_; have GW254 := n2_; have GE254 := n3_; clear n0_ n1_ n2_ n3_; clear hb hbox hg) | ((with_reducible refine gate_dst (N := 3) rfl ?_); refine box_event ?hg (N := 3) ?hd (cs := #[.slice A1_0 l1_0.length c1_0, .slice A1_1 l1_1.length c1_1]) (t := 25) ?hr ?_; (case hd => rfl); (case hg => rfl); (case hr => first | (go_simp; done) | (go_simp; rfl)); intro gb255 hg w27 hbox hb; have n0_ := aM (blk_below (g := gb254) (o := .cells #[.slice A0_0 l0_0.length c0_0, .slice A0_1 l0_1.length c0_1] 25 (0, 0)) (px_bV BK254.out) hb); have n1_ := aM (below_step (px_h1 HB.out GE254.out) hb); have n2_ := aM (hbox); have n3_ := aM ((by rw [hg]; exact (below_size (px_h1 HB.out GE254.out)) : w.heap.size ≤ gb255)); have n4_ := aM ((by rw [hg]; exact (below_size (px_h1 HB.out GE254.out)) : w.heap.size ≤ gb255)); have n5_ := aM ((by rw [hg]; exact Nat.ne_of_lt (blk_lt (g := gb254) (o := .cells #[.slice A0_0 l0_0.length c0_0, .slice A0_1 l0_1.length c0_1] 25 (0, 0)) (px_bV BK254.out)) : gb254 ≠ gb255)); have n6_ := aM ((by rw [hg]; exact Nat.ne_of_gt (blk_lt (g := gb254) (o := .cells #[.slice A0_0 l0_0.length c0_0, .slice A0_1 l0_1.length c0_1] 25 (0, 0)) (px_bV BK254.out)) : gb255 ≠ gb254)); clear BK254; clear HB; have BK254 := n0_; have HB := n1_; have BK255 := n2_; have GW255 := n3_; have GE255 := n4_; have NB254_255 := n5_; have NB255_254 := n6_; clear n0_ n1_ n2_ n3_ n4_ n5_ n6_; clear hb hbox hg; have hnb28 := NB254_255.out; have hnc28 := NB255_254.out; have hcz29_0 : w27.cell? ⟨gb254, 0, none⟩ = some (.slice A0_0 l0_0.length c0_0) := (blk_cell BK254.out 0).trans rfl; have hcz29_1 : w27.cell? ⟨gb254, 1, none⟩ = some (.slice A0_1 l0_1.length c0_1) := (blk_cell BK254.out 1).trans rfl; have hfz29_0 := blk_frozen BK254.out 0; have hfz29_1 := blk_frozen BK254.out 1) | ((with_reducible refine gate_callee (f := 4) rfl ?_); refine goesL_ (some 12) rfl rfl Try.func4 (by kernel_rfl) rfl #[.agg #[.slice A0_0 l0_0.length c0_0, .slice A0_1 l0_1.length c0_1], .int .i64 1048576] rfl px_dn ?_; (with_reducible refine (laws_szDict.calls k _ _ l0_0 _ _ l0_1 1048576 t256 _ ?side1 ?side2 ?side3 ?side4 A3.out).mono ?_); (case side1 => exact px_cV ((Kd.C_below HR0_0.out HB.out))); (case side2 => exact HC0_0.out); (case side3 => exact px_cV ((Kd.C_below HR0_1.out HB.out))); (case side4 => exact HC0_1.out); rintro e w30 ⟨rfl, hb⟩; refine ⟨_, rfl, ?_⟩; have n0_ := aM (blk_below (g := gb254) (o := .cells #[.slice A0_0 l0_0.length c0_0, .slice A0_1 l0_1.length c0_1] 25 (0, 0)) (px_bV BK254.out) hb); have n1_ := aM (blk_below (g := gb255) (o := .cells #[.slice A1_0 l1_0.length c1_0, .slice A1_1 l1_1.length c1_1] 25 (0, 0)) (px_bV BK255.out) hb); have n2_ := aM (below_step (px_h2 HB.out GE254.out GE255.out) hb); clear BK254; clear BK255; clear HB; have BK254 := n0_; have BK255 := n1_; have HB := n2_; clear n0_ n1_ n2_; (try clear hb); (try clear hb2); (try clear hk); (try clear hi); have hcz31_0 : w30.cell? ⟨gb255, 0, none⟩ = some (.slice A1_0 l1_0.length c1_0) := (blk_cell BK255.out 0).trans rfl; have hcz31_1 : w30.cell? ⟨gb255, 1, none⟩ = some (.slice A1_1 l1_1.length c1_1) := (blk_cell BK255.out 1).trans rfl; have hfz31_0 := blk_frozen BK255.out 0; have hfz31_1 := blk_frozen BK255.out 1) | ((with_reducible refine gate_callee (f := 4) rfl ?_); refine goesL_ (some 17) rfl rfl Try.func4 (by kernel_rfl) rfl #[.agg #[.slice A1_0 l1_0.length c1_0, .slice A1_1 l1_1.length c1_1], .int .i64 t256] rfl px_dn ?_; (with_reducible refine (laws_szDict.calls k _ _ l1_0 _ _ l1_1 t256 t257 _ ?side1 ?side2 ?side3 ?side4 A10.out).mono ?_); (case side1 => exact px_cV ((Kd.C_below HR1_0.out HB.out))); (case side2 => exact HC1_0.out); (case side3 => exact px_cV ((Kd.C_below HR1_1.out HB.out))); (case side4 => exact HC1_1.out); rintro e w32 ⟨rfl, hb⟩; refine ⟨_, rfl, ?_⟩; have n0_ := aM (blk_below (g := gb254) (o := .cells #[.slice A0_0 l0_0.length c0_0, .slice A0_1 l0_1.length c0_1] 25 (0, 0)) (px_bV BK254.out) hb); have n1_ := aM (blk_below (g := gb255) (o := .cells #[.slice A1_0 l1_0.length c1_0, .slice A1_1 l1_1.length c1_1] 25 (0, 0)) (px_bV BK255.out) hb); have n2_ := aM (below_step (px_h2 HB.out GE254.out GE255.out) hb); clear BK254; clear BK255; clear HB; have BK254 := n0_; have BK255 := n1_; have HB := n2_; clear n0_ n1_ n2_; (try clear hb); (try clear hb2); (try clear hk); (try clear hi)))
    have n0_ := aM (blk_drew BK254.out)
    have n1_ := aM (blk_drew BK255.out)
    have n2_ := aM (below_drew1 HB.out)
    clear BK254
    clear BK255
    clear HB
    have BK254 := n0_
    have BK255 := n1_
    have HB := n2_
    clear n0_ n1_ n2_
    refine start_ (n := 6) (S := fun w' => w'.cell? ⟨gb254, 0, none⟩ = some (.slice A0_0 l0_0.length c0_0) ∧ w'.cell? ⟨gb254, 1, none⟩ = some (.slice A0_1 l0_1.length c0_1) ∧ w'.cell? ⟨gb255, 0, none⟩ = some (.slice A1_0 l1_0.length c1_0) ∧ w'.cell? ⟨gb255, 1, none⟩ = some (.slice A1_1 l1_1.length c1_1)) (ds := []) (px_l 0 6) (by kernel_rfl) rfl rfl ⟨(blk_cell BK254.out 0).trans rfl, (blk_cell BK254.out 1).trans rfl, (blk_cell BK255.out 0).trans rfl, (blk_cell BK255.out 1).trans rfl⟩ (fun hHeld => ?_)
    generalize w32.drew = w33 at BK254 BK255 HB hHeld ⊢
    refine take_ (i := 0) (N := some 20) (v := ?_) (a' := ?_) (px_l 1 5) rfl rfl (by kernel_rfl) (fun _ _ _ h => h) (Or.inl ⟨by rfl, ?_⟩) hHeld ?_ ?_
    rotate_left
    ·rintro w' ⟨s0, s1, s2, s3⟩
     go_simp
     with_reducible rfl
    rotate_left
    ·simp only [px_q]
     rfl
    refine take_ (i := 2) (N := some 22) (v := ?_) (a' := ?_) #[true, false, true, false, false, false] rfl rfl (by kernel_rfl) (fun _ _ _ h => h) (Or.inl ⟨by rfl, ?_⟩) hHeld ?_ ?_
    rotate_left
    ·rintro w' ⟨s0, s1, s2, s3⟩
     go_simp
     with_reducible rfl
    rotate_left
    ·simp only [px_q]
     rfl
    refine one_ (i := 1) (N := some 21) (px_l 3 3) rfl rfl (by kernel_rfl) (by decide) (fun K hK => ?_)
    refine goes_ Try.func6 (by kernel_rfl) rfl #[.agg #[.slice A0_0 l0_0.length c0_0, .slice A0_1 l0_1.length c0_1]] (by rfl) rfl rfl px_dn ?_
    with_reducible refine (laws_toDict.calls k _ _ l0_0 _ _ l0_1 t258 t261 _ ?side1 ?side2 ?side3 ?side4 A19.out).mono ?_
    (case side1 => exact px_cV ((Kd.C_below HR0_0.out HB.out)))
    (case side2 => exact HC0_0.out)
    (case side3 => exact px_cV ((Kd.C_below HR0_1.out HB.out)))
    (case side4 => exact HC0_1.out)
    rintro e w34 ⟨v259, v262, rfl, ho0, ho1, hb⟩
    refine ⟨_, rfl, ?_⟩
    have n0_ := aM (Kd.R_lower ho0 (below_size (px_h2 HB.out GE254.out GE255.out)))
    have n1_ := aM (Kd.R_lower ho1 (below_size (px_h2 HB.out GE254.out GE255.out)))
    have n2_ := aM (blk_below (g := gb254) (o := .cells #[.slice A0_0 l0_0.length c0_0, .slice A0_1 l0_1.length c0_1] 25 (0, 0)) (px_bV BK254.out) hb)
    have n3_ := aM (blk_below (g := gb255) (o := .cells #[.slice A1_0 l1_0.length c1_0, .slice A1_1 l1_1.length c1_1] 25 (0, 0)) (px_bV BK255.out) hb)
    have n4_ := aM (below_step (px_h2 HB.out GE254.out GE255.out) hb)
    clear BK254
    clear BK255
    clear HB
    have HO260 := n0_
    have HO263 := n1_
    have BK254 := n2_
    have BK255 := n3_
    have HB := n4_
    clear n0_ n1_ n2_ n3_ n4_
    (try clear hb)
    (try clear hb2)
    (try clear hk)
    (try clear hi)
    (try clear ho0)
    (try clear ho1)
    refine hK.out _ _ ⟨(blk_cell BK254.out 0).trans rfl, (blk_cell BK254.out 1).trans rfl, (blk_cell BK255.out 0).trans rfl, (blk_cell BK255.out 1).trans rfl⟩ (fun hHeld => ?_)
    clear hK K
    refine norm_ (a' := ?_) ?_ ?_
    rotate_left
    ·show Act.put _ (some 21) _ = _
     simp only [px_q]
     rfl
    refine one_ (i := 3) (N := some 23) (px_l 4 2) rfl rfl (by kernel_rfl) (by decide) (fun K hK => ?_)
    refine goes_ Try.func6 (by kernel_rfl) rfl #[.agg #[.slice A1_0 l1_0.length c1_0, .slice A1_1 l1_1.length c1_1]] (by rfl) rfl rfl px_dn ?_
    with_reducible refine (laws_toDict.calls k _ _ l1_0 _ _ l1_1 t264 t267 _ ?side1 ?side2 ?side3 ?side4 A20.out).mono ?_
    (case side1 => exact px_cV ((Kd.C_below HR1_0.out HB.out)))
    (case side2 => exact HC1_0.out)
    (case side3 => exact px_cV ((Kd.C_below HR1_1.out HB.out)))
    (case side4 => exact HC1_1.out)
    rintro e w35 ⟨v265, v268, rfl, ho0, ho1, hb⟩
    refine ⟨_, rfl, ?_⟩
    have n0_ := aM (Kd.R_elder' (px_rV HO260.out) (Kd.R_base ho0) hb)
    have n1_ := aM (Kd.R_elder' (px_rV HO263.out) (Kd.R_base ho1) hb)
    have n2_ := aM (Kd.R_lower (Kd.R_new' ho0 (Kd.R_lt (px_rV HO260.out))) (below_size (px_h2 HB.out GE254.out GE255.out)))
    have n3_ := aM (Kd.R_lower (Kd.R_new' ho1 (Kd.R_lt (px_rV HO263.out))) (below_size (px_h2 HB.out GE254.out GE255.out)))
    have n4_ := aM (blk_below (g := gb254) (o := .cells #[.slice A0_0 l0_0.length c0_0, .slice A0_1 l0_1.length c0_1] 25 (0, 0)) (px_bV BK254.out) hb)
    have n5_ := aM (blk_below (g := gb255) (o := .cells #[.slice A1_0 l1_0.length c1_0, .slice A1_1 l1_1.length c1_1] 25 (0, 0)) (px_bV BK255.out) hb)
    have n6_ := aM (below_step (px_h2 HB.out GE254.out GE255.out) hb)
    clear HO260
    clear HO263
    clear BK254
    clear BK255
    clear HB
    have HO260 := n0_
    have HO263 := n1_
    have HO266 := n2_
    have HO269 := n3_
    have BK254 := n4_
    have BK255 := n5_
    have HB := n6_
    clear n0_ n1_ n2_ n3_ n4_ n5_ n6_
    (try clear hb)
    (try clear hb2)
    (try clear hk)
    (try clear hi)
    (try clear ho0)
    (try clear ho1)
    obtain ⟨Ao36, co36, eo36⟩ := Kd.R_slice HO260.out
    (first | subst eo36 | (injection eo36 with f1_ f2_ f3_; have f4_ := f1_.symm; have f5_ := f3_.symm; clear f1_ f2_ f3_; subst f4_; subst f5_))
    obtain ⟨Ao37, co37, eo37⟩ := Kd.R_slice HO263.out
    (first | subst eo37 | (injection eo37 with f1_ f2_ f3_; have f4_ := f1_.symm; have f5_ := f3_.symm; clear f1_ f2_ f3_; subst f4_; subst f5_))
    obtain ⟨Ao38, co38, eo38⟩ := Kd.R_slice HO266.out
    (first | subst eo38 | (injection eo38 with f1_ f2_ f3_; have f4_ := f1_.symm; have f5_ := f3_.symm; clear f1_ f2_ f3_; subst f4_; subst f5_))
    obtain ⟨Ao39, co39, eo39⟩ := Kd.R_slice HO269.out
    (first | subst eo39 | (injection eo39 with f1_ f2_ f3_; have f4_ := f1_.symm; have f5_ := f3_.symm; clear f1_ f2_ f3_; subst f4_; subst f5_))
    refine hK.out _ _ ⟨(blk_cell BK254.out 0).trans rfl, (blk_cell BK254.out 1).trans rfl, (blk_cell BK255.out 0).trans rfl, (blk_cell BK255.out 1).trans rfl⟩ (fun hHeld => ?_)
    clear hK K
    refine norm_ (a' := ?_) ?_ ?_
    rotate_left
    ·show Act.put _ (some 23) _ = _
     simp only [px_q]
     rfl
    refine one_ (i := 4) (N := some 24) (px_l 5 1) rfl rfl (by kernel_rfl) (by decide) (fun K hK => ?_)
    refine goes_ Try.func5 (by kernel_rfl) rfl #[.agg #[.slice Ao36 t258.length co36, .slice Ao37 t261.length co37], .agg #[.slice Ao38 t264.length co38, .slice Ao39 t267.length co39]] (by rfl) rfl rfl px_dn ?_
    with_reducible refine (spec_DictSame.calls k _ _ t258 _ _ t261 _ _ t264 _ _ t267 t270 _ ?side1 ?side2 ?side3 ?side4 ?side5 ?side6 ?side7 ?side8 A21.out).mono ?_
    (case side1 => exact px_cV ((Kd.R_reads' HO260.out).2.2))
    (case side2 => exact (Kd.R_reads' HO260.out).2.1)
    (case side3 => exact px_cV ((Kd.R_reads' HO263.out).2.2))
    (case side4 => exact (Kd.R_reads' HO263.out).2.1)
    (case side5 => exact px_cV ((Kd.R_reads' HO266.out).2.2))
    (case side6 => exact (Kd.R_reads' HO266.out).2.1)
    (case side7 => exact px_cV ((Kd.R_reads' HO269.out).2.2))
    (case side8 => exact (Kd.R_reads' HO269.out).2.1)
    rintro e w40 ⟨rfl, hb⟩
    refine ⟨_, rfl, ?_⟩
    have n0_ := aM (Kd.R_below (px_rV HO260.out) hb)
    have n1_ := aM (Kd.R_below (px_rV HO263.out) hb)
    have n2_ := aM (Kd.R_below (px_rV HO266.out) hb)
    have n3_ := aM (Kd.R_below (px_rV HO269.out) hb)
    have n4_ := aM (blk_below (g := gb254) (o := .cells #[.slice A0_0 l0_0.length c0_0, .slice A0_1 l0_1.length c0_1] 25 (0, 0)) (px_bV BK254.out) hb)
    have n5_ := aM (blk_below (g := gb255) (o := .cells #[.slice A1_0 l1_0.length c1_0, .slice A1_1 l1_1.length c1_1] 25 (0, 0)) (px_bV BK255.out) hb)
    have n6_ := aM (below_step (px_h2 HB.out GE254.out GE255.out) hb)
    clear HO260
    clear HO263
    clear HO266
    clear HO269
    clear BK254
    clear BK255
    clear HB
    have HO260 := n0_
    have HO263 := n1_
    have HO266 := n2_
    have HO269 := n3_
    have BK254 := n4_
    have BK255 := n5_
    have HB := n6_
    clear n0_ n1_ n2_ n3_ n4_ n5_ n6_
    (try clear hb)
    (try clear hb2)
    (try clear hk)
    (try clear hi)
    refine hK.out _ _ ⟨(blk_cell BK254.out 0).trans rfl, (blk_cell BK254.out 1).trans rfl, (blk_cell BK255.out 0).trans rfl, (blk_cell BK255.out 1).trans rfl⟩ (fun hHeld => ?_)
    clear hK K
    refine norm_ (a' := ?_) ?_ ?_
    rotate_left
    ·show Act.put _ (some 24) _ = _
     simp only [px_q]
     rfl
    refine pure_ (i := 5) (N := some 6) (v := ?_) (a' := ?_) (px_l 6 0) rfl rfl (by kernel_rfl) (fun _ _ _ h => h) (Or.inl ⟨by rfl, ?_⟩) ?_ ?_
    rotate_left
    ·intro w'
     go_simp
     with_reducible rfl
    rotate_left
    ·simp only [px_q]
     rfl
    refine done_ (by kernel_rfl) ?_
    have hcz41_0 : w40.cell? ⟨gb254, 0, none⟩ = some (.slice A0_0 l0_0.length c0_0) := (blk_cell BK254.out 0).trans rfl
    have hcz41_1 : w40.cell? ⟨gb254, 1, none⟩ = some (.slice A0_1 l0_1.length c0_1) := (blk_cell BK254.out 1).trans rfl
    have hfz41_0 := blk_frozen BK254.out 0
    have hfz41_1 := blk_frozen BK254.out 1
    try go_wp2_with (first | ((with_reducible refine gate_callee (f := 6) rfl ?_); refine goesL_ (some 26) rfl rfl Try.func6 (by kernel_rfl) rfl #[.agg #[.slice A0_0 l0_0.length c0_0, .slice A0_1 l0_1.length c0_1]] rfl px_dn ?_; (with_reducible refine (laws_toDict.calls k _ _ l0_0 _ _ l0_1 t271 t274 _ ?side1 ?side2 ?side3 ?side4 A22.out).mono ?_); (case side1 => exact px_cV ((Kd.C_below HR0_0.out HB.out))); (case side2 => exact HC0_0.out); (case side3 => exact px_cV ((Kd.C_below HR0_1.out HB.out))); (case side4 => exact HC0_1.out); rintro e w42 ⟨v272, v275, rfl, ho0, ho1, hb⟩; refine ⟨_, rfl, ?_⟩; have n0_ := aM (Kd.R_elder' (px_rV HO260.out) (Kd.R_base ho0) hb); have n1_ := aM (Kd.R_elder' (px_rV HO263.out) (Kd.R_base ho1) hb); have n2_ := aM (Kd.R_elder' (px_rV HO266.out) (Kd.R_base ho0) hb); have n3_ := aM (Kd.R_elder' (px_rV HO269.out) (Kd.R_base ho1) hb); have n4_ := aM (Kd.R_lower (Kd.R_new' (Kd.R_new' ho0 (Kd.R_lt (px_rV HO260.out))) (Kd.R_lt (px_rV HO266.out))) (below_size (px_h2 HB.out GE254.out GE255.out))); have n5_ := aM (Kd.R_lower (Kd.R_new' (Kd.R_new' ho1 (Kd.R_lt (px_rV HO263.out))) (Kd.R_lt (px_rV HO269.out))) (below_size (px_h2 HB.out GE254.out GE255.out))); have n6_ := aM (blk_below (g := gb254) (o := .cells #[.slice A0_0 l0_0.length c0_0, .slice A0_1 l0_1.length c0_1] 25 (0, 0)) (px_bV BK254.out) hb); have n7_ := aM (blk_below (g := gb255) (o := .cells #[.slice A1_0 l1_0.length c1_0, .slice A1_1 l1_1.length c1_1] 25 (0, 0)) (px_bV BK255.out) hb); have n8_ := aM (below_step (px_h2 HB.out GE254.out GE255.out) hb); clear HO260; clear HO263; clear HO266; clear HO269; clear BK254; clear BK255; clear HB; have HO260 := n0_; have HO263 := n1_; have HO266 := n2_; have HO269 := n3_; have HO273 := n4_; have HO276 := n5_; have BK254 := n6_; have BK255 := n7_; have HB := n8_; clear n0_ n1_ n2_ n3_ n4_ n5_ n6_ n7_ n8_; (try clear hb); (try clear hb2); (try clear hk); (try clear hi); (try clear ho0); (try clear ho1)) | ((with_reducible refine gate_dst (N := 7) rfl ?_); refine box_event ?hg (N := 7) ?hd (cs := #[.slice none 0 0, .slice none 0 0]) (t := 30) ?hr ?_; (case hd => rfl); (case hg => rfl); (case hr => first | (go_simp; done) | (go_simp; rfl)); intro gb277 hg w43 hbox hb; have n0_ := aM (Kd.R_below (px_rV HO260.out) hb); have n1_ := aM (Kd.R_below (px_rV HO263.out) hb); have n2_ := aM (Kd.R_below (px_rV HO266.out) hb); have n3_ := aM (Kd.R_below (px_rV HO269.out) hb); have n4_ := aM (Kd.R_below (px_rV HO273.out) hb); have n5_ := aM (Kd.R_below (px_rV HO276.out) hb); have n6_ := aM (blk_below (g := gb254) (o := .cells #[.slice A0_0 l0_0.length c0_0, .slice A0_1 l0_1.length c0_1] 25 (0, 0)) (px_bV BK254.out) hb); have n7_ := aM (blk_below (g := gb255) (o := .cells #[.slice A1_0 l1_0.length c1_0, .slice A1_1 l1_1.length c1_1] 25 (0, 0)) (px_bV BK255.out) hb); have n8_ := aM (below_step (px_h2 HB.out GE254.out GE255.out) hb); have n9_ := aM (hbox); have n10_ := aM ((by rw [hg]; exact (below_size (px_h2 HB.out GE254.out GE255.out)) : w.heap.size ≤ gb277)); have n11_ := aM ((by rw [hg]; exact (below_size (px_h2 HB.out GE254.out GE255.out)) : w.heap.size ≤ gb277)); have n12_ := aM ((by rw [hg]; exact Nat.ne_of_lt (blk_lt (g := gb254) (o := .cells #[.slice A0_0 l0_0.length c0_0, .slice A0_1 l0_1.length c0_1] 25 (0, 0)) (px_bV BK254.out)) : gb254 ≠ gb277)); have n13_ := aM ((by rw [hg]; exact Nat.ne_of_gt (blk_lt (g := gb254) (o := .cells #[.slice A0_0 l0_0.length c0_0, .slice A0_1 l0_1.length c0_1] 25 (0, 0)) (px_bV BK254.out)) : gb277 ≠ gb254)); have n14_ := aM ((by rw [hg]; exact Nat.ne_of_lt (blk_lt (g := gb255) (o := .cells #[.slice A1_0 l1_0.length c1_0, .slice A1_1 l1_1.length c1_1] 25 (0, 0)) (px_bV BK255.out)) : gb255 ≠ gb277)); have n15_ := aM ((by rw [hg]; exact Nat.ne_of_gt (blk_lt (g := gb255) (o := .cells #[.slice A1_0 l1_0.length c1_0, .slice A1_1 l1_1.length c1_1] 25 (0, 0)) (px_bV BK255.out)) : gb277 ≠ gb255)); clear HO260; clear HO263; clear HO266; clear HO269; clear HO273; clear HO276; clear BK254; clear BK255; clear HB; have HO260 := n0_; have HO263 := n1_; have HO266 := n2_; have HO269 := n3_; have HO273 := n4_; have HO276 := n5_; have BK254 := n6_; have BK255 := n7_; have HB := n8_; have BK277 := n9_; have GW277 := n10_; have GE277 := n11_; have NB254_277 := n12_; have NB277_254 := n13_; have NB255_277 := n14_; have NB277_255 := n15_; clear n0_ n1_ n2_ n3_ n4_ n5_ n6_ n7_ n8_ n9_ n10_ n11_ n12_ n13_ n14_ n15_; clear hb hbox hg; obtain ⟨Ao44, co44, eo44⟩ := Kd.R_slice HO273.out; subst eo44; have hnb45 := NB277_254.out; have hnc45 := NB254_277.out; have hnb46 := NB277_255.out; have hnc46 := NB255_277.out; have hcz47_0 : w43.cell? ⟨gb277, 0, none⟩ = some (.slice none 0 0) := (blk_cell BK277.out 0).trans rfl; have hcz47_1 : w43.cell? ⟨gb277, 1, none⟩ = some (.slice none 0 0) := (blk_cell BK277.out 1).trans rfl; have hfz47_0 := blk_frozen BK277.out 0; have hfz47_1 := blk_frozen BK277.out 1; obtain ⟨Ao48, co48, eo48⟩ := Kd.R_slice HO276.out; subst eo48; have hcz49_0 : w43.cell? ⟨gb255, 0, none⟩ = some (.slice A1_0 l1_0.length c1_0) := (blk_cell BK255.out 0).trans rfl; have hcz49_1 : w43.cell? ⟨gb255, 1, none⟩ = some (.slice A1_1 l1_1.length c1_1) := (blk_cell BK255.out 1).trans rfl; have hfz49_0 := blk_frozen BK255.out 0; have hfz49_1 := blk_frozen BK255.out 1) | ((with_reducible refine gate_callee (f := 6) rfl ?_); refine goesL_ (some 28) rfl rfl Try.func6 (by kernel_rfl) rfl #[.agg #[.slice A1_0 l1_0.length c1_0, .slice A1_1 l1_1.length c1_1]] rfl px_dn ?_; (with_reducible refine (laws_toDict.calls k _ _ l1_0 _ _ l1_1 t278 t281 _ ?side1 ?side2 ?side3 ?side4 A23.out).mono ?_); (case side1 => exact Kd.C_below HR1_0.out (px_h3 HB.out GE254.out GE255.out GE277.out)); (case side2 => exact HC1_0.out); (case side3 => exact Kd.C_below HR1_1.out (px_h3 HB.out GE254.out GE255.out GE277.out)); (case side4 => exact HC1_1.out); rintro e w50 ⟨v279, v282, rfl, ho0, ho1, hb⟩; refine ⟨_, rfl, ?_⟩; have n0_ := aM (Kd.R_elder' (by (with_reducible repeat (first | apply Kd.R_alloc | apply Kd.R_drewN | apply Kd.R_drew)); exact (Kd.R_mono (Kd.R_far (p := ⟨gb277, 1, none⟩) (Kd.R_far (p := ⟨gb277, 0, none⟩) (Kd.R_types HO260.out BK277.out (by decide)) (fun _ hk => hk.2) (.slice Ao44 t271.length co44)) (fun _ hk => hk.2) (.slice Ao48 t274.length co48)) (fun _ h_ => h_.1))) (Kd.R_base ho0) hb); have n1_ := aM (Kd.R_elder' (by (with_reducible repeat (first | apply Kd.R_alloc | apply Kd.R_drewN | apply Kd.R_drew)); exact (Kd.R_mono (Kd.R_far (p := ⟨gb277, 1, none⟩) (Kd.R_far (p := ⟨gb277, 0, none⟩) (Kd.R_types HO263.out BK277.out (by decide)) (fun _ hk => hk.2) (.slice Ao44 t271.length co44)) (fun _ hk => hk.2) (.slice Ao48 t274.length co48)) (fun _ h_ => h_.1))) (Kd.R_base ho1) hb); have n2_ := aM (Kd.R_elder' (by (with_reducible repeat (first | apply Kd.R_alloc | apply Kd.R_drewN | apply Kd.R_drew)); exact (Kd.R_mono (Kd.R_far (p := ⟨gb277, 1, none⟩) (Kd.R_far (p := ⟨gb277, 0, none⟩) (Kd.R_types HO266.out BK277.out (by decide)) (fun _ hk => hk.2) (.slice Ao44 t271.length co44)) (fun _ hk => hk.2) (.slice Ao48 t274.length co48)) (fun _ h_ => h_.1))) (Kd.R_base ho0) hb); have n3_ := aM (Kd.R_elder' (by (with_reducible repeat (first | apply Kd.R_alloc | apply Kd.R_drewN | apply Kd.R_drew)); exact (Kd.R_mono (Kd.R_far (p := ⟨gb277, 1, none⟩) (Kd.R_far (p := ⟨gb277, 0, none⟩) (Kd.R_types HO269.out BK277.out (by decide)) (fun _ hk => hk.2) (.slice Ao44 t271.length co44)) (fun _ hk => hk.2) (.slice Ao48 t274.length co48)) (fun _ h_ => h_.1))) (Kd.R_base ho1) hb); have n4_ := aM (Kd.R_elder' (by (with_reducible repeat (first | apply Kd.R_alloc | apply Kd.R_drewN | apply Kd.R_drew)); exact (Kd.R_mono (Kd.R_far (p := ⟨gb277, 1, none⟩) (Kd.R_far (p := ⟨gb277, 0, none⟩) (Kd.R_types HO273.out BK277.out (by decide)) (fun _ hk => hk.2) (.slice Ao44 t271.length co44)) (fun _ hk => hk.2) (.slice Ao48 t274.length co48)) (fun _ h_ => h_.1))) (Kd.R_base ho0) hb); have n5_ := aM (Kd.R_elder' (by (with_reducible repeat (first | apply Kd.R_alloc | apply Kd.R_drewN | apply Kd.R_drew)); exact (Kd.R_mono (Kd.R_far (p := ⟨gb277, 1, none⟩) (Kd.R_far (p := ⟨gb277, 0, none⟩) (Kd.R_types HO276.out BK277.out (by decide)) (fun _ hk => hk.2) (.slice Ao44 t271.length co44)) (fun _ hk => hk.2) (.slice Ao48 t274.length co48)) (fun _ h_ => h_.1))) (Kd.R_base ho1) hb); have n6_ := aM (Kd.R_lower (Kd.R_new' (Kd.R_new' (Kd.R_new' ho0 (Kd.R_lt (by (with_reducible repeat (first | apply Kd.R_alloc | apply Kd.R_drewN | apply Kd.R_drew)); exact (Kd.R_mono (Kd.R_far (p := ⟨gb277, 1, none⟩) (Kd.R_far (p := ⟨gb277, 0, none⟩) (Kd.R_types HO260.out BK277.out (by decide)) (fun _ hk => hk.2) (.slice Ao44 t271.length co44)) (fun _ hk => hk.2) (.slice Ao48 t274.length co48)) (fun _ h_ => h_.1))))) (Kd.R_lt (by (with_reducible repeat (first | apply Kd.R_alloc | apply Kd.R_drewN | apply Kd.R_drew)); exact (Kd.R_mono (Kd.R_far (p := ⟨gb277, 1, none⟩) (Kd.R_far (p := ⟨gb277, 0, none⟩) (Kd.R_types HO266.out BK277.out (by decide)) (fun _ hk => hk.2) (.slice Ao44 t271.length co44)) (fun _ hk => hk.2) (.slice Ao48 t274.length co48)) (fun _ h_ => h_.1))))) (Kd.R_lt (by (with_reducible repeat (first | apply Kd.R_alloc | apply Kd.R_drewN | apply Kd.R_drew)); exact (Kd.R_mono (Kd.R_far (p := ⟨gb277, 1, none⟩) (Kd.R_far (p := ⟨gb277, 0, none⟩) (Kd.R_types HO273.out BK277.out (by decide)) (fun _ hk => hk.2) (.slice Ao44 t271.length co44)) (fun _ hk => hk.2) (.slice Ao48 t274.length co48)) (fun _ h_ => h_.1))))) (below_size (px_h3 HB.out GE254.out GE255.out GE277.out))); have n7_ := aM (Kd.R_lower (Kd.R_new' (Kd.R_new' (Kd.R_new' ho1 (Kd.R_lt (by (with_reducible repeat (first | apply Kd.R_alloc | apply Kd.R_drewN | apply Kd.R_drew)); exact (Kd.R_mono (Kd.R_far (p := ⟨gb277, 1, none⟩) (Kd.R_far (p := ⟨gb277, 0, none⟩) (Kd.R_types HO263.out BK277.out (by decide)) (fun _ hk => hk.2) (.slice Ao44 t271.length co44)) (fun _ hk => hk.2) (.slice Ao48 t274.length co48)) (fun _ h_ => h_.1))))) (Kd.R_lt (by (with_reducible repeat (first | apply Kd.R_alloc | apply Kd.R_drewN | apply Kd.R_drew)); exact (Kd.R_mono (Kd.R_far (p := ⟨gb277, 1, none⟩) (Kd.R_far (p := ⟨gb277, 0, none⟩) (Kd.R_types HO269.out BK277.out (by decide)) (fun _ hk => hk.2) (.slice Ao44 t271.length co44)) (fun _ hk => hk.2) (.slice Ao48 t274.length co48)) (fun _ h_ => h_.1))))) (Kd.R_lt (by (with_reducible repeat (first | apply Kd.R_alloc | apply Kd.R_drewN | apply Kd.R_drew)); exact (Kd.R_mono (Kd.R_far (p := ⟨gb277, 1, none⟩) (Kd.R_far (p := ⟨gb277, 0, none⟩) (Kd.R_types HO276.out BK277.out (by decide)) (fun _ hk => hk.2) (.slice Ao44 t271.length co44)) (fun _ hk => hk.2) (.slice Ao48 t274.length co48)) (fun _ h_ => h_.1))))) (below_size (px_h3 HB.out GE254.out GE255.out GE277.out))); have n8_ := aM (blk_below (g := gb254) (o := .cells #[.slice A0_0 l0_0.length c0_0, .slice A0_1 l0_1.length c0_1] 25 (0, 0)) (by (with_reducible repeat (first | refine blk_drewN ?_ _ | refine blk_drew ?_ | refine blk_alloc ?_ _)); refine blk_far ?_ NB254_277.out _; (with_reducible repeat (first | refine blk_drewN ?_ _ | refine blk_drew ?_ | refine blk_alloc ?_ _)); refine blk_far ?_ NB254_277.out _; (with_reducible repeat (first | refine blk_drewN ?_ _ | refine blk_drew ?_ | refine blk_alloc ?_ _)); exact BK254.out) hb); have n9_ := aM (blk_below (g := gb255) (o := .cells #[.slice A1_0 l1_0.length c1_0, .slice A1_1 l1_1.length c1_1] 25 (0, 0)) (by (with_reducible repeat (first | refine blk_drewN ?_ _ | refine blk_drew ?_ | refine blk_alloc ?_ _)); refine blk_far ?_ NB255_277.out _; (with_reducible repeat (first | refine blk_drewN ?_ _ | refine blk_drew ?_ | refine blk_alloc ?_ _)); refine blk_far ?_ NB255_277.out _; (with_reducible repeat (first | refine blk_drewN ?_ _ | refine blk_drew ?_ | refine blk_alloc ?_ _)); exact BK255.out) hb); have n10_ := aM (blk_below (g := gb277) (o := .cells #[.slice Ao44 t271.length co44, .slice Ao48 t274.length co48] 30 (0, 0)) (by (with_reducible repeat (first | refine blk_drewN ?_ _ | refine blk_drew ?_ | refine blk_alloc ?_ _)); refine blk_put (cs := #[.slice Ao44 t271.length co44, .slice none 0 0]) ?_ 1 _ rfl; (with_reducible repeat (first | refine blk_drewN ?_ _ | refine blk_drew ?_ | refine blk_alloc ?_ _)); refine blk_put (cs := #[.slice none 0 0, .slice none 0 0]) ?_ 0 _ rfl; (with_reducible repeat (first | refine blk_drewN ?_ _ | refine blk_drew ?_ | refine blk_alloc ?_ _)); exact BK277.out) hb); have n11_ := aM (below_step (px_h3 HB.out GE254.out GE255.out GE277.out) hb); clear HO260; clear HO263; clear HO266; clear HO269; clear HO273; clear HO276; clear BK254; clear BK255; clear BK277; clear HB; have HO260 := n0_; have HO263 := n1_; have HO266 := n2_; have HO269 := n3_; have HO273 := n4_; have HO276 := n5_; have HO280 := n6_; have HO283 := n7_; have BK254 := n8_; have BK255 := n9_; have BK277 := n10_; have HB := n11_; clear n0_ n1_ n2_ n3_ n4_ n5_ n6_ n7_ n8_ n9_ n10_ n11_; (try clear hb); (try clear hb2); (try clear hk); (try clear hi); (try clear ho0); (try clear ho1)) | ((with_reducible refine gate_dst (N := 8) rfl ?_); refine box_event ?hg (N := 8) ?hd (cs := #[.slice none 0 0, .slice none 0 0]) (t := 30) ?hr ?_; (case hd => rfl); (case hg => rfl); (case hr => first | (go_simp; done) | (go_simp; rfl)); intro gb284 hg w51 hbox hb; have n0_ := aM (Kd.R_below (px_rV HO260.out) hb); have n1_ := aM (Kd.R_below (px_rV HO263.out) hb); have n2_ := aM (Kd.R_below (px_rV HO266.out) hb); have n3_ := aM (Kd.R_below (px_rV HO269.out) hb); have n4_ := aM (Kd.R_below (px_rV HO273.out) hb); have n5_ := aM (Kd.R_below (px_rV HO276.out) hb); have n6_ := aM (Kd.R_below (px_rV HO280.out) hb); have n7_ := aM (Kd.R_below (px_rV HO283.out) hb); have n8_ := aM (blk_below (g := gb254) (o := .cells #[.slice A0_0 l0_0.length c0_0, .slice A0_1 l0_1.length c0_1] 25 (0, 0)) (px_bV BK254.out) hb); have n9_ := aM (blk_below (g := gb255) (o := .cells #[.slice A1_0 l1_0.length c1_0, .slice A1_1 l1_1.length c1_1] 25 (0, 0)) (px_bV BK255.out) hb); have n10_ := aM (blk_below (g := gb277) (o := .cells #[.slice Ao44 t271.length co44, .slice Ao48 t274.length co48] 30 (0, 0)) (px_bV BK277.out) hb); have n11_ := aM (below_step (px_h3 HB.out GE254.out GE255.out GE277.out) hb); have n12_ := aM (hbox); have n13_ := aM ((by rw [hg]; exact (below_size (px_h3 HB.out GE254.out GE255.out GE277.out)) : w.heap.size ≤ gb284)); have n14_ := aM ((by rw [hg]; exact (below_size (px_h3 HB.out GE254.out GE255.out GE277.out)) : w.heap.size ≤ gb284)); have n15_ := aM ((by rw [hg]; exact Nat.ne_of_lt (blk_lt (g := gb254) (o := .cells #[.slice A0_0 l0_0.length c0_0, .slice A0_1 l0_1.length c0_1] 25 (0, 0)) (px_bV BK254.out)) : gb254 ≠ gb284)); have n16_ := aM ((by rw [hg]; exact Nat.ne_of_gt (blk_lt (g := gb254) (o := .cells #[.slice A0_0 l0_0.length c0_0, .slice A0_1 l0_1.length c0_1] 25 (0, 0)) (px_bV BK254.out)) : gb284 ≠ gb254)); have n17_ := aM ((by rw [hg]; exact Nat.ne_of_lt (blk_lt (g := gb255) (o := .cells #[.slice A1_0 l1_0.length c1_0, .slice A1_1 l1_1.length c1_1] 25 (0, 0)) (px_bV BK255.out)) : gb255 ≠ gb284)); have n18_ := aM ((by rw [hg]; exact Nat.ne_of_gt (blk_lt (g := gb255) (o := .cells #[.slice A1_0 l1_0.length c1_0, .slice A1_1 l1_1.length c1_1] 25 (0, 0)) (px_bV BK255.out)) : gb284 ≠ gb255)); have n19_ := aM ((by rw [hg]; exact Nat.ne_of_lt (blk_lt (g := gb277) (o := .cells #[.slice Ao44 t271.length co44, .slice Ao48 t274.length co48] 30 (0, 0)) (px_bV BK277.out)) : gb277 ≠ gb284)); have n20_ := aM ((by rw [hg]; exact Nat.ne_of_gt (blk_lt (g := gb277) (o := .cells #[.slice Ao44 t271.length co44, .slice Ao48 t274.length co48] 30 (0, 0)) (px_bV BK277.out)) : gb284 ≠ gb277)); clear HO260; clear HO263; clear HO266; clear HO269; clear HO273; clear HO276; clear HO280; clear HO283; clear BK254; clear BK255; clear BK277; clear HB; have HO260 := n0_; have HO263 := n1_; have HO266 := n2_; have HO269 := n3_; have HO273 := n4_; have HO276 := n5_; have HO280 := n6_; have HO283 := n7_; have BK254 := n8_; have BK255 := n9_; have BK277 := n10_; have HB := n11_; have BK284 := n12_; have GW284 := n13_; have GE284 := n14_; have NB254_284 := n15_; have NB284_254 := n16_; have NB255_284 := n17_; have NB284_255 := n18_; have NB277_284 := n19_; have NB284_277 := n20_; clear n0_ n1_ n2_ n3_ n4_ n5_ n6_ n7_ n8_ n9_ n10_ n11_ n12_ n13_ n14_ n15_ n16_ n17_ n18_ n19_ n20_; clear hb hbox hg; obtain ⟨Ao52, co52, eo52⟩ := Kd.R_slice HO280.out; subst eo52; have hnb53 := NB284_254.out; have hnc53 := NB254_284.out; have hnb54 := NB284_255.out; have hnc54 := NB255_284.out; have hnb55 := NB284_277.out; have hnc55 := NB277_284.out; have hcz56_0 : w51.cell? ⟨gb284, 0, none⟩ = some (.slice none 0 0) := (blk_cell BK284.out 0).trans rfl; have hcz56_1 : w51.cell? ⟨gb284, 1, none⟩ = some (.slice none 0 0) := (blk_cell BK284.out 1).trans rfl; have hfz56_0 := blk_frozen BK284.out 0; have hfz56_1 := blk_frozen BK284.out 1; obtain ⟨Ao57, co57, eo57⟩ := Kd.R_slice HO283.out; subst eo57; have hcz58_0 : w51.cell? ⟨gb277, 0, none⟩ = some (.slice Ao44 t271.length co44) := (blk_cell BK277.out 0).trans rfl; have hcz58_1 : w51.cell? ⟨gb277, 1, none⟩ = some (.slice Ao48 t274.length co48) := (blk_cell BK277.out 1).trans rfl; have hfz58_0 := blk_frozen BK277.out 0; have hfz58_1 := blk_frozen BK277.out 1) | ((with_reducible refine gate_callee (f := 7) rfl ?_); refine goesL_ (some 31) rfl rfl Try.func7 (by kernel_rfl) rfl #[.agg #[.slice Ao44 t271.length co44, .slice Ao48 t274.length co48], .agg #[.slice Ao52 t278.length co52, .slice Ao57 t281.length co57]] rfl px_dn ?_; (with_reducible refine (impl_DictSame.calls k _ _ t271 _ _ t274 _ _ t278 _ _ t281 t285 _ ?side1 ?side2 ?side3 ?side4 ?side5 ?side6 ?side7 ?side8 A24.out).mono ?_); (case side1 => refine (Kd.R_reads' (e := 3) (base := w.heap.size) (ok := fun k_ => (((True ∧ some k_ ≠ (.slice Ao36 t258.length co36 : Value).ownBlock) ∧ some k_ ≠ (.slice Ao38 t264.length co38 : Value).ownBlock) ∧ some k_ ≠ (.slice Ao52 t278.length co52 : Value).ownBlock)) (n := t271.length) (c := co44) ?_).2.2; exact (by (with_reducible repeat (first | apply Kd.R_alloc | apply Kd.R_drewN | apply Kd.R_drew)); exact (Kd.R_mono (Kd.R_far (p := ⟨gb284, 1, none⟩) (Kd.R_far (p := ⟨gb284, 0, none⟩) (Kd.R_types HO273.out BK284.out (by decide)) (fun _ hk => hk.2) (.slice Ao52 t278.length co52)) (fun _ hk => hk.2) (.slice Ao57 t281.length co57)) (fun _ h_ => h_.1)))); (case side2 => exact (Kd.R_reads' HO273.out).2.1); (case side3 => refine (Kd.R_reads' (e := 38) (base := w.heap.size) (ok := fun k_ => (((True ∧ some k_ ≠ (.slice Ao37 t261.length co37 : Value).ownBlock) ∧ some k_ ≠ (.slice Ao39 t267.length co39 : Value).ownBlock) ∧ some k_ ≠ (.slice Ao57 t281.length co57 : Value).ownBlock)) (n := t274.length) (c := co48) ?_).2.2; exact (by (with_reducible repeat (first | apply Kd.R_alloc | apply Kd.R_drewN | apply Kd.R_drew)); exact (Kd.R_mono (Kd.R_far (p := ⟨gb284, 1, none⟩) (Kd.R_far (p := ⟨gb284, 0, none⟩) (Kd.R_types HO276.out BK284.out (by decide)) (fun _ hk => hk.2) (.slice Ao52 t278.length co52)) (fun _ hk => hk.2) (.slice Ao57 t281.length co57)) (fun _ h_ => h_.1)))); (case side4 => exact (Kd.R_reads' HO276.out).2.1); (case side5 => refine (Kd.R_reads' (e := 3) (base := w.heap.size) (ok := fun k_ => (((True ∧ some k_ ≠ (.slice Ao36 t258.length co36 : Value).ownBlock) ∧ some k_ ≠ (.slice Ao38 t264.length co38 : Value).ownBlock) ∧ some k_ ≠ (.slice Ao44 t271.length co44 : Value).ownBlock)) (n := t278.length) (c := co52) ?_).2.2; exact (by (with_reducible repeat (first | apply Kd.R_alloc | apply Kd.R_drewN | apply Kd.R_drew)); exact (Kd.R_mono (Kd.R_far (p := ⟨gb284, 1, none⟩) (Kd.R_far (p := ⟨gb284, 0, none⟩) (Kd.R_types HO280.out BK284.out (by decide)) (fun _ hk => hk.2) (.slice Ao52 t278.length co52)) (fun _ hk => hk.2) (.slice Ao57 t281.length co57)) (fun _ h_ => h_.1)))); (case side6 => exact (Kd.R_reads' HO280.out).2.1); (case side7 => refine (Kd.R_reads' (e := 38) (base := w.heap.size) (ok := fun k_ => (((True ∧ some k_ ≠ (.slice Ao37 t261.length co37 : Value).ownBlock) ∧ some k_ ≠ (.slice Ao39 t267.length co39 : Value).ownBlock) ∧ some k_ ≠ (.slice Ao48 t274.length co48 : Value).ownBlock)) (n := t281.length) (c := co57) ?_).2.2; exact (by (with_reducible repeat (first | apply Kd.R_alloc | apply Kd.R_drewN | apply Kd.R_drew)); exact (Kd.R_mono (Kd.R_far (p := ⟨gb284, 1, none⟩) (Kd.R_far (p := ⟨gb284, 0, none⟩) (Kd.R_types HO283.out BK284.out (by decide)) (fun _ hk => hk.2) (.slice Ao52 t278.length co52)) (fun _ hk => hk.2) (.slice Ao57 t281.length co57)) (fun _ h_ => h_.1)))); (case side8 => exact (Kd.R_reads' HO283.out).2.1); rintro e w59 ⟨rfl, hb⟩; refine ⟨_, rfl, ?_⟩; have n0_ := aM (Kd.R_below (by (with_reducible repeat (first | apply Kd.R_alloc | apply Kd.R_drewN | apply Kd.R_drew)); exact (Kd.R_mono (Kd.R_far (p := ⟨gb284, 1, none⟩) (Kd.R_far (p := ⟨gb284, 0, none⟩) (Kd.R_types HO260.out BK284.out (by decide)) (fun _ hk => hk.2) (.slice Ao52 t278.length co52)) (fun _ hk => hk.2) (.slice Ao57 t281.length co57)) (fun _ h_ => h_.1))) hb); have n1_ := aM (Kd.R_below (by (with_reducible repeat (first | apply Kd.R_alloc | apply Kd.R_drewN | apply Kd.R_drew)); exact (Kd.R_mono (Kd.R_far (p := ⟨gb284, 1, none⟩) (Kd.R_far (p := ⟨gb284, 0, none⟩) (Kd.R_types HO263.out BK284.out (by decide)) (fun _ hk => hk.2) (.slice Ao52 t278.length co52)) (fun _ hk => hk.2) (.slice Ao57 t281.length co57)) (fun _ h_ => h_.1))) hb); have n2_ := aM (Kd.R_below (by (with_reducible repeat (first | apply Kd.R_alloc | apply Kd.R_drewN | apply Kd.R_drew)); exact (Kd.R_mono (Kd.R_far (p := ⟨gb284, 1, none⟩) (Kd.R_far (p := ⟨gb284, 0, none⟩) (Kd.R_types HO266.out BK284.out (by decide)) (fun _ hk => hk.2) (.slice Ao52 t278.length co52)) (fun _ hk => hk.2) (.slice Ao57 t281.length co57)) (fun _ h_ => h_.1))) hb); have n3_ := aM (Kd.R_below (by (with_reducible repeat (first | apply Kd.R_alloc | apply Kd.R_drewN | apply Kd.R_drew)); exact (Kd.R_mono (Kd.R_far (p := ⟨gb284, 1, none⟩) (Kd.R_far (p := ⟨gb284, 0, none⟩) (Kd.R_types HO269.out BK284.out (by decide)) (fun _ hk => hk.2) (.slice Ao52 t278.length co52)) (fun _ hk => hk.2) (.slice Ao57 t281.length co57)) (fun _ h_ => h_.1))) hb); have n4_ := aM (Kd.R_below (by (with_reducible repeat (first | apply Kd.R_alloc | apply Kd.R_drewN | apply Kd.R_drew)); exact (Kd.R_mono (Kd.R_far (p := ⟨gb284, 1, none⟩) (Kd.R_far (p := ⟨gb284, 0, none⟩) (Kd.R_types HO273.out BK284.out (by decide)) (fun _ hk => hk.2) (.slice Ao52 t278.length co52)) (fun _ hk => hk.2) (.slice Ao57 t281.length co57)) (fun _ h_ => h_.1))) hb); have n5_ := aM (Kd.R_below (by (with_reducible repeat (first | apply Kd.R_alloc | apply Kd.R_drewN | apply Kd.R_drew)); exact (Kd.R_mono (Kd.R_far (p := ⟨gb284, 1, none⟩) (Kd.R_far (p := ⟨gb284, 0, none⟩) (Kd.R_types HO276.out BK284.out (by decide)) (fun _ hk => hk.2) (.slice Ao52 t278.length co52)) (fun _ hk => hk.2) (.slice Ao57 t281.length co57)) (fun _ h_ => h_.1))) hb); have n6_ := aM (Kd.R_below (by (with_reducible repeat (first | apply Kd.R_alloc | apply Kd.R_drewN | apply Kd.R_drew)); exact (Kd.R_mono (Kd.R_far (p := ⟨gb284, 1, none⟩) (Kd.R_far (p := ⟨gb284, 0, none⟩) (Kd.R_types HO280.out BK284.out (by decide)) (fun _ hk => hk.2) (.slice Ao52 t278.length co52)) (fun _ hk => hk.2) (.slice Ao57 t281.length co57)) (fun _ h_ => h_.1))) hb); have n7_ := aM (Kd.R_below (by (with_reducible repeat (first | apply Kd.R_alloc | apply Kd.R_drewN | apply Kd.R_drew)); exact (Kd.R_mono (Kd.R_far (p := ⟨gb284, 1, none⟩) (Kd.R_far (p := ⟨gb284, 0, none⟩) (Kd.R_types HO283.out BK284.out (by decide)) (fun _ hk => hk.2) (.slice Ao52 t278.length co52)) (fun _ hk => hk.2) (.slice Ao57 t281.length co57)) (fun _ h_ => h_.1))) hb); have n8_ := aM (blk_below (g := gb254) (o := .cells #[.slice A0_0 l0_0.length c0_0, .slice A0_1 l0_1.length c0_1] 25 (0, 0)) (by (with_reducible repeat (first | refine blk_drewN ?_ _ | refine blk_drew ?_ | refine blk_alloc ?_ _)); refine blk_far ?_ NB254_284.out _; (with_reducible repeat (first | refine blk_drewN ?_ _ | refine blk_drew ?_ | refine blk_alloc ?_ _)); refine blk_far ?_ NB254_284.out _; (with_reducible repeat (first | refine blk_drewN ?_ _ | refine blk_drew ?_ | refine blk_alloc ?_ _)); exact BK254.out) hb); have n9_ := aM (blk_below (g := gb255) (o := .cells #[.slice A1_0 l1_0.length c1_0, .slice A1_1 l1_1.length c1_1] 25 (0, 0)) (by (with_reducible repeat (first | refine blk_drewN ?_ _ | refine blk_drew ?_ | refine blk_alloc ?_ _)); refine blk_far ?_ NB255_284.out _; (with_reducible repeat (first | refine blk_drewN ?_ _ | refine blk_drew ?_ | refine blk_alloc ?_ _)); refine blk_far ?_ NB255_284.out _; (with_reducible repeat (first | refine blk_drewN ?_ _ | refine blk_drew ?_ | refine blk_alloc ?_ _)); exact BK255.out) hb); have n10_ := aM (blk_below (g := gb277) (o := .cells #[.slice Ao44 t271.length co44, .slice Ao48 t274.length co48] 30 (0, 0)) (by (with_reducible repeat (first | refine blk_drewN ?_ _ | refine blk_drew ?_ | refine blk_alloc ?_ _)); refine blk_far ?_ NB277_284.out _; (with_reducible repeat (first | refine blk_drewN ?_ _ | refine blk_drew ?_ | refine blk_alloc ?_ _)); refine blk_far ?_ NB277_284.out _; (with_reducible repeat (first | refine blk_drewN ?_ _ | refine blk_drew ?_ | refine blk_alloc ?_ _)); exact BK277.out) hb); have n11_ := aM (blk_below (g := gb284) (o := .cells #[.slice Ao52 t278.length co52, .slice Ao57 t281.length co57] 30 (0, 0)) (by (with_reducible repeat (first | refine blk_drewN ?_ _ | refine blk_drew ?_ | refine blk_alloc ?_ _)); refine blk_put (cs := #[.slice Ao52 t278.length co52, .slice none 0 0]) ?_ 1 _ rfl; (with_reducible repeat (first | refine blk_drewN ?_ _ | refine blk_drew ?_ | refine blk_alloc ?_ _)); refine blk_put (cs := #[.slice none 0 0, .slice none 0 0]) ?_ 0 _ rfl; (with_reducible repeat (first | refine blk_drewN ?_ _ | refine blk_drew ?_ | refine blk_alloc ?_ _)); exact BK284.out) hb); have n12_ := aM (below_step (px_h4 HB.out GE254.out GE255.out GE277.out GE284.out) hb); clear HO260; clear HO263; clear HO266; clear HO269; clear HO273; clear HO276; clear HO280; clear HO283; clear BK254; clear BK255; clear BK277; clear BK284; clear HB; have HO260 := n0_; have HO263 := n1_; have HO266 := n2_; have HO269 := n3_; have HO273 := n4_; have HO276 := n5_; have HO280 := n6_; have HO283 := n7_; have BK254 := n8_; have BK255 := n9_; have BK277 := n10_; have BK284 := n11_; have HB := n12_; clear n0_ n1_ n2_ n3_ n4_ n5_ n6_ n7_ n8_ n9_ n10_ n11_ n12_; (try clear hb); (try clear hb2); (try clear hk); (try clear hi)))
    go_ret
    exact ⟨by first | rfl | (simp [errW_none, errW_some] <;> rfl) | (simp [*, errW_none, errW_some] <;> rfl), px_h4 HB.out GE254.out GE255.out GE277.out GE284.out⟩
   ·rw [if_neg c25] at H
    have c25b0 : (t285 != t270) = false := by simpa using c25
    (try (have c25b1 : decide (t285 = t270) = true := by simpa using c25))
    (try (have c25b2 : (t285 == t270) = true := by simpa using c25))
    clear c25
    replace H := Option.bind_eq_some_iff.mp H
    obtain ⟨⟨t286, t289⟩, A600, H⟩ := H
    replace H : ((laws_eqDict.f k t271 t274 t286 t289).bind fun t292 => (if t292 = true then ((laws_toDict.f k l1_0 l1_1).bind fun bt293 => ((laws_eqDict.f k t278 t281 bt293.1 bt293.2).bind fun t299 => (if t299 = true then (some true) else (some false)))) else (some false))) = some r := H
    have A60 := aM A600
    clear A600
    replace H := Option.bind_eq_some_iff.mp H
    obtain ⟨t292, A610, H⟩ := H
    replace H : (if t292 = true then ((laws_toDict.f k l1_0 l1_1).bind fun bt293 => ((laws_eqDict.f k t278 t281 bt293.1 bt293.2).bind fun t299 => (if t299 = true then (some true) else (some false)))) else (some false)) = some r := H
    have A61 := aM A610
    clear A610
    by_cases c62 : t292 = true
    ·subst c62
     have H1 : ((laws_toDict.f k l1_0 l1_1).bind fun bt293 => ((laws_eqDict.f k t278 t281 bt293.1 bt293.2).bind fun t299 => (if t299 = true then (some true) else (some false)))) = some r := by rw [if_pos rfl] at H; exact H
     clear H
     have H := H1
     clear H1
     replace H := Option.bind_eq_some_iff.mp H
     obtain ⟨⟨t293, t296⟩, A630, H⟩ := H
     replace H : ((laws_eqDict.f k t278 t281 t293 t296).bind fun t299 => (if t299 = true then (some true) else (some false))) = some r := H
     have A63 := aM A630
     clear A630
     replace H := Option.bind_eq_some_iff.mp H
     obtain ⟨t299, A640, H⟩ := H
     replace H : (if t299 = true then (some true) else (some false)) = some r := H
     have A64 := aM A640
     clear A640
     by_cases c65 : t299 = true
     ·subst c65
      have H1 : (some true) = some r := by rw [if_pos rfl] at H; exact H
      clear H
      have H := H1
      clear H1
      obtain rfl := Option.some.inj H
      go_enter Try.func3, Try.ntmps3
      try go_wp2_with (first | ((with_reducible refine gate_dst (N := 2) rfl ?_); refine box_event ?hg (N := 2) ?hd (cs := #[.slice A0_0 l0_0.length c0_0, .slice A0_1 l0_1.length c0_1]) (t := 25) ?hr ?_; (case hd => rfl); (case hg => rfl); (case hr => first | (go_simp; done) | (go_simp; rfl)); intro gb254 hg w66 hbox hb; have n0_ := aM (below_step (px_h0 HB.out) hb); have n1_ := aM (hbox); have n2_ := aM ((by rw [hg]; exact (below_size (px_h0 HB.out)) : w.heap.size ≤ gb254)); have n3_ := aM ((by rw [hg]; exact (below_size (px_h0 HB.out)) : w.heap.size ≤ gb254)); clear HB; have HB := n0_; have BK254 := n1_; have GW254 := n2_; have GE254 := n3_; clear n0_ n1_ n2_ n3_; clear hb hbox hg) | ((with_reducible refine gate_dst (N := 3) rfl ?_); refine box_event ?hg (N := 3) ?hd (cs := #[.slice A1_0 l1_0.length c1_0, .slice A1_1 l1_1.length c1_1]) (t := 25) ?hr ?_; (case hd => rfl); (case hg => rfl); (case hr => first | (go_simp; done) | (go_simp; rfl)); intro gb255 hg w67 hbox hb; have n0_ := aM (blk_below (g := gb254) (o := .cells #[.slice A0_0 l0_0.length c0_0, .slice A0_1 l0_1.length c0_1] 25 (0, 0)) (px_bV BK254.out) hb); have n1_ := aM (below_step (px_h1 HB.out GE254.out) hb); have n2_ := aM (hbox); have n3_ := aM ((by rw [hg]; exact (below_size (px_h1 HB.out GE254.out)) : w.heap.size ≤ gb255)); have n4_ := aM ((by rw [hg]; exact (below_size (px_h1 HB.out GE254.out)) : w.heap.size ≤ gb255)); have n5_ := aM ((by rw [hg]; exact Nat.ne_of_lt (blk_lt (g := gb254) (o := .cells #[.slice A0_0 l0_0.length c0_0, .slice A0_1 l0_1.length c0_1] 25 (0, 0)) (px_bV BK254.out)) : gb254 ≠ gb255)); have n6_ := aM ((by rw [hg]; exact Nat.ne_of_gt (blk_lt (g := gb254) (o := .cells #[.slice A0_0 l0_0.length c0_0, .slice A0_1 l0_1.length c0_1] 25 (0, 0)) (px_bV BK254.out)) : gb255 ≠ gb254)); clear BK254; clear HB; have BK254 := n0_; have HB := n1_; have BK255 := n2_; have GW255 := n3_; have GE255 := n4_; have NB254_255 := n5_; have NB255_254 := n6_; clear n0_ n1_ n2_ n3_ n4_ n5_ n6_; clear hb hbox hg; have hnb68 := NB254_255.out; have hnc68 := NB255_254.out; have hcz69_0 : w67.cell? ⟨gb254, 0, none⟩ = some (.slice A0_0 l0_0.length c0_0) := (blk_cell BK254.out 0).trans rfl; have hcz69_1 : w67.cell? ⟨gb254, 1, none⟩ = some (.slice A0_1 l0_1.length c0_1) := (blk_cell BK254.out 1).trans rfl; have hfz69_0 := blk_frozen BK254.out 0; have hfz69_1 := blk_frozen BK254.out 1) | ((with_reducible refine gate_callee (f := 4) rfl ?_); refine goesL_ (some 12) rfl rfl Try.func4 (by kernel_rfl) rfl #[.agg #[.slice A0_0 l0_0.length c0_0, .slice A0_1 l0_1.length c0_1], .int .i64 1048576] rfl px_dn ?_; (with_reducible refine (laws_szDict.calls k _ _ l0_0 _ _ l0_1 1048576 t256 _ ?side1 ?side2 ?side3 ?side4 A3.out).mono ?_); (case side1 => exact px_cV ((Kd.C_below HR0_0.out HB.out))); (case side2 => exact HC0_0.out); (case side3 => exact px_cV ((Kd.C_below HR0_1.out HB.out))); (case side4 => exact HC0_1.out); rintro e w70 ⟨rfl, hb⟩; refine ⟨_, rfl, ?_⟩; have n0_ := aM (blk_below (g := gb254) (o := .cells #[.slice A0_0 l0_0.length c0_0, .slice A0_1 l0_1.length c0_1] 25 (0, 0)) (px_bV BK254.out) hb); have n1_ := aM (blk_below (g := gb255) (o := .cells #[.slice A1_0 l1_0.length c1_0, .slice A1_1 l1_1.length c1_1] 25 (0, 0)) (px_bV BK255.out) hb); have n2_ := aM (below_step (px_h2 HB.out GE254.out GE255.out) hb); clear BK254; clear BK255; clear HB; have BK254 := n0_; have BK255 := n1_; have HB := n2_; clear n0_ n1_ n2_; (try clear hb); (try clear hb2); (try clear hk); (try clear hi); have hcz71_0 : w70.cell? ⟨gb255, 0, none⟩ = some (.slice A1_0 l1_0.length c1_0) := (blk_cell BK255.out 0).trans rfl; have hcz71_1 : w70.cell? ⟨gb255, 1, none⟩ = some (.slice A1_1 l1_1.length c1_1) := (blk_cell BK255.out 1).trans rfl; have hfz71_0 := blk_frozen BK255.out 0; have hfz71_1 := blk_frozen BK255.out 1) | ((with_reducible refine gate_callee (f := 4) rfl ?_); refine goesL_ (some 17) rfl rfl Try.func4 (by kernel_rfl) rfl #[.agg #[.slice A1_0 l1_0.length c1_0, .slice A1_1 l1_1.length c1_1], .int .i64 t256] rfl px_dn ?_; (with_reducible refine (laws_szDict.calls k _ _ l1_0 _ _ l1_1 t256 t257 _ ?side1 ?side2 ?side3 ?side4 A10.out).mono ?_); (case side1 => exact px_cV ((Kd.C_below HR1_0.out HB.out))); (case side2 => exact HC1_0.out); (case side3 => exact px_cV ((Kd.C_below HR1_1.out HB.out))); (case side4 => exact HC1_1.out); rintro e w72 ⟨rfl, hb⟩; refine ⟨_, rfl, ?_⟩; have n0_ := aM (blk_below (g := gb254) (o := .cells #[.slice A0_0 l0_0.length c0_0, .slice A0_1 l0_1.length c0_1] 25 (0, 0)) (px_bV BK254.out) hb); have n1_ := aM (blk_below (g := gb255) (o := .cells #[.slice A1_0 l1_0.length c1_0, .slice A1_1 l1_1.length c1_1] 25 (0, 0)) (px_bV BK255.out) hb); have n2_ := aM (below_step (px_h2 HB.out GE254.out GE255.out) hb); clear BK254; clear BK255; clear HB; have BK254 := n0_; have BK255 := n1_; have HB := n2_; clear n0_ n1_ n2_; (try clear hb); (try clear hb2); (try clear hk); (try clear hi)))
      have n0_ := aM (blk_drew BK254.out)
      have n1_ := aM (blk_drew BK255.out)
      have n2_ := aM (below_drew1 HB.out)
      clear BK254
      clear BK255
      clear HB
      have BK254 := n0_
      have BK255 := n1_
      have HB := n2_
      clear n0_ n1_ n2_
      refine start_ (n := 6) (S := fun w' => w'.cell? ⟨gb254, 0, none⟩ = some (.slice A0_0 l0_0.length c0_0) ∧ w'.cell? ⟨gb254, 1, none⟩ = some (.slice A0_1 l0_1.length c0_1) ∧ w'.cell? ⟨gb255, 0, none⟩ = some (.slice A1_0 l1_0.length c1_0) ∧ w'.cell? ⟨gb255, 1, none⟩ = some (.slice A1_1 l1_1.length c1_1)) (ds := []) (px_l 0 6) (by kernel_rfl) rfl rfl ⟨(blk_cell BK254.out 0).trans rfl, (blk_cell BK254.out 1).trans rfl, (blk_cell BK255.out 0).trans rfl, (blk_cell BK255.out 1).trans rfl⟩ (fun hHeld => ?_)
      generalize w72.drew = w73 at BK254 BK255 HB hHeld ⊢
      refine take_ (i := 0) (N := some 20) (v := ?_) (a' := ?_) (px_l 1 5) rfl rfl (by kernel_rfl) (fun _ _ _ h => h) (Or.inl ⟨by rfl, ?_⟩) hHeld ?_ ?_
      rotate_left
      ·rintro w' ⟨s0, s1, s2, s3⟩
       go_simp
       with_reducible rfl
      rotate_left
      ·simp only [px_q]
       rfl
      refine take_ (i := 2) (N := some 22) (v := ?_) (a' := ?_) #[true, false, true, false, false, false] rfl rfl (by kernel_rfl) (fun _ _ _ h => h) (Or.inl ⟨by rfl, ?_⟩) hHeld ?_ ?_
      rotate_left
      ·rintro w' ⟨s0, s1, s2, s3⟩
       go_simp
       with_reducible rfl
      rotate_left
      ·simp only [px_q]
       rfl
      refine one_ (i := 1) (N := some 21) (px_l 3 3) rfl rfl (by kernel_rfl) (by decide) (fun K hK => ?_)
      refine goes_ Try.func6 (by kernel_rfl) rfl #[.agg #[.slice A0_0 l0_0.length c0_0, .slice A0_1 l0_1.length c0_1]] (by rfl) rfl rfl px_dn ?_
      with_reducible refine (laws_toDict.calls k _ _ l0_0 _ _ l0_1 t258 t261 _ ?side1 ?side2 ?side3 ?side4 A19.out).mono ?_
      (case side1 => exact px_cV ((Kd.C_below HR0_0.out HB.out)))
      (case side2 => exact HC0_0.out)
      (case side3 => exact px_cV ((Kd.C_below HR0_1.out HB.out)))
      (case side4 => exact HC0_1.out)
      rintro e w74 ⟨v259, v262, rfl, ho0, ho1, hb⟩
      refine ⟨_, rfl, ?_⟩
      have n0_ := aM (Kd.R_lower ho0 (below_size (px_h2 HB.out GE254.out GE255.out)))
      have n1_ := aM (Kd.R_lower ho1 (below_size (px_h2 HB.out GE254.out GE255.out)))
      have n2_ := aM (blk_below (g := gb254) (o := .cells #[.slice A0_0 l0_0.length c0_0, .slice A0_1 l0_1.length c0_1] 25 (0, 0)) (px_bV BK254.out) hb)
      have n3_ := aM (blk_below (g := gb255) (o := .cells #[.slice A1_0 l1_0.length c1_0, .slice A1_1 l1_1.length c1_1] 25 (0, 0)) (px_bV BK255.out) hb)
      have n4_ := aM (below_step (px_h2 HB.out GE254.out GE255.out) hb)
      clear BK254
      clear BK255
      clear HB
      have HO260 := n0_
      have HO263 := n1_
      have BK254 := n2_
      have BK255 := n3_
      have HB := n4_
      clear n0_ n1_ n2_ n3_ n4_
      (try clear hb)
      (try clear hb2)
      (try clear hk)
      (try clear hi)
      (try clear ho0)
      (try clear ho1)
      refine hK.out _ _ ⟨(blk_cell BK254.out 0).trans rfl, (blk_cell BK254.out 1).trans rfl, (blk_cell BK255.out 0).trans rfl, (blk_cell BK255.out 1).trans rfl⟩ (fun hHeld => ?_)
      clear hK K
      refine norm_ (a' := ?_) ?_ ?_
      rotate_left
      ·show Act.put _ (some 21) _ = _
       simp only [px_q]
       rfl
      refine one_ (i := 3) (N := some 23) (px_l 4 2) rfl rfl (by kernel_rfl) (by decide) (fun K hK => ?_)
      refine goes_ Try.func6 (by kernel_rfl) rfl #[.agg #[.slice A1_0 l1_0.length c1_0, .slice A1_1 l1_1.length c1_1]] (by rfl) rfl rfl px_dn ?_
      with_reducible refine (laws_toDict.calls k _ _ l1_0 _ _ l1_1 t264 t267 _ ?side1 ?side2 ?side3 ?side4 A20.out).mono ?_
      (case side1 => exact px_cV ((Kd.C_below HR1_0.out HB.out)))
      (case side2 => exact HC1_0.out)
      (case side3 => exact px_cV ((Kd.C_below HR1_1.out HB.out)))
      (case side4 => exact HC1_1.out)
      rintro e w75 ⟨v265, v268, rfl, ho0, ho1, hb⟩
      refine ⟨_, rfl, ?_⟩
      have n0_ := aM (Kd.R_elder' (px_rV HO260.out) (Kd.R_base ho0) hb)
      have n1_ := aM (Kd.R_elder' (px_rV HO263.out) (Kd.R_base ho1) hb)
      have n2_ := aM (Kd.R_lower (Kd.R_new' ho0 (Kd.R_lt (px_rV HO260.out))) (below_size (px_h2 HB.out GE254.out GE255.out)))
      have n3_ := aM (Kd.R_lower (Kd.R_new' ho1 (Kd.R_lt (px_rV HO263.out))) (below_size (px_h2 HB.out GE254.out GE255.out)))
      have n4_ := aM (blk_below (g := gb254) (o := .cells #[.slice A0_0 l0_0.length c0_0, .slice A0_1 l0_1.length c0_1] 25 (0, 0)) (px_bV BK254.out) hb)
      have n5_ := aM (blk_below (g := gb255) (o := .cells #[.slice A1_0 l1_0.length c1_0, .slice A1_1 l1_1.length c1_1] 25 (0, 0)) (px_bV BK255.out) hb)
      have n6_ := aM (below_step (px_h2 HB.out GE254.out GE255.out) hb)
      clear HO260
      clear HO263
      clear BK254
      clear BK255
      clear HB
      have HO260 := n0_
      have HO263 := n1_
      have HO266 := n2_
      have HO269 := n3_
      have BK254 := n4_
      have BK255 := n5_
      have HB := n6_
      clear n0_ n1_ n2_ n3_ n4_ n5_ n6_
      (try clear hb)
      (try clear hb2)
      (try clear hk)
      (try clear hi)
      (try clear ho0)
      (try clear ho1)
      obtain ⟨Ao76, co76, eo76⟩ := Kd.R_slice HO260.out
      (first | subst eo76 | (injection eo76 with f1_ f2_ f3_; have f4_ := f1_.symm; have f5_ := f3_.symm; clear f1_ f2_ f3_; subst f4_; subst f5_))
      obtain ⟨Ao77, co77, eo77⟩ := Kd.R_slice HO263.out
      (first | subst eo77 | (injection eo77 with f1_ f2_ f3_; have f4_ := f1_.symm; have f5_ := f3_.symm; clear f1_ f2_ f3_; subst f4_; subst f5_))
      obtain ⟨Ao78, co78, eo78⟩ := Kd.R_slice HO266.out
      (first | subst eo78 | (injection eo78 with f1_ f2_ f3_; have f4_ := f1_.symm; have f5_ := f3_.symm; clear f1_ f2_ f3_; subst f4_; subst f5_))
      obtain ⟨Ao79, co79, eo79⟩ := Kd.R_slice HO269.out
      (first | subst eo79 | (injection eo79 with f1_ f2_ f3_; have f4_ := f1_.symm; have f5_ := f3_.symm; clear f1_ f2_ f3_; subst f4_; subst f5_))
      refine hK.out _ _ ⟨(blk_cell BK254.out 0).trans rfl, (blk_cell BK254.out 1).trans rfl, (blk_cell BK255.out 0).trans rfl, (blk_cell BK255.out 1).trans rfl⟩ (fun hHeld => ?_)
      clear hK K
      refine norm_ (a' := ?_) ?_ ?_
      rotate_left
      ·show Act.put _ (some 23) _ = _
       simp only [px_q]
       rfl
      refine one_ (i := 4) (N := some 24) (px_l 5 1) rfl rfl (by kernel_rfl) (by decide) (fun K hK => ?_)
      refine goes_ Try.func5 (by kernel_rfl) rfl #[.agg #[.slice Ao76 t258.length co76, .slice Ao77 t261.length co77], .agg #[.slice Ao78 t264.length co78, .slice Ao79 t267.length co79]] (by rfl) rfl rfl px_dn ?_
      with_reducible refine (spec_DictSame.calls k _ _ t258 _ _ t261 _ _ t264 _ _ t267 t270 _ ?side1 ?side2 ?side3 ?side4 ?side5 ?side6 ?side7 ?side8 A21.out).mono ?_
      (case side1 => exact px_cV ((Kd.R_reads' HO260.out).2.2))
      (case side2 => exact (Kd.R_reads' HO260.out).2.1)
      (case side3 => exact px_cV ((Kd.R_reads' HO263.out).2.2))
      (case side4 => exact (Kd.R_reads' HO263.out).2.1)
      (case side5 => exact px_cV ((Kd.R_reads' HO266.out).2.2))
      (case side6 => exact (Kd.R_reads' HO266.out).2.1)
      (case side7 => exact px_cV ((Kd.R_reads' HO269.out).2.2))
      (case side8 => exact (Kd.R_reads' HO269.out).2.1)
      rintro e w80 ⟨rfl, hb⟩
      refine ⟨_, rfl, ?_⟩
      have n0_ := aM (Kd.R_below (px_rV HO260.out) hb)
      have n1_ := aM (Kd.R_below (px_rV HO263.out) hb)
      have n2_ := aM (Kd.R_below (px_rV HO266.out) hb)
      have n3_ := aM (Kd.R_below (px_rV HO269.out) hb)
      have n4_ := aM (blk_below (g := gb254) (o := .cells #[.slice A0_0 l0_0.length c0_0, .slice A0_1 l0_1.length c0_1] 25 (0, 0)) (px_bV BK254.out) hb)
      have n5_ := aM (blk_below (g := gb255) (o := .cells #[.slice A1_0 l1_0.length c1_0, .slice A1_1 l1_1.length c1_1] 25 (0, 0)) (px_bV BK255.out) hb)
      have n6_ := aM (below_step (px_h2 HB.out GE254.out GE255.out) hb)
      clear HO260
      clear HO263
      clear HO266
      clear HO269
      clear BK254
      clear BK255
      clear HB
      have HO260 := n0_
      have HO263 := n1_
      have HO266 := n2_
      have HO269 := n3_
      have BK254 := n4_
      have BK255 := n5_
      have HB := n6_
      clear n0_ n1_ n2_ n3_ n4_ n5_ n6_
      (try clear hb)
      (try clear hb2)
      (try clear hk)
      (try clear hi)
      refine hK.out _ _ ⟨(blk_cell BK254.out 0).trans rfl, (blk_cell BK254.out 1).trans rfl, (blk_cell BK255.out 0).trans rfl, (blk_cell BK255.out 1).trans rfl⟩ (fun hHeld => ?_)
      clear hK K
      refine norm_ (a' := ?_) ?_ ?_
      rotate_left
      ·show Act.put _ (some 24) _ = _
       simp only [px_q]
       rfl
      refine pure_ (i := 5) (N := some 6) (v := ?_) (a' := ?_) (px_l 6 0) rfl rfl (by kernel_rfl) (fun _ _ _ h => h) (Or.inl ⟨by rfl, ?_⟩) ?_ ?_
      rotate_left
      ·intro w'
       go_simp
       with_reducible rfl
      rotate_left
      ·simp only [px_q]
       rfl
      refine done_ (by kernel_rfl) ?_
      have hcz81_0 : w80.cell? ⟨gb254, 0, none⟩ = some (.slice A0_0 l0_0.length c0_0) := (blk_cell BK254.out 0).trans rfl
      have hcz81_1 : w80.cell? ⟨gb254, 1, none⟩ = some (.slice A0_1 l0_1.length c0_1) := (blk_cell BK254.out 1).trans rfl
      have hfz81_0 := blk_frozen BK254.out 0
      have hfz81_1 := blk_frozen BK254.out 1
      try go_wp2_with (first | ((with_reducible refine gate_callee (f := 6) rfl ?_); refine goesL_ (some 26) rfl rfl Try.func6 (by kernel_rfl) rfl #[.agg #[.slice A0_0 l0_0.length c0_0, .slice A0_1 l0_1.length c0_1]] rfl px_dn ?_; (with_reducible refine (laws_toDict.calls k _ _ l0_0 _ _ l0_1 t271 t274 _ ?side1 ?side2 ?side3 ?side4 A22.out).mono ?_); (case side1 => exact px_cV ((Kd.C_below HR0_0.out HB.out))); (case side2 => exact HC0_0.out); (case side3 => exact px_cV ((Kd.C_below HR0_1.out HB.out))); (case side4 => exact HC0_1.out); rintro e w82 ⟨v272, v275, rfl, ho0, ho1, hb⟩; refine ⟨_, rfl, ?_⟩; have n0_ := aM (Kd.R_elder' (px_rV HO260.out) (Kd.R_base ho0) hb); have n1_ := aM (Kd.R_elder' (px_rV HO263.out) (Kd.R_base ho1) hb); have n2_ := aM (Kd.R_elder' (px_rV HO266.out) (Kd.R_base ho0) hb); have n3_ := aM (Kd.R_elder' (px_rV HO269.out) (Kd.R_base ho1) hb); have n4_ := aM (Kd.R_lower (Kd.R_new' (Kd.R_new' ho0 (Kd.R_lt (px_rV HO260.out))) (Kd.R_lt (px_rV HO266.out))) (below_size (px_h2 HB.out GE254.out GE255.out))); have n5_ := aM (Kd.R_lower (Kd.R_new' (Kd.R_new' ho1 (Kd.R_lt (px_rV HO263.out))) (Kd.R_lt (px_rV HO269.out))) (below_size (px_h2 HB.out GE254.out GE255.out))); have n6_ := aM (blk_below (g := gb254) (o := .cells #[.slice A0_0 l0_0.length c0_0, .slice A0_1 l0_1.length c0_1] 25 (0, 0)) (px_bV BK254.out) hb); have n7_ := aM (blk_below (g := gb255) (o := .cells #[.slice A1_0 l1_0.length c1_0, .slice A1_1 l1_1.length c1_1] 25 (0, 0)) (px_bV BK255.out) hb); have n8_ := aM (below_step (px_h2 HB.out GE254.out GE255.out) hb); clear HO260; clear HO263; clear HO266; clear HO269; clear BK254; clear BK255; clear HB; have HO260 := n0_; have HO263 := n1_; have HO266 := n2_; have HO269 := n3_; have HO273 := n4_; have HO276 := n5_; have BK254 := n6_; have BK255 := n7_; have HB := n8_; clear n0_ n1_ n2_ n3_ n4_ n5_ n6_ n7_ n8_; (try clear hb); (try clear hb2); (try clear hk); (try clear hi); (try clear ho0); (try clear ho1)) | ((with_reducible refine gate_dst (N := 7) rfl ?_); refine box_event ?hg (N := 7) ?hd (cs := #[.slice none 0 0, .slice none 0 0]) (t := 30) ?hr ?_; (case hd => rfl); (case hg => rfl); (case hr => first | (go_simp; done) | (go_simp; rfl)); intro gb277 hg w83 hbox hb; have n0_ := aM (Kd.R_below (px_rV HO260.out) hb); have n1_ := aM (Kd.R_below (px_rV HO263.out) hb); have n2_ := aM (Kd.R_below (px_rV HO266.out) hb); have n3_ := aM (Kd.R_below (px_rV HO269.out) hb); have n4_ := aM (Kd.R_below (px_rV HO273.out) hb); have n5_ := aM (Kd.R_below (px_rV HO276.out) hb); have n6_ := aM (blk_below (g := gb254) (o := .cells #[.slice A0_0 l0_0.length c0_0, .slice A0_1 l0_1.length c0_1] 25 (0, 0)) (px_bV BK254.out) hb); have n7_ := aM (blk_below (g := gb255) (o := .cells #[.slice A1_0 l1_0.length c1_0, .slice A1_1 l1_1.length c1_1] 25 (0, 0)) (px_bV BK255.out) hb); have n8_ := aM (below_step (px_h2 HB.out GE254.out GE255.out) hb); have n9_ := aM (hbox); have n10_ := aM ((by rw [hg]; exact (below_size (px_h2 HB.out GE254.out GE255.out)) : w.heap.size ≤ gb277)); have n11_ := aM ((by rw [hg]; exact (below_size (px_h2 HB.out GE254.out GE255.out)) : w.heap.size ≤ gb277)); have n12_ := aM ((by rw [hg]; exact Nat.ne_of_lt (blk_lt (g := gb254) (o := .cells #[.slice A0_0 l0_0.length c0_0, .slice A0_1 l0_1.length c0_1] 25 (0, 0)) (px_bV BK254.out)) : gb254 ≠ gb277)); have n13_ := aM ((by rw [hg]; exact Nat.ne_of_gt (blk_lt (g := gb254) (o := .cells #[.slice A0_0 l0_0.length c0_0, .slice A0_1 l0_1.length c0_1] 25 (0, 0)) (px_bV BK254.out)) : gb277 ≠ gb254)); have n14_ := aM ((by rw [hg]; exact Nat.ne_of_lt (blk_lt (g := gb255) (o := .cells #[.slice A1_0 l1_0.length c1_0, .slice A1_1 l1_1.length c1_1] 25 (0, 0)) (px_bV BK255.out)) : gb255 ≠ gb277)); have n15_ := aM ((by rw [hg]; exact Nat.ne_of_gt (blk_lt (g := gb255) (o := .cells #[.slice A1_0 l1_0.length c1_0, .slice A1_1 l1_1.length c1_1] 25 (0, 0)) (px_bV BK255.out)) : gb277 ≠ gb255)); clear HO260; clear HO263; clear HO266; clear HO269; clear HO273; clear HO276; clear BK254; clear BK255; clear HB; have HO260 := n0_; have HO263 := n1_; have HO266 := n2_; have HO269 := n3_; have HO273 := n4_; have HO276 := n5_; have BK254 := n6_; have BK255 := n7_; have HB := n8_; have BK277 := n9_; have GW277 := n10_; have GE277 := n11_; have NB254_277 := n12_; have NB277_254 := n13_; have NB255_277 := n14_; have NB277_255 := n15_; clear n0_ n1_ n2_ n3_ n4_ n5_ n6_ n7_ n8_ n9_ n10_ n11_ n12_ n13_ n14_ n15_; clear hb hbox hg; obtain ⟨Ao84, co84, eo84⟩ := Kd.R_slice HO273.out; subst eo84; have hnb85 := NB277_254.out; have hnc85 := NB254_277.out; have hnb86 := NB277_255.out; have hnc86 := NB255_277.out; have hcz87_0 : w83.cell? ⟨gb277, 0, none⟩ = some (.slice none 0 0) := (blk_cell BK277.out 0).trans rfl; have hcz87_1 : w83.cell? ⟨gb277, 1, none⟩ = some (.slice none 0 0) := (blk_cell BK277.out 1).trans rfl; have hfz87_0 := blk_frozen BK277.out 0; have hfz87_1 := blk_frozen BK277.out 1; obtain ⟨Ao88, co88, eo88⟩ := Kd.R_slice HO276.out; subst eo88; have hcz89_0 : w83.cell? ⟨gb255, 0, none⟩ = some (.slice A1_0 l1_0.length c1_0) := (blk_cell BK255.out 0).trans rfl; have hcz89_1 : w83.cell? ⟨gb255, 1, none⟩ = some (.slice A1_1 l1_1.length c1_1) := (blk_cell BK255.out 1).trans rfl; have hfz89_0 := blk_frozen BK255.out 0; have hfz89_1 := blk_frozen BK255.out 1) | ((with_reducible refine gate_callee (f := 6) rfl ?_); refine goesL_ (some 28) rfl rfl Try.func6 (by kernel_rfl) rfl #[.agg #[.slice A1_0 l1_0.length c1_0, .slice A1_1 l1_1.length c1_1]] rfl px_dn ?_; (with_reducible refine (laws_toDict.calls k _ _ l1_0 _ _ l1_1 t278 t281 _ ?side1 ?side2 ?side3 ?side4 A23.out).mono ?_); (case side1 => exact Kd.C_below HR1_0.out (px_h3 HB.out GE254.out GE255.out GE277.out)); (case side2 => exact HC1_0.out); (case side3 => exact Kd.C_below HR1_1.out (px_h3 HB.out GE254.out GE255.out GE277.out)); (case side4 => exact HC1_1.out); rintro e w90 ⟨v279, v282, rfl, ho0, ho1, hb⟩; refine ⟨_, rfl, ?_⟩; have n0_ := aM (Kd.R_elder' (by (with_reducible repeat (first | apply Kd.R_alloc | apply Kd.R_drewN | apply Kd.R_drew)); exact (Kd.R_mono (Kd.R_far (p := ⟨gb277, 1, none⟩) (Kd.R_far (p := ⟨gb277, 0, none⟩) (Kd.R_types HO260.out BK277.out (by decide)) (fun _ hk => hk.2) (.slice Ao84 t271.length co84)) (fun _ hk => hk.2) (.slice Ao88 t274.length co88)) (fun _ h_ => h_.1))) (Kd.R_base ho0) hb); have n1_ := aM (Kd.R_elder' (by (with_reducible repeat (first | apply Kd.R_alloc | apply Kd.R_drewN | apply Kd.R_drew)); exact (Kd.R_mono (Kd.R_far (p := ⟨gb277, 1, none⟩) (Kd.R_far (p := ⟨gb277, 0, none⟩) (Kd.R_types HO263.out BK277.out (by decide)) (fun _ hk => hk.2) (.slice Ao84 t271.length co84)) (fun _ hk => hk.2) (.slice Ao88 t274.length co88)) (fun _ h_ => h_.1))) (Kd.R_base ho1) hb); have n2_ := aM (Kd.R_elder' (by (with_reducible repeat (first | apply Kd.R_alloc | apply Kd.R_drewN | apply Kd.R_drew)); exact (Kd.R_mono (Kd.R_far (p := ⟨gb277, 1, none⟩) (Kd.R_far (p := ⟨gb277, 0, none⟩) (Kd.R_types HO266.out BK277.out (by decide)) (fun _ hk => hk.2) (.slice Ao84 t271.length co84)) (fun _ hk => hk.2) (.slice Ao88 t274.length co88)) (fun _ h_ => h_.1))) (Kd.R_base ho0) hb); have n3_ := aM (Kd.R_elder' (by (with_reducible repeat (first | apply Kd.R_alloc | apply Kd.R_drewN | apply Kd.R_drew)); exact (Kd.R_mono (Kd.R_far (p := ⟨gb277, 1, none⟩) (Kd.R_far (p := ⟨gb277, 0, none⟩) (Kd.R_types HO269.out BK277.out (by decide)) (fun _ hk => hk.2) (.slice Ao84 t271.length co84)) (fun _ hk => hk.2) (.slice Ao88 t274.length co88)) (fun _ h_ => h_.1))) (Kd.R_base ho1) hb); have n4_ := aM (Kd.R_elder' (by (with_reducible repeat (first | apply Kd.R_alloc | apply Kd.R_drewN | apply Kd.R_drew)); exact (Kd.R_mono (Kd.R_far (p := ⟨gb277, 1, none⟩) (Kd.R_far (p := ⟨gb277, 0, none⟩) (Kd.R_types HO273.out BK277.out (by decide)) (fun _ hk => hk.2) (.slice Ao84 t271.length co84)) (fun _ hk => hk.2) (.slice Ao88 t274.length co88)) (fun _ h_ => h_.1))) (Kd.R_base ho0) hb); have n5_ := aM (Kd.R_elder' (by (with_reducible repeat (first | apply Kd.R_alloc | apply Kd.R_drewN | apply Kd.R_drew)); exact (Kd.R_mono (Kd.R_far (p := ⟨gb277, 1, none⟩) (Kd.R_far (p := ⟨gb277, 0, none⟩) (Kd.R_types HO276.out BK277.out (by decide)) (fun _ hk => hk.2) (.slice Ao84 t271.length co84)) (fun _ hk => hk.2) (.slice Ao88 t274.length co88)) (fun _ h_ => h_.1))) (Kd.R_base ho1) hb); have n6_ := aM (Kd.R_lower (Kd.R_new' (Kd.R_new' (Kd.R_new' ho0 (Kd.R_lt (by (with_reducible repeat (first | apply Kd.R_alloc | apply Kd.R_drewN | apply Kd.R_drew)); exact (Kd.R_mono (Kd.R_far (p := ⟨gb277, 1, none⟩) (Kd.R_far (p := ⟨gb277, 0, none⟩) (Kd.R_types HO260.out BK277.out (by decide)) (fun _ hk => hk.2) (.slice Ao84 t271.length co84)) (fun _ hk => hk.2) (.slice Ao88 t274.length co88)) (fun _ h_ => h_.1))))) (Kd.R_lt (by (with_reducible repeat (first | apply Kd.R_alloc | apply Kd.R_drewN | apply Kd.R_drew)); exact (Kd.R_mono (Kd.R_far (p := ⟨gb277, 1, none⟩) (Kd.R_far (p := ⟨gb277, 0, none⟩) (Kd.R_types HO266.out BK277.out (by decide)) (fun _ hk => hk.2) (.slice Ao84 t271.length co84)) (fun _ hk => hk.2) (.slice Ao88 t274.length co88)) (fun _ h_ => h_.1))))) (Kd.R_lt (by (with_reducible repeat (first | apply Kd.R_alloc | apply Kd.R_drewN | apply Kd.R_drew)); exact (Kd.R_mono (Kd.R_far (p := ⟨gb277, 1, none⟩) (Kd.R_far (p := ⟨gb277, 0, none⟩) (Kd.R_types HO273.out BK277.out (by decide)) (fun _ hk => hk.2) (.slice Ao84 t271.length co84)) (fun _ hk => hk.2) (.slice Ao88 t274.length co88)) (fun _ h_ => h_.1))))) (below_size (px_h3 HB.out GE254.out GE255.out GE277.out))); have n7_ := aM (Kd.R_lower (Kd.R_new' (Kd.R_new' (Kd.R_new' ho1 (Kd.R_lt (by (with_reducible repeat (first | apply Kd.R_alloc | apply Kd.R_drewN | apply Kd.R_drew)); exact (Kd.R_mono (Kd.R_far (p := ⟨gb277, 1, none⟩) (Kd.R_far (p := ⟨gb277, 0, none⟩) (Kd.R_types HO263.out BK277.out (by decide)) (fun _ hk => hk.2) (.slice Ao84 t271.length co84)) (fun _ hk => hk.2) (.slice Ao88 t274.length co88)) (fun _ h_ => h_.1))))) (Kd.R_lt (by (with_reducible repeat (first | apply Kd.R_alloc | apply Kd.R_drewN | apply Kd.R_drew)); exact (Kd.R_mono (Kd.R_far (p := ⟨gb277, 1, none⟩) (Kd.R_far (p := ⟨gb277, 0, none⟩) (Kd.R_types HO269.out BK277.out (by decide)) (fun _ hk => hk.2) (.slice Ao84 t271.length co84)) (fun _ hk => hk.2) (.slice Ao88 t274.length co88)) (fun _ h_ => h_.1))))) (Kd.R_lt (by (with_reducible repeat (first | apply Kd.R_alloc | apply Kd.R_drewN | apply Kd.R_drew)); exact (Kd.R_mono (Kd.R_far (p := ⟨gb277, 1, none⟩) (Kd.R_far (p := ⟨gb277, 0, none⟩) (Kd.R_types HO276.out BK277.out (by decide)) (fun _ hk => hk.2) (.slice Ao84 t271.length co84)) (fun _ hk => hk.2) (.slice Ao88 t274.length co88)) (fun _ h_ => h_.1))))) (below_size (px_h3 HB.out GE254.out GE255.out GE277.out))); have n8_ := aM (blk_below (g := gb254) (o := .cells #[.slice A0_0 l0_0.length c0_0, .slice A0_1 l0_1.length c0_1] 25 (0, 0)) (by (with_reducible repeat (first | refine blk_drewN ?_ _ | refine blk_drew ?_ | refine blk_alloc ?_ _)); refine blk_far ?_ NB254_277.out _; (with_reducible repeat (first | refine blk_drewN ?_ _ | refine blk_drew ?_ | refine blk_alloc ?_ _)); refine blk_far ?_ NB254_277.out _; (with_reducible repeat (first | refine blk_drewN ?_ _ | refine blk_drew ?_ | refine blk_alloc ?_ _)); exact BK254.out) hb); have n9_ := aM (blk_below (g := gb255) (o := .cells #[.slice A1_0 l1_0.length c1_0, .slice A1_1 l1_1.length c1_1] 25 (0, 0)) (by (with_reducible repeat (first | refine blk_drewN ?_ _ | refine blk_drew ?_ | refine blk_alloc ?_ _)); refine blk_far ?_ NB255_277.out _; (with_reducible repeat (first | refine blk_drewN ?_ _ | refine blk_drew ?_ | refine blk_alloc ?_ _)); refine blk_far ?_ NB255_277.out _; (with_reducible repeat (first | refine blk_drewN ?_ _ | refine blk_drew ?_ | refine blk_alloc ?_ _)); exact BK255.out) hb); have n10_ := aM (blk_below (g := gb277) (o := .cells #[.slice Ao84 t271.length co84, .slice Ao88 t274.length co88] 30 (0, 0)) (by (with_reducible repeat (first | refine blk_drewN ?_ _ | refine blk_drew ?_ | refine blk_alloc ?_ _)); refine blk_put (cs := #[.slice Ao84 t271.length co84, .slice none 0 0]) ?_ 1 _ rfl; (with_reducible repeat (first | refine blk_drewN ?_ _ | refine blk_drew ?_ | refine blk_alloc ?_ _)); refine blk_put (cs := #[.slice none 0 0, .slice none 0 0]) ?_ 0 _ rfl; (with_reducible repeat (first | refine blk_drewN ?_ _ | refine blk_drew ?_ | refine blk_alloc ?_ _)); exact BK277.out) hb); have n11_ := aM (below_step (px_h3 HB.out GE254.out GE255.out GE277.out) hb); clear HO260; clear HO263; clear HO266; clear HO269; clear HO273; clear HO276; clear BK254; clear BK255; clear BK277; clear HB; have HO260 := n0_; have HO263 := n1_; have HO266 := n2_; have HO269 := n3_; have HO273 := n4_; have HO276 := n5_; have HO280 := n6_; have HO283 := n7_; have BK254 := n8_; have BK255 := n9_; have BK277 := n10_; have HB := n11_; clear n0_ n1_ n2_ n3_ n4_ n5_ n6_ n7_ n8_ n9_ n10_ n11_; (try clear hb); (try clear hb2); (try clear hk); (try clear hi); (try clear ho0); (try clear ho1)) | ((with_reducible refine gate_dst (N := 8) rfl ?_); refine box_event ?hg (N := 8) ?hd (cs := #[.slice none 0 0, .slice none 0 0]) (t := 30) ?hr ?_; (case hd => rfl); (case hg => rfl); (case hr => first | (go_simp; done) | (go_simp; rfl)); intro gb284 hg w91 hbox hb; have n0_ := aM (Kd.R_below (px_rV HO260.out) hb); have n1_ := aM (Kd.R_below (px_rV HO263.out) hb); have n2_ := aM (Kd.R_below (px_rV HO266.out) hb); have n3_ := aM (Kd.R_below (px_rV HO269.out) hb); have n4_ := aM (Kd.R_below (px_rV HO273.out) hb); have n5_ := aM (Kd.R_below (px_rV HO276.out) hb); have n6_ := aM (Kd.R_below (px_rV HO280.out) hb); have n7_ := aM (Kd.R_below (px_rV HO283.out) hb); have n8_ := aM (blk_below (g := gb254) (o := .cells #[.slice A0_0 l0_0.length c0_0, .slice A0_1 l0_1.length c0_1] 25 (0, 0)) (px_bV BK254.out) hb); have n9_ := aM (blk_below (g := gb255) (o := .cells #[.slice A1_0 l1_0.length c1_0, .slice A1_1 l1_1.length c1_1] 25 (0, 0)) (px_bV BK255.out) hb); have n10_ := aM (blk_below (g := gb277) (o := .cells #[.slice Ao84 t271.length co84, .slice Ao88 t274.length co88] 30 (0, 0)) (px_bV BK277.out) hb); have n11_ := aM (below_step (px_h3 HB.out GE254.out GE255.out GE277.out) hb); have n12_ := aM (hbox); have n13_ := aM ((by rw [hg]; exact (below_size (px_h3 HB.out GE254.out GE255.out GE277.out)) : w.heap.size ≤ gb284)); have n14_ := aM ((by rw [hg]; exact (below_size (px_h3 HB.out GE254.out GE255.out GE277.out)) : w.heap.size ≤ gb284)); have n15_ := aM ((by rw [hg]; exact Nat.ne_of_lt (blk_lt (g := gb254) (o := .cells #[.slice A0_0 l0_0.length c0_0, .slice A0_1 l0_1.length c0_1] 25 (0, 0)) (px_bV BK254.out)) : gb254 ≠ gb284)); have n16_ := aM ((by rw [hg]; exact Nat.ne_of_gt (blk_lt (g := gb254) (o := .cells #[.slice A0_0 l0_0.length c0_0, .slice A0_1 l0_1.length c0_1] 25 (0, 0)) (px_bV BK254.out)) : gb284 ≠ gb254)); have n17_ := aM ((by rw [hg]; exact Nat.ne_of_lt (blk_lt (g := gb255) (o := .cells #[.slice A1_0 l1_0.length c1_0, .slice A1_1 l1_1.length c1_1] 25 (0, 0)) (px_bV BK255.out)) : gb255 ≠ gb284)); have n18_ := aM ((by rw [hg]; exact Nat.ne_of_gt (blk_lt (g := gb255) (o := .cells #[.slice A1_0 l1_0.length c1_0, .slice A1_1 l1_1.length c1_1] 25 (0, 0)) (px_bV BK255.out)) : gb284 ≠ gb255)); have n19_ := aM ((by rw [hg]; exact Nat.ne_of_lt (blk_lt (g := gb277) (o := .cells #[.slice Ao84 t271.length co84, .slice Ao88 t274.length co88] 30 (0, 0)) (px_bV BK277.out)) : gb277 ≠ gb284)); have n20_ := aM ((by rw [hg]; exact Nat.ne_of_gt (blk_lt (g := gb277) (o := .cells #[.slice Ao84 t271.length co84, .slice Ao88 t274.length co88] 30 (0, 0)) (px_bV BK277.out)) : gb284 ≠ gb277)); clear HO260; clear HO263; clear HO266; clear HO269; clear HO273; clear HO276; clear HO280; clear HO283; clear BK254; clear BK255; clear BK277; clear HB; have HO260 := n0_; have HO263 := n1_; have HO266 := n2_; have HO269 := n3_; have HO273 := n4_; have HO276 := n5_; have HO280 := n6_; have HO283 := n7_; have BK254 := n8_; have BK255 := n9_; have BK277 := n10_; have HB := n11_; have BK284 := n12_; have GW284 := n13_; have GE284 := n14_; have NB254_284 := n15_; have NB284_254 := n16_; have NB255_284 := n17_; have NB284_255 := n18_; have NB277_284 := n19_; have NB284_277 := n20_; clear n0_ n1_ n2_ n3_ n4_ n5_ n6_ n7_ n8_ n9_ n10_ n11_ n12_ n13_ n14_ n15_ n16_ n17_ n18_ n19_ n20_; clear hb hbox hg; obtain ⟨Ao92, co92, eo92⟩ := Kd.R_slice HO280.out; subst eo92; have hnb93 := NB284_254.out; have hnc93 := NB254_284.out; have hnb94 := NB284_255.out; have hnc94 := NB255_284.out; have hnb95 := NB284_277.out; have hnc95 := NB277_284.out; have hcz96_0 : w91.cell? ⟨gb284, 0, none⟩ = some (.slice none 0 0) := (blk_cell BK284.out 0).trans rfl; have hcz96_1 : w91.cell? ⟨gb284, 1, none⟩ = some (.slice none 0 0) := (blk_cell BK284.out 1).trans rfl; have hfz96_0 := blk_frozen BK284.out 0; have hfz96_1 := blk_frozen BK284.out 1; obtain ⟨Ao97, co97, eo97⟩ := Kd.R_slice HO283.out; subst eo97; have hcz98_0 : w91.cell? ⟨gb277, 0, none⟩ = some (.slice Ao84 t271.length co84) := (blk_cell BK277.out 0).trans rfl; have hcz98_1 : w91.cell? ⟨gb277, 1, none⟩ = some (.slice Ao88 t274.length co88) := (blk_cell BK277.out 1).trans rfl; have hfz98_0 := blk_frozen BK277.out 0; have hfz98_1 := blk_frozen BK277.out 1) | ((with_reducible refine gate_callee (f := 7) rfl ?_); refine goesL_ (some 31) rfl rfl Try.func7 (by kernel_rfl) rfl #[.agg #[.slice Ao84 t271.length co84, .slice Ao88 t274.length co88], .agg #[.slice Ao92 t278.length co92, .slice Ao97 t281.length co97]] rfl px_dn ?_; (with_reducible refine (impl_DictSame.calls k _ _ t271 _ _ t274 _ _ t278 _ _ t281 t285 _ ?side1 ?side2 ?side3 ?side4 ?side5 ?side6 ?side7 ?side8 A24.out).mono ?_); (case side1 => refine (Kd.R_reads' (e := 3) (base := w.heap.size) (ok := fun k_ => (((True ∧ some k_ ≠ (.slice Ao76 t258.length co76 : Value).ownBlock) ∧ some k_ ≠ (.slice Ao78 t264.length co78 : Value).ownBlock) ∧ some k_ ≠ (.slice Ao92 t278.length co92 : Value).ownBlock)) (n := t271.length) (c := co84) ?_).2.2; exact (by (with_reducible repeat (first | apply Kd.R_alloc | apply Kd.R_drewN | apply Kd.R_drew)); exact (Kd.R_mono (Kd.R_far (p := ⟨gb284, 1, none⟩) (Kd.R_far (p := ⟨gb284, 0, none⟩) (Kd.R_types HO273.out BK284.out (by decide)) (fun _ hk => hk.2) (.slice Ao92 t278.length co92)) (fun _ hk => hk.2) (.slice Ao97 t281.length co97)) (fun _ h_ => h_.1)))); (case side2 => exact (Kd.R_reads' HO273.out).2.1); (case side3 => refine (Kd.R_reads' (e := 38) (base := w.heap.size) (ok := fun k_ => (((True ∧ some k_ ≠ (.slice Ao77 t261.length co77 : Value).ownBlock) ∧ some k_ ≠ (.slice Ao79 t267.length co79 : Value).ownBlock) ∧ some k_ ≠ (.slice Ao97 t281.length co97 : Value).ownBlock)) (n := t274.length) (c := co88) ?_).2.2; exact (by (with_reducible repeat (first | apply Kd.R_alloc | apply Kd.R_drewN | apply Kd.R_drew)); exact (Kd.R_mono (Kd.R_far (p := ⟨gb284, 1, none⟩) (Kd.R_far (p := ⟨gb284, 0, none⟩) (Kd.R_types HO276.out BK284.out (by decide)) (fun _ hk => hk.2) (.slice Ao92 t278.length co92)) (fun _ hk => hk.2) (.slice Ao97 t281.length co97)) (fun _ h_ => h_.1)))); (case side4 => exact (Kd.R_reads' HO276.out).2.1); (case side5 => refine (Kd.R_reads' (e := 3) (base := w.heap.size) (ok := fun k_ => (((True ∧ some k_ ≠ (.slice Ao76 t258.length co76 : Value).ownBlock) ∧ some k_ ≠ (.slice Ao78 t264.length co78 : Value).ownBlock) ∧ some k_ ≠ (.slice Ao84 t271.length co84 : Value).ownBlock)) (n := t278.length) (c := co92) ?_).2.2; exact (by (with_reducible repeat (first | apply Kd.R_alloc | apply Kd.R_drewN | apply Kd.R_drew)); exact (Kd.R_mono (Kd.R_far (p := ⟨gb284, 1, none⟩) (Kd.R_far (p := ⟨gb284, 0, none⟩) (Kd.R_types HO280.out BK284.out (by decide)) (fun _ hk => hk.2) (.slice Ao92 t278.length co92)) (fun _ hk => hk.2) (.slice Ao97 t281.length co97)) (fun _ h_ => h_.1)))); (case side6 => exact (Kd.R_reads' HO280.out).2.1); (case side7 => refine (Kd.R_reads' (e := 38) (base := w.heap.size) (ok := fun k_ => (((True ∧ some k_ ≠ (.slice Ao77 t261.length co77 : Value).ownBlock) ∧ some k_ ≠ (.slice Ao79 t267.length co79 : Value).ownBlock) ∧ some k_ ≠ (.slice Ao88 t274.length co88 : Value).ownBlock)) (n := t281.length) (c := co97) ?_).2.2; exact (by (with_reducible repeat (first | apply Kd.R_alloc | apply Kd.R_drewN | apply Kd.R_drew)); exact (Kd.R_mono (Kd.R_far (p := ⟨gb284, 1, none⟩) (Kd.R_far (p := ⟨gb284, 0, none⟩) (Kd.R_types HO283.out BK284.out (by decide)) (fun _ hk => hk.2) (.slice Ao92 t278.length co92)) (fun _ hk => hk.2) (.slice Ao97 t281.length co97)) (fun _ h_ => h_.1)))); (case side8 => exact (Kd.R_reads' HO283.out).2.1); rintro e w99 ⟨rfl, hb⟩; refine ⟨_, rfl, ?_⟩; have n0_ := aM (Kd.R_below (by (with_reducible repeat (first | apply Kd.R_alloc | apply Kd.R_drewN | apply Kd.R_drew)); exact (Kd.R_mono (Kd.R_far (p := ⟨gb284, 1, none⟩) (Kd.R_far (p := ⟨gb284, 0, none⟩) (Kd.R_types HO260.out BK284.out (by decide)) (fun _ hk => hk.2) (.slice Ao92 t278.length co92)) (fun _ hk => hk.2) (.slice Ao97 t281.length co97)) (fun _ h_ => h_.1))) hb); have n1_ := aM (Kd.R_below (by (with_reducible repeat (first | apply Kd.R_alloc | apply Kd.R_drewN | apply Kd.R_drew)); exact (Kd.R_mono (Kd.R_far (p := ⟨gb284, 1, none⟩) (Kd.R_far (p := ⟨gb284, 0, none⟩) (Kd.R_types HO263.out BK284.out (by decide)) (fun _ hk => hk.2) (.slice Ao92 t278.length co92)) (fun _ hk => hk.2) (.slice Ao97 t281.length co97)) (fun _ h_ => h_.1))) hb); have n2_ := aM (Kd.R_below (by (with_reducible repeat (first | apply Kd.R_alloc | apply Kd.R_drewN | apply Kd.R_drew)); exact (Kd.R_mono (Kd.R_far (p := ⟨gb284, 1, none⟩) (Kd.R_far (p := ⟨gb284, 0, none⟩) (Kd.R_types HO266.out BK284.out (by decide)) (fun _ hk => hk.2) (.slice Ao92 t278.length co92)) (fun _ hk => hk.2) (.slice Ao97 t281.length co97)) (fun _ h_ => h_.1))) hb); have n3_ := aM (Kd.R_below (by (with_reducible repeat (first | apply Kd.R_alloc | apply Kd.R_drewN | apply Kd.R_drew)); exact (Kd.R_mono (Kd.R_far (p := ⟨gb284, 1, none⟩) (Kd.R_far (p := ⟨gb284, 0, none⟩) (Kd.R_types HO269.out BK284.out (by decide)) (fun _ hk => hk.2) (.slice Ao92 t278.length co92)) (fun _ hk => hk.2) (.slice Ao97 t281.length co97)) (fun _ h_ => h_.1))) hb); have n4_ := aM (Kd.R_below (by (with_reducible repeat (first | apply Kd.R_alloc | apply Kd.R_drewN | apply Kd.R_drew)); exact (Kd.R_mono (Kd.R_far (p := ⟨gb284, 1, none⟩) (Kd.R_far (p := ⟨gb284, 0, none⟩) (Kd.R_types HO273.out BK284.out (by decide)) (fun _ hk => hk.2) (.slice Ao92 t278.length co92)) (fun _ hk => hk.2) (.slice Ao97 t281.length co97)) (fun _ h_ => h_.1))) hb); have n5_ := aM (Kd.R_below (by (with_reducible repeat (first | apply Kd.R_alloc | apply Kd.R_drewN | apply Kd.R_drew)); exact (Kd.R_mono (Kd.R_far (p := ⟨gb284, 1, none⟩) (Kd.R_far (p := ⟨gb284, 0, none⟩) (Kd.R_types HO276.out BK284.out (by decide)) (fun _ hk => hk.2) (.slice Ao92 t278.length co92)) (fun _ hk => hk.2) (.slice Ao97 t281.length co97)) (fun _ h_ => h_.1))) hb); have n6_ := aM (Kd.R_below (by (with_reducible repeat (first | apply Kd.R_alloc | apply Kd.R_drewN | apply Kd.R_drew)); exact (Kd.R_mono (Kd.R_far (p := ⟨gb284, 1, none⟩) (Kd.R_far (p := ⟨gb284, 0, none⟩) (Kd.R_types HO280.out BK284.out (by decide)) (fun _ hk => hk.2) (.slice Ao92 t278.length co92)) (fun _ hk => hk.2) (.slice Ao97 t281.length co97)) (fun _ h_ => h_.1))) hb); have n7_ := aM (Kd.R_below (by (with_reducible repeat (first | apply Kd.R_alloc | apply Kd.R_drewN | apply Kd.R_drew)); exact (Kd.R_mono (Kd.R_far (p := ⟨gb284, 1, none⟩) (Kd.R_far (p := ⟨gb284, 0, none⟩) (Kd.R_types HO283.out BK284.out (by decide)) (fun _ hk => hk.2) (.slice Ao92 t278.length co92)) (fun _ hk => hk.2) (.slice Ao97 t281.length co97)) (fun _ h_ => h_.1))) hb); have n8_ := aM (blk_below (g := gb254) (o := .cells #[.slice A0_0 l0_0.length c0_0, .slice A0_1 l0_1.length c0_1] 25 (0, 0)) (by (with_reducible repeat (first | refine blk_drewN ?_ _ | refine blk_drew ?_ | refine blk_alloc ?_ _)); refine blk_far ?_ NB254_284.out _; (with_reducible repeat (first | refine blk_drewN ?_ _ | refine blk_drew ?_ | refine blk_alloc ?_ _)); refine blk_far ?_ NB254_284.out _; (with_reducible repeat (first | refine blk_drewN ?_ _ | refine blk_drew ?_ | refine blk_alloc ?_ _)); exact BK254.out) hb); have n9_ := aM (blk_below (g := gb255) (o := .cells #[.slice A1_0 l1_0.length c1_0, .slice A1_1 l1_1.length c1_1] 25 (0, 0)) (by (with_reducible repeat (first | refine blk_drewN ?_ _ | refine blk_drew ?_ | refine blk_alloc ?_ _)); refine blk_far ?_ NB255_284.out _; (with_reducible repeat (first | refine blk_drewN ?_ _ | refine blk_drew ?_ | refine blk_alloc ?_ _)); refine blk_far ?_ NB255_284.out _; (with_reducible repeat (first | refine blk_drewN ?_ _ | refine blk_drew ?_ | refine blk_alloc ?_ _)); exact BK255.out) hb); have n10_ := aM (blk_below (g := gb277) (o := .cells #[.slice Ao84 t271.length co84, .slice Ao88 t274.length co88] 30 (0, 0)) (by (with_reducible repeat (first | refine blk_drewN ?_ _ | refine blk_drew ?_ | refine blk_alloc ?_ _)); refine blk_far ?_ NB277_284.out _; (with_reducible repeat (first | refine blk_drewN ?_ _ | refine blk_drew ?_ | refine blk_alloc ?_ _)); refine blk_far ?_ NB277_284.out _; (with_reducible repeat (first | refine blk_drewN ?_ _ | refine blk_drew ?_ | refine blk_alloc ?_ _)); exact BK277.out) hb); have n11_ := aM (blk_below (g := gb284) (o := .cells #[.slice Ao92 t278.length co92, .slice Ao97 t281.length co97] 30 (0, 0)) (by (with_reducible repeat (first | refine blk_drewN ?_ _ | refine blk_drew ?_ | refine blk_alloc ?_ _)); refine blk_put (cs := #[.slice Ao92 t278.length co92, .slice none 0 0]) ?_ 1 _ rfl; (with_reducible repeat (first | refine blk_drewN ?_ _ | refine blk_drew ?_ | refine blk_alloc ?_ _)); refine blk_put (cs := #[.slice none 0 0, .slice none 0 0]) ?_ 0 _ rfl; (with_reducible repeat (first | refine blk_drewN ?_ _ | refine blk_drew ?_ | refine blk_alloc ?_ _)); exact BK284.out) hb); have n12_ := aM (below_step (px_h4 HB.out GE254.out GE255.out GE277.out GE284.out) hb); clear HO260; clear HO263; clear HO266; clear HO269; clear HO273; clear HO276; clear HO280; clear HO283; clear BK254; clear BK255; clear BK277; clear BK284; clear HB; have HO260 := n0_; have HO263 := n1_; have HO266 := n2_; have HO269 := n3_; have HO273 := n4_; have HO276 := n5_; have HO280 := n6_; have HO283 := n7_; have BK254 := n8_; have BK255 := n9_; have BK277 := n10_; have BK284 := n11_; have HB := n12_; clear n0_ n1_ n2_ n3_ n4_ n5_ n6_ n7_ n8_ n9_ n10_ n11_ n12_; (try clear hb); (try clear hb2); (try clear hk); (try clear hi)))
      have n0_ := aM (Kd.R_drew HO260.out)
      have n1_ := aM (Kd.R_drew HO263.out)
      have n2_ := aM (Kd.R_drew HO266.out)
      have n3_ := aM (Kd.R_drew HO269.out)
      have n4_ := aM (Kd.R_drew HO273.out)
      have n5_ := aM (Kd.R_drew HO276.out)
      have n6_ := aM (Kd.R_drew HO280.out)
      have n7_ := aM (Kd.R_drew HO283.out)
      have n8_ := aM (blk_drew BK254.out)
      have n9_ := aM (blk_drew BK255.out)
      have n10_ := aM (blk_drew BK277.out)
      have n11_ := aM (blk_drew BK284.out)
      have n12_ := aM (below_drew1 HB.out)
      clear HO260
      clear HO263
      clear HO266
      clear HO269
      clear HO273
      clear HO276
      clear HO280
      clear HO283
      clear BK254
      clear BK255
      clear BK277
      clear BK284
      clear HB
      have HO260 := n0_
      have HO263 := n1_
      have HO266 := n2_
      have HO269 := n3_
      have HO273 := n4_
      have HO276 := n5_
      have HO280 := n6_
      have HO283 := n7_
      have BK254 := n8_
      have BK255 := n9_
      have BK277 := n10_
      have BK284 := n11_
      have HB := n12_
      clear n0_ n1_ n2_ n3_ n4_ n5_ n6_ n7_ n8_ n9_ n10_ n11_ n12_
      refine start_ (n := 5) (S := fun w' => w'.cell? ⟨gb277, 0, none⟩ = some (.slice Ao84 t271.length co84) ∧ w'.cell? ⟨gb277, 1, none⟩ = some (.slice Ao88 t274.length co88) ∧ w'.cell? ⟨gb254, 0, none⟩ = some (.slice A0_0 l0_0.length c0_0) ∧ w'.cell? ⟨gb254, 1, none⟩ = some (.slice A0_1 l0_1.length c0_1)) (ds := []) (px_l 0 5) (by kernel_rfl) rfl rfl ⟨(blk_cell BK277.out 0).trans rfl, (blk_cell BK277.out 1).trans rfl, (blk_cell BK254.out 0).trans rfl, (blk_cell BK254.out 1).trans rfl⟩ (fun hHeld => ?_)
      generalize w99.drew = w100 at HO260 HO263 HO266 HO269 HO273 HO276 HO280 HO283 BK254 BK255 BK277 BK284 HB hHeld ⊢
      refine take_ (i := 0) (N := some 35) (v := ?_) (a' := ?_) (px_l 1 4) rfl rfl (by kernel_rfl) (fun _ _ _ h => h) (Or.inl ⟨by rfl, ?_⟩) hHeld ?_ ?_
      rotate_left
      ·rintro w' ⟨s0, s1, s2, s3⟩
       go_simp
       with_reducible rfl
      rotate_left
      ·simp only [px_q]
       rfl
      refine take_ (i := 1) (N := some 36) (v := ?_) (a' := ?_) (px_l 2 3) rfl rfl (by kernel_rfl) (fun _ _ _ h => h) (Or.inl ⟨by rfl, ?_⟩) hHeld ?_ ?_
      rotate_left
      ·rintro w' ⟨s0, s1, s2, s3⟩
       go_simp
       with_reducible rfl
      rotate_left
      ·simp only [px_q]
       rfl
      refine one_ (i := 2) (N := some 37) (px_l 3 2) rfl rfl (by kernel_rfl) (by decide) (fun K hK => ?_)
      refine goes_ Try.func6 (by kernel_rfl) rfl #[.agg #[.slice A0_0 l0_0.length c0_0, .slice A0_1 l0_1.length c0_1]] (by rfl) rfl rfl px_dn ?_
      with_reducible refine (laws_toDict.calls k _ _ l0_0 _ _ l0_1 t286 t289 _ ?side1 ?side2 ?side3 ?side4 A60.out).mono ?_
      (case side1 => exact px_cV ((Kd.C_below HR0_0.out HB.out)))
      (case side2 => exact HC0_0.out)
      (case side3 => exact px_cV ((Kd.C_below HR0_1.out HB.out)))
      (case side4 => exact HC0_1.out)
      rintro e w101 ⟨v287, v290, rfl, ho0, ho1, hb⟩
      refine ⟨_, rfl, ?_⟩
      have n0_ := aM (Kd.R_elder' (px_rV HO260.out) (Kd.R_base ho0) hb)
      have n1_ := aM (Kd.R_elder' (px_rV HO263.out) (Kd.R_base ho1) hb)
      have n2_ := aM (Kd.R_elder' (px_rV HO266.out) (Kd.R_base ho0) hb)
      have n3_ := aM (Kd.R_elder' (px_rV HO269.out) (Kd.R_base ho1) hb)
      have n4_ := aM (Kd.R_elder' (px_rV HO273.out) (Kd.R_base ho0) hb)
      have n5_ := aM (Kd.R_elder' (px_rV HO276.out) (Kd.R_base ho1) hb)
      have n6_ := aM (Kd.R_elder' (px_rV HO280.out) (Kd.R_base ho0) hb)
      have n7_ := aM (Kd.R_elder' (px_rV HO283.out) (Kd.R_base ho1) hb)
      have n8_ := aM (Kd.R_lower (Kd.R_new' (Kd.R_new' (Kd.R_new' (Kd.R_new' ho0 (Kd.R_lt (px_rV HO260.out))) (Kd.R_lt (px_rV HO266.out))) (Kd.R_lt (px_rV HO273.out))) (Kd.R_lt (px_rV HO280.out))) (below_size (px_h4 HB.out GE254.out GE255.out GE277.out GE284.out)))
      have n9_ := aM (Kd.R_lower (Kd.R_new' (Kd.R_new' (Kd.R_new' (Kd.R_new' ho1 (Kd.R_lt (px_rV HO263.out))) (Kd.R_lt (px_rV HO269.out))) (Kd.R_lt (px_rV HO276.out))) (Kd.R_lt (px_rV HO283.out))) (below_size (px_h4 HB.out GE254.out GE255.out GE277.out GE284.out)))
      have n10_ := aM (blk_below (g := gb254) (o := .cells #[.slice A0_0 l0_0.length c0_0, .slice A0_1 l0_1.length c0_1] 25 (0, 0)) (px_bV BK254.out) hb)
      have n11_ := aM (blk_below (g := gb255) (o := .cells #[.slice A1_0 l1_0.length c1_0, .slice A1_1 l1_1.length c1_1] 25 (0, 0)) (px_bV BK255.out) hb)
      have n12_ := aM (blk_below (g := gb277) (o := .cells #[.slice Ao84 t271.length co84, .slice Ao88 t274.length co88] 30 (0, 0)) (px_bV BK277.out) hb)
      have n13_ := aM (blk_below (g := gb284) (o := .cells #[.slice Ao92 t278.length co92, .slice Ao97 t281.length co97] 30 (0, 0)) (px_bV BK284.out) hb)
      have n14_ := aM (below_step (px_h4 HB.out GE254.out GE255.out GE277.out GE284.out) hb)
      clear HO260
      clear HO263
      clear HO266
      clear HO269
      clear HO273
      clear HO276
      clear HO280
      clear HO283
      clear BK254
      clear BK255
      clear BK277
      clear BK284
      clear HB
      have HO260 := n0_
      have HO263 := n1_
      have HO266 := n2_
      have HO269 := n3_
      have HO273 := n4_
      have HO276 := n5_
      have HO280 := n6_
      have HO283 := n7_
      have HO288 := n8_
      have HO291 := n9_
      have BK254 := n10_
      have BK255 := n11_
      have BK277 := n12_
      have BK284 := n13_
      have HB := n14_
      clear n0_ n1_ n2_ n3_ n4_ n5_ n6_ n7_ n8_ n9_ n10_ n11_ n12_ n13_ n14_
      (try clear hb)
      (try clear hb2)
      (try clear hk)
      (try clear hi)
      (try clear ho0)
      (try clear ho1)
      obtain ⟨Ao102, co102, eo102⟩ := Kd.R_slice HO288.out
      (first | subst eo102 | (injection eo102 with f1_ f2_ f3_; have f4_ := f1_.symm; have f5_ := f3_.symm; clear f1_ f2_ f3_; subst f4_; subst f5_))
      obtain ⟨Ao103, co103, eo103⟩ := Kd.R_slice HO291.out
      (first | subst eo103 | (injection eo103 with f1_ f2_ f3_; have f4_ := f1_.symm; have f5_ := f3_.symm; clear f1_ f2_ f3_; subst f4_; subst f5_))
      refine hK.out _ _ ⟨(blk_cell BK277.out 0).trans rfl, (blk_cell BK277.out 1).trans rfl, (blk_cell BK254.out 0).trans rfl, (blk_cell BK254.out 1).trans rfl⟩ (fun hHeld => ?_)
      clear hK K
      refine norm_ (a' := ?_) ?_ ?_
      rotate_left
      ·show Act.put _ (some 37) _ = _
       simp only [px_q]
       rfl
      refine one_ (i := 3) (N := some 38) (px_l 4 1) rfl rfl (by kernel_rfl) (by decide) (fun K hK => ?_)
      refine goes_ Try.func8 (by kernel_rfl) rfl #[.agg #[.slice Ao84 t271.length co84, .slice Ao88 t274.length co88], .agg #[.slice Ao102 t286.length co102, .slice Ao103 t289.length co103]] (by rfl) rfl rfl px_dn ?_
      with_reducible refine (laws_eqDict.calls k _ _ t271 _ _ t274 _ _ t286 _ _ t289 true _ ?side1 ?side2 ?side3 ?side4 ?side5 ?side6 ?side7 ?side8 A61.out).mono ?_
      (case side1 => exact px_cV ((Kd.R_reads' HO273.out).2.2))
      (case side2 => exact (Kd.R_reads' HO273.out).2.1)
      (case side3 => exact px_cV ((Kd.R_reads' HO276.out).2.2))
      (case side4 => exact (Kd.R_reads' HO276.out).2.1)
      (case side5 => exact px_cV ((Kd.R_reads' HO288.out).2.2))
      (case side6 => exact (Kd.R_reads' HO288.out).2.1)
      (case side7 => exact px_cV ((Kd.R_reads' HO291.out).2.2))
      (case side8 => exact (Kd.R_reads' HO291.out).2.1)
      rintro e w104 ⟨rfl, hb⟩
      refine ⟨_, rfl, ?_⟩
      have n0_ := aM (Kd.R_below (px_rV HO260.out) hb)
      have n1_ := aM (Kd.R_below (px_rV HO263.out) hb)
      have n2_ := aM (Kd.R_below (px_rV HO266.out) hb)
      have n3_ := aM (Kd.R_below (px_rV HO269.out) hb)
      have n4_ := aM (Kd.R_below (px_rV HO273.out) hb)
      have n5_ := aM (Kd.R_below (px_rV HO276.out) hb)
      have n6_ := aM (Kd.R_below (px_rV HO280.out) hb)
      have n7_ := aM (Kd.R_below (px_rV HO283.out) hb)
      have n8_ := aM (Kd.R_below (px_rV HO288.out) hb)
      have n9_ := aM (Kd.R_below (px_rV HO291.out) hb)
      have n10_ := aM (blk_below (g := gb254) (o := .cells #[.slice A0_0 l0_0.length c0_0, .slice A0_1 l0_1.length c0_1] 25 (0, 0)) (px_bV BK254.out) hb)
      have n11_ := aM (blk_below (g := gb255) (o := .cells #[.slice A1_0 l1_0.length c1_0, .slice A1_1 l1_1.length c1_1] 25 (0, 0)) (px_bV BK255.out) hb)
      have n12_ := aM (blk_below (g := gb277) (o := .cells #[.slice Ao84 t271.length co84, .slice Ao88 t274.length co88] 30 (0, 0)) (px_bV BK277.out) hb)
      have n13_ := aM (blk_below (g := gb284) (o := .cells #[.slice Ao92 t278.length co92, .slice Ao97 t281.length co97] 30 (0, 0)) (px_bV BK284.out) hb)
      have n14_ := aM (below_step (px_h4 HB.out GE254.out GE255.out GE277.out GE284.out) hb)
      clear HO260
      clear HO263
      clear HO266
      clear HO269
      clear HO273
      clear HO276
      clear HO280
      clear HO283
      clear HO288
      clear HO291
      clear BK254
      clear BK255
      clear BK277
      clear BK284
      clear HB
      have HO260 := n0_
      have HO263 := n1_
      have HO266 := n2_
      have HO269 := n3_
      have HO273 := n4_
      have HO276 := n5_
      have HO280 := n6_
      have HO283 := n7_
      have HO288 := n8_
      have HO291 := n9_
      have BK254 := n10_
      have BK255 := n11_
      have BK277 := n12_
      have BK284 := n13_
      have HB := n14_
      clear n0_ n1_ n2_ n3_ n4_ n5_ n6_ n7_ n8_ n9_ n10_ n11_ n12_ n13_ n14_
      (try clear hb)
      (try clear hb2)
      (try clear hk)
      (try clear hi)
      refine hK.out _ _ ⟨(blk_cell BK277.out 0).trans rfl, (blk_cell BK277.out 1).trans rfl, (blk_cell BK254.out 0).trans rfl, (blk_cell BK254.out 1).trans rfl⟩ (fun hHeld => ?_)
      clear hK K
      refine norm_ (a' := ?_) ?_ ?_
      rotate_left
      ·show Act.put _ (some 38) _ = _
       simp only [px_q]
       rfl
      refine pure_ (i := 4) (N := some 39) (v := ?_) (a' := ?_) (px_l 5 0) rfl rfl (by kernel_rfl) (fun _ _ _ h => h) (Or.inl ⟨by rfl, ?_⟩) ?_ ?_
      rotate_left
      ·intro w'
       go_simp
       with_reducible rfl
      rotate_left
      ·simp only [px_q]
       rfl
      refine done_ (by kernel_rfl) ?_
      try go_wp2
      have n0_ := aM (Kd.R_drew HO260.out)
      have n1_ := aM (Kd.R_drew HO263.out)
      have n2_ := aM (Kd.R_drew HO266.out)
      have n3_ := aM (Kd.R_drew HO269.out)
      have n4_ := aM (Kd.R_drew HO273.out)
      have n5_ := aM (Kd.R_drew HO276.out)
      have n6_ := aM (Kd.R_drew HO280.out)
      have n7_ := aM (Kd.R_drew HO283.out)
      have n8_ := aM (Kd.R_drew HO288.out)
      have n9_ := aM (Kd.R_drew HO291.out)
      have n10_ := aM (blk_drew BK254.out)
      have n11_ := aM (blk_drew BK255.out)
      have n12_ := aM (blk_drew BK277.out)
      have n13_ := aM (blk_drew BK284.out)
      have n14_ := aM (below_drew1 HB.out)
      clear HO260
      clear HO263
      clear HO266
      clear HO269
      clear HO273
      clear HO276
      clear HO280
      clear HO283
      clear HO288
      clear HO291
      clear BK254
      clear BK255
      clear BK277
      clear BK284
      clear HB
      have HO260 := n0_
      have HO263 := n1_
      have HO266 := n2_
      have HO269 := n3_
      have HO273 := n4_
      have HO276 := n5_
      have HO280 := n6_
      have HO283 := n7_
      have HO288 := n8_
      have HO291 := n9_
      have BK254 := n10_
      have BK255 := n11_
      have BK277 := n12_
      have BK284 := n13_
      have HB := n14_
      clear n0_ n1_ n2_ n3_ n4_ n5_ n6_ n7_ n8_ n9_ n10_ n11_ n12_ n13_ n14_
      refine start_ (n := 5) (S := fun w' => w'.cell? ⟨gb284, 0, none⟩ = some (.slice Ao92 t278.length co92) ∧ w'.cell? ⟨gb284, 1, none⟩ = some (.slice Ao97 t281.length co97) ∧ w'.cell? ⟨gb255, 0, none⟩ = some (.slice A1_0 l1_0.length c1_0) ∧ w'.cell? ⟨gb255, 1, none⟩ = some (.slice A1_1 l1_1.length c1_1)) (ds := []) (px_l 0 5) (by kernel_rfl) rfl rfl ⟨(blk_cell BK284.out 0).trans rfl, (blk_cell BK284.out 1).trans rfl, (blk_cell BK255.out 0).trans rfl, (blk_cell BK255.out 1).trans rfl⟩ (fun hHeld => ?_)
      generalize w104.drew = w105 at HO260 HO263 HO266 HO269 HO273 HO276 HO280 HO283 HO288 HO291 BK254 BK255 BK277 BK284 HB hHeld ⊢
      refine take_ (i := 0) (N := some 40) (v := ?_) (a' := ?_) (px_l 1 4) rfl rfl (by kernel_rfl) (fun _ _ _ h => h) (Or.inl ⟨by rfl, ?_⟩) hHeld ?_ ?_
      rotate_left
      ·rintro w' ⟨s0, s1, s2, s3⟩
       go_simp
       with_reducible rfl
      rotate_left
      ·simp only [px_q]
       rfl
      refine take_ (i := 1) (N := some 41) (v := ?_) (a' := ?_) (px_l 2 3) rfl rfl (by kernel_rfl) (fun _ _ _ h => h) (Or.inl ⟨by rfl, ?_⟩) hHeld ?_ ?_
      rotate_left
      ·rintro w' ⟨s0, s1, s2, s3⟩
       go_simp
       with_reducible rfl
      rotate_left
      ·simp only [px_q]
       rfl
      refine one_ (i := 2) (N := some 42) (px_l 3 2) rfl rfl (by kernel_rfl) (by decide) (fun K hK => ?_)
      refine goes_ Try.func6 (by kernel_rfl) rfl #[.agg #[.slice A1_0 l1_0.length c1_0, .slice A1_1 l1_1.length c1_1]] (by rfl) rfl rfl px_dn ?_
      with_reducible refine (laws_toDict.calls k _ _ l1_0 _ _ l1_1 t293 t296 _ ?side1 ?side2 ?side3 ?side4 A63.out).mono ?_
      (case side1 => exact px_cV ((Kd.C_below HR1_0.out HB.out)))
      (case side2 => exact HC1_0.out)
      (case side3 => exact px_cV ((Kd.C_below HR1_1.out HB.out)))
      (case side4 => exact HC1_1.out)
      rintro e w106 ⟨v294, v297, rfl, ho0, ho1, hb⟩
      refine ⟨_, rfl, ?_⟩
      have n0_ := aM (Kd.R_elder' (px_rV HO260.out) (Kd.R_base ho0) hb)
      have n1_ := aM (Kd.R_elder' (px_rV HO263.out) (Kd.R_base ho1) hb)
      have n2_ := aM (Kd.R_elder' (px_rV HO266.out) (Kd.R_base ho0) hb)
      have n3_ := aM (Kd.R_elder' (px_rV HO269.out) (Kd.R_base ho1) hb)
      have n4_ := aM (Kd.R_elder' (px_rV HO273.out) (Kd.R_base ho0) hb)
      have n5_ := aM (Kd.R_elder' (px_rV HO276.out) (Kd.R_base ho1) hb)
      have n6_ := aM (Kd.R_elder' (px_rV HO280.out) (Kd.R_base ho0) hb)
      have n7_ := aM (Kd.R_elder' (px_rV HO283.out) (Kd.R_base ho1) hb)
      have n8_ := aM (Kd.R_elder' (px_rV HO288.out) (Kd.R_base ho0) hb)
      have n9_ := aM (Kd.R_elder' (px_rV HO291.out) (Kd.R_base ho1) hb)
      have n10_ := aM (Kd.R_lower (Kd.R_new' (Kd.R_new' (Kd.R_new' (Kd.R_new' (Kd.R_new' ho0 (Kd.R_lt (px_rV HO260.out))) (Kd.R_lt (px_rV HO266.out))) (Kd.R_lt (px_rV HO273.out))) (Kd.R_lt (px_rV HO280.out))) (Kd.R_lt (px_rV HO288.out))) (below_size (px_h4 HB.out GE254.out GE255.out GE277.out GE284.out)))
      have n11_ := aM (Kd.R_lower (Kd.R_new' (Kd.R_new' (Kd.R_new' (Kd.R_new' (Kd.R_new' ho1 (Kd.R_lt (px_rV HO263.out))) (Kd.R_lt (px_rV HO269.out))) (Kd.R_lt (px_rV HO276.out))) (Kd.R_lt (px_rV HO283.out))) (Kd.R_lt (px_rV HO291.out))) (below_size (px_h4 HB.out GE254.out GE255.out GE277.out GE284.out)))
      have n12_ := aM (blk_below (g := gb254) (o := .cells #[.slice A0_0 l0_0.length c0_0, .slice A0_1 l0_1.length c0_1] 25 (0, 0)) (px_bV BK254.out) hb)
      have n13_ := aM (blk_below (g := gb255) (o := .cells #[.slice A1_0 l1_0.length c1_0, .slice A1_1 l1_1.length c1_1] 25 (0, 0)) (px_bV BK255.out) hb)
      have n14_ := aM (blk_below (g := gb277) (o := .cells #[.slice Ao84 t271.length co84, .slice Ao88 t274.length co88] 30 (0, 0)) (px_bV BK277.out) hb)
      have n15_ := aM (blk_below (g := gb284) (o := .cells #[.slice Ao92 t278.length co92, .slice Ao97 t281.length co97] 30 (0, 0)) (px_bV BK284.out) hb)
      have n16_ := aM (below_step (px_h4 HB.out GE254.out GE255.out GE277.out GE284.out) hb)
      clear HO260
      clear HO263
      clear HO266
      clear HO269
      clear HO273
      clear HO276
      clear HO280
      clear HO283
      clear HO288
      clear HO291
      clear BK254
      clear BK255
      clear BK277
      clear BK284
      clear HB
      have HO260 := n0_
      have HO263 := n1_
      have HO266 := n2_
      have HO269 := n3_
      have HO273 := n4_
      have HO276 := n5_
      have HO280 := n6_
      have HO283 := n7_
      have HO288 := n8_
      have HO291 := n9_
      have HO295 := n10_
      have HO298 := n11_
      have BK254 := n12_
      have BK255 := n13_
      have BK277 := n14_
      have BK284 := n15_
      have HB := n16_
      clear n0_ n1_ n2_ n3_ n4_ n5_ n6_ n7_ n8_ n9_ n10_ n11_ n12_ n13_ n14_ n15_ n16_
      (try clear hb)
      (try clear hb2)
      (try clear hk)
      (try clear hi)
      (try clear ho0)
      (try clear ho1)
      obtain ⟨Ao107, co107, eo107⟩ := Kd.R_slice HO295.out
      (first | subst eo107 | (injection eo107 with f1_ f2_ f3_; have f4_ := f1_.symm; have f5_ := f3_.symm; clear f1_ f2_ f3_; subst f4_; subst f5_))
      obtain ⟨Ao108, co108, eo108⟩ := Kd.R_slice HO298.out
      (first | subst eo108 | (injection eo108 with f1_ f2_ f3_; have f4_ := f1_.symm; have f5_ := f3_.symm; clear f1_ f2_ f3_; subst f4_; subst f5_))
      refine hK.out _ _ ⟨(blk_cell BK284.out 0).trans rfl, (blk_cell BK284.out 1).trans rfl, (blk_cell BK255.out 0).trans rfl, (blk_cell BK255.out 1).trans rfl⟩ (fun hHeld => ?_)
      clear hK K
      refine norm_ (a' := ?_) ?_ ?_
      rotate_left
      ·show Act.put _ (some 42) _ = _
       simp only [px_q]
       rfl
      refine one_ (i := 3) (N := some 43) (px_l 4 1) rfl rfl (by kernel_rfl) (by decide) (fun K hK => ?_)
      refine goes_ Try.func8 (by kernel_rfl) rfl #[.agg #[.slice Ao92 t278.length co92, .slice Ao97 t281.length co97], .agg #[.slice Ao107 t293.length co107, .slice Ao108 t296.length co108]] (by rfl) rfl rfl px_dn ?_
      with_reducible refine (laws_eqDict.calls k _ _ t278 _ _ t281 _ _ t293 _ _ t296 true _ ?side1 ?side2 ?side3 ?side4 ?side5 ?side6 ?side7 ?side8 A64.out).mono ?_
      (case side1 => exact px_cV ((Kd.R_reads' HO280.out).2.2))
      (case side2 => exact (Kd.R_reads' HO280.out).2.1)
      (case side3 => exact px_cV ((Kd.R_reads' HO283.out).2.2))
      (case side4 => exact (Kd.R_reads' HO283.out).2.1)
      (case side5 => exact px_cV ((Kd.R_reads' HO295.out).2.2))
      (case side6 => exact (Kd.R_reads' HO295.out).2.1)
      (case side7 => exact px_cV ((Kd.R_reads' HO298.out).2.2))
      (case side8 => exact (Kd.R_reads' HO298.out).2.1)
      rintro e w109 ⟨rfl, hb⟩
      refine ⟨_, rfl, ?_⟩
      have n0_ := aM (Kd.R_below (px_rV HO260.out) hb)
      have n1_ := aM (Kd.R_below (px_rV HO263.out) hb)
      have n2_ := aM (Kd.R_below (px_rV HO266.out) hb)
      have n3_ := aM (Kd.R_below (px_rV HO269.out) hb)
      have n4_ := aM (Kd.R_below (px_rV HO273.out) hb)
      have n5_ := aM (Kd.R_below (px_rV HO276.out) hb)
      have n6_ := aM (Kd.R_below (px_rV HO280.out) hb)
      have n7_ := aM (Kd.R_below (px_rV HO283.out) hb)
      have n8_ := aM (Kd.R_below (px_rV HO288.out) hb)
      have n9_ := aM (Kd.R_below (px_rV HO291.out) hb)
      have n10_ := aM (Kd.R_below (px_rV HO295.out) hb)
      have n11_ := aM (Kd.R_below (px_rV HO298.out) hb)
      have n12_ := aM (blk_below (g := gb254) (o := .cells #[.slice A0_0 l0_0.length c0_0, .slice A0_1 l0_1.length c0_1] 25 (0, 0)) (px_bV BK254.out) hb)
      have n13_ := aM (blk_below (g := gb255) (o := .cells #[.slice A1_0 l1_0.length c1_0, .slice A1_1 l1_1.length c1_1] 25 (0, 0)) (px_bV BK255.out) hb)
      have n14_ := aM (blk_below (g := gb277) (o := .cells #[.slice Ao84 t271.length co84, .slice Ao88 t274.length co88] 30 (0, 0)) (px_bV BK277.out) hb)
      have n15_ := aM (blk_below (g := gb284) (o := .cells #[.slice Ao92 t278.length co92, .slice Ao97 t281.length co97] 30 (0, 0)) (px_bV BK284.out) hb)
      have n16_ := aM (below_step (px_h4 HB.out GE254.out GE255.out GE277.out GE284.out) hb)
      clear HO260
      clear HO263
      clear HO266
      clear HO269
      clear HO273
      clear HO276
      clear HO280
      clear HO283
      clear HO288
      clear HO291
      clear HO295
      clear HO298
      clear BK254
      clear BK255
      clear BK277
      clear BK284
      clear HB
      have HO260 := n0_
      have HO263 := n1_
      have HO266 := n2_
      have HO269 := n3_
      have HO273 := n4_
      have HO276 := n5_
      have HO280 := n6_
      have HO283 := n7_
      have HO288 := n8_
      have HO291 := n9_
      have HO295 := n10_
      have HO298 := n11_
      have BK254 := n12_
      have BK255 := n13_
      have BK277 := n14_
      have BK284 := n15_
      have HB := n16_
      clear n0_ n1_ n2_ n3_ n4_ n5_ n6_ n7_ n8_ n9_ n10_ n11_ n12_ n13_ n14_ n15_ n16_
      (try clear hb)
      (try clear hb2)
      (try clear hk)
      (try clear hi)
      refine hK.out _ _ ⟨(blk_cell BK284.out 0).trans rfl, (blk_cell BK284.out 1).trans rfl, (blk_cell BK255.out 0).trans rfl, (blk_cell BK255.out 1).trans rfl⟩ (fun hHeld => ?_)
      clear hK K
      refine norm_ (a' := ?_) ?_ ?_
      rotate_left
      ·show Act.put _ (some 43) _ = _
       simp only [px_q]
       rfl
      refine pure_ (i := 4) (N := some 44) (v := ?_) (a' := ?_) (px_l 5 0) rfl rfl (by kernel_rfl) (fun _ _ _ h => h) (Or.inl ⟨by rfl, ?_⟩) ?_ ?_
      rotate_left
      ·intro w'
       go_simp
       with_reducible rfl
      rotate_left
      ·simp only [px_q]
       rfl
      refine done_ (by kernel_rfl) ?_
      try go_wp2
      go_ret
      exact ⟨by first | rfl | (simp [errW_none, errW_some] <;> rfl) | (simp [*, errW_none, errW_some] <;> rfl), px_h4 HB.out GE254.out GE255.out GE277.out GE284.out⟩
     ·replace c65 := Bool.eq_false_iff.mpr c65
      subst c65
      have H1 : (some false) = some r := by rw [if_neg (show ¬ (false = true) by decide)] at H; exact H
      clear H
      have H := H1
      clear H1
      obtain rfl := Option.some.inj H
      go_enter Try.func3, Try.ntmps3
      try go_wp2_with (first | ((with_reducible refine gate_dst (N := 2) rfl ?_); refine box_event ?hg (N := 2) ?hd (cs := #[.slice A0_0 l0_0.length c0_0, .slice A0_1 l0_1.length c0_1]) (t := 25) ?hr ?_; (case hd => rfl); (case hg => rfl); (case hr => first | (go_simp; done) | (go_simp; rfl)); intro gb254 hg w110 hbox hb; have n0_ := aM (below_step (px_h0 HB.out) hb); have n1_ := aM (hbox); have n2_ := aM ((by rw [hg]; exact (below_size (px_h0 HB.out)) : w.heap.size ≤ gb254)); have n3_ := aM ((by rw [hg]; exact (below_size (px_h0 HB.out)) : w.heap.size ≤ gb254)); clear HB; have HB := n0_; have BK254 := n1_; have GW254 := n2_; have GE254 := n3_; clear n0_ n1_ n2_ n3_; clear hb hbox hg) | ((with_reducible refine gate_dst (N := 3) rfl ?_); refine box_event ?hg (N := 3) ?hd (cs := #[.slice A1_0 l1_0.length c1_0, .slice A1_1 l1_1.length c1_1]) (t := 25) ?hr ?_; (case hd => rfl); (case hg => rfl); (case hr => first | (go_simp; done) | (go_simp; rfl)); intro gb255 hg w111 hbox hb; have n0_ := aM (blk_below (g := gb254) (o := .cells #[.slice A0_0 l0_0.length c0_0, .slice A0_1 l0_1.length c0_1] 25 (0, 0)) (px_bV BK254.out) hb); have n1_ := aM (below_step (px_h1 HB.out GE254.out) hb); have n2_ := aM (hbox); have n3_ := aM ((by rw [hg]; exact (below_size (px_h1 HB.out GE254.out)) : w.heap.size ≤ gb255)); have n4_ := aM ((by rw [hg]; exact (below_size (px_h1 HB.out GE254.out)) : w.heap.size ≤ gb255)); have n5_ := aM ((by rw [hg]; exact Nat.ne_of_lt (blk_lt (g := gb254) (o := .cells #[.slice A0_0 l0_0.length c0_0, .slice A0_1 l0_1.length c0_1] 25 (0, 0)) (px_bV BK254.out)) : gb254 ≠ gb255)); have n6_ := aM ((by rw [hg]; exact Nat.ne_of_gt (blk_lt (g := gb254) (o := .cells #[.slice A0_0 l0_0.length c0_0, .slice A0_1 l0_1.length c0_1] 25 (0, 0)) (px_bV BK254.out)) : gb255 ≠ gb254)); clear BK254; clear HB; have BK254 := n0_; have HB := n1_; have BK255 := n2_; have GW255 := n3_; have GE255 := n4_; have NB254_255 := n5_; have NB255_254 := n6_; clear n0_ n1_ n2_ n3_ n4_ n5_ n6_; clear hb hbox hg; have hnb112 := NB254_255.out; have hnc112 := NB255_254.out; have hcz113_0 : w111.cell? ⟨gb254, 0, none⟩ = some (.slice A0_0 l0_0.length c0_0) := (blk_cell BK254.out 0).trans rfl; have hcz113_1 : w111.cell? ⟨gb254, 1, none⟩ = some (.slice A0_1 l0_1.length c0_1) := (blk_cell BK254.out 1).trans rfl; have hfz113_0 := blk_frozen BK254.out 0; have hfz113_1 := blk_frozen BK254.out 1) | ((with_reducible refine gate_callee (f := 4) rfl ?_); refine goesL_ (some 12) rfl rfl Try.func4 (by kernel_rfl) rfl #[.agg #[.slice A0_0 l0_0.length c0_0, .slice A0_1 l0_1.length c0_1], .int .i64 1048576] rfl px_dn ?_; (with_reducible refine (laws_szDict.calls k _ _ l0_0 _ _ l0_1 1048576 t256 _ ?side1 ?side2 ?side3 ?side4 A3.out).mono ?_); (case side1 => exact px_cV ((Kd.C_below HR0_0.out HB.out))); (case side2 => exact HC0_0.out); (case side3 => exact px_cV ((Kd.C_below HR0_1.out HB.out))); (case side4 => exact HC0_1.out); rintro e w114 ⟨rfl, hb⟩; refine ⟨_, rfl, ?_⟩; have n0_ := aM (blk_below (g := gb254) (o := .cells #[.slice A0_0 l0_0.length c0_0, .slice A0_1 l0_1.length c0_1] 25 (0, 0)) (px_bV BK254.out) hb); have n1_ := aM (blk_below (g := gb255) (o := .cells #[.slice A1_0 l1_0.length c1_0, .slice A1_1 l1_1.length c1_1] 25 (0, 0)) (px_bV BK255.out) hb); have n2_ := aM (below_step (px_h2 HB.out GE254.out GE255.out) hb); clear BK254; clear BK255; clear HB; have BK254 := n0_; have BK255 := n1_; have HB := n2_; clear n0_ n1_ n2_; (try clear hb); (try clear hb2); (try clear hk); (try clear hi); have hcz115_0 : w114.cell? ⟨gb255, 0, none⟩ = some (.slice A1_0 l1_0.length c1_0) := (blk_cell BK255.out 0).trans rfl; have hcz115_1 : w114.cell? ⟨gb255, 1, none⟩ = some (.slice A1_1 l1_1.length c1_1) := (blk_cell BK255.out 1).trans rfl; have hfz115_0 := blk_frozen BK255.out 0; have hfz115_1 := blk_frozen BK255.out 1) | ((with_reducible refine gate_callee (f := 4) rfl ?_); refine goesL_ (some 17) rfl rfl Try.func4 (by kernel_rfl) rfl #[.agg #[.slice A1_0 l1_0.length c1_0, .slice A1_1 l1_1.length c1_1], .int .i64 t256] rfl px_dn ?_; (with_reducible refine (laws_szDict.calls k _ _ l1_0 _ _ l1_1 t256 t257 _ ?side1 ?side2 ?side3 ?side4 A10.out).mono ?_); (case side1 => exact px_cV ((Kd.C_below HR1_0.out HB.out))); (case side2 => exact HC1_0.out); (case side3 => exact px_cV ((Kd.C_below HR1_1.out HB.out))); (case side4 => exact HC1_1.out); rintro e w116 ⟨rfl, hb⟩; refine ⟨_, rfl, ?_⟩; have n0_ := aM (blk_below (g := gb254) (o := .cells #[.slice A0_0 l0_0.length c0_0, .slice A0_1 l0_1.length c0_1] 25 (0, 0)) (px_bV BK254.out) hb); have n1_ := aM (blk_below (g := gb255) (o := .cells #[.slice A1_0 l1_0.length c1_0, .slice A1_1 l1_1.length c1_1] 25 (0, 0)) (px_bV BK255.out) hb); have n2_ := aM (below_step (px_h2 HB.out GE254.out GE255.out) hb); clear BK254; clear BK255; clear HB; have BK254 := n0_; have BK255 := n1_; have HB := n2_; clear n0_ n1_ n2_; (try clear hb); (try clear hb2); (try clear hk); (try clear hi)))
      have n0_ := aM (blk_drew BK254.out)
      have n1_ := aM (blk_drew BK255.out)
      have n2_ := aM (below_drew1 HB.out)
      clear BK254
      clear BK255
      clear HB
      have BK254 := n0_
      have BK255 := n1_
      have HB := n2_
      clear n0_ n1_ n2_
      refine start_ (n := 6) (S := fun w' => w'.cell? ⟨gb254, 0, none⟩ = some (.slice A0_0 l0_0.length c0_0) ∧ w'.cell? ⟨gb254, 1, none⟩ = some (.slice A0_1 l0_1.length c0_1) ∧ w'.cell? ⟨gb255, 0, none⟩ = some (.slice A1_0 l1_0.length c1_0) ∧ w'.cell? ⟨gb255, 1, none⟩ = some (.slice A1_1 l1_1.length c1_1)) (ds := []) (px_l 0 6) (by kernel_rfl) rfl rfl ⟨(blk_cell BK254.out 0).trans rfl, (blk_cell BK254.out 1).trans rfl, (blk_cell BK255.out 0).trans rfl, (blk_cell BK255.out 1).trans rfl⟩ (fun hHeld => ?_)
      generalize w116.drew = w117 at BK254 BK255 HB hHeld ⊢
      refine take_ (i := 0) (N := some 20) (v := ?_) (a' := ?_) (px_l 1 5) rfl rfl (by kernel_rfl) (fun _ _ _ h => h) (Or.inl ⟨by rfl, ?_⟩) hHeld ?_ ?_
      rotate_left
      ·rintro w' ⟨s0, s1, s2, s3⟩
       go_simp
       with_reducible rfl
      rotate_left
      ·simp only [px_q]
       rfl
      refine take_ (i := 2) (N := some 22) (v := ?_) (a' := ?_) #[true, false, true, false, false, false] rfl rfl (by kernel_rfl) (fun _ _ _ h => h) (Or.inl ⟨by rfl, ?_⟩) hHeld ?_ ?_
      rotate_left
      ·rintro w' ⟨s0, s1, s2, s3⟩
       go_simp
       with_reducible rfl
      rotate_left
      ·simp only [px_q]
       rfl
      refine one_ (i := 1) (N := some 21) (px_l 3 3) rfl rfl (by kernel_rfl) (by decide) (fun K hK => ?_)
      refine goes_ Try.func6 (by kernel_rfl) rfl #[.agg #[.slice A0_0 l0_0.length c0_0, .slice A0_1 l0_1.length c0_1]] (by rfl) rfl rfl px_dn ?_
      with_reducible refine (laws_toDict.calls k _ _ l0_0 _ _ l0_1 t258 t261 _ ?side1 ?side2 ?side3 ?side4 A19.out).mono ?_
      (case side1 => exact px_cV ((Kd.C_below HR0_0.out HB.out)))
      (case side2 => exact HC0_0.out)
      (case side3 => exact px_cV ((Kd.C_below HR0_1.out HB.out)))
      (case side4 => exact HC0_1.out)
      rintro e w118 ⟨v259, v262, rfl, ho0, ho1, hb⟩
      refine ⟨_, rfl, ?_⟩
      have n0_ := aM (Kd.R_lower ho0 (below_size (px_h2 HB.out GE254.out GE255.out)))
      have n1_ := aM (Kd.R_lower ho1 (below_size (px_h2 HB.out GE254.out GE255.out)))
      have n2_ := aM (blk_below (g := gb254) (o := .cells #[.slice A0_0 l0_0.length c0_0, .slice A0_1 l0_1.length c0_1] 25 (0, 0)) (px_bV BK254.out) hb)
      have n3_ := aM (blk_below (g := gb255) (o := .cells #[.slice A1_0 l1_0.length c1_0, .slice A1_1 l1_1.length c1_1] 25 (0, 0)) (px_bV BK255.out) hb)
      have n4_ := aM (below_step (px_h2 HB.out GE254.out GE255.out) hb)
      clear BK254
      clear BK255
      clear HB
      have HO260 := n0_
      have HO263 := n1_
      have BK254 := n2_
      have BK255 := n3_
      have HB := n4_
      clear n0_ n1_ n2_ n3_ n4_
      (try clear hb)
      (try clear hb2)
      (try clear hk)
      (try clear hi)
      (try clear ho0)
      (try clear ho1)
      refine hK.out _ _ ⟨(blk_cell BK254.out 0).trans rfl, (blk_cell BK254.out 1).trans rfl, (blk_cell BK255.out 0).trans rfl, (blk_cell BK255.out 1).trans rfl⟩ (fun hHeld => ?_)
      clear hK K
      refine norm_ (a' := ?_) ?_ ?_
      rotate_left
      ·show Act.put _ (some 21) _ = _
       simp only [px_q]
       rfl
      refine one_ (i := 3) (N := some 23) (px_l 4 2) rfl rfl (by kernel_rfl) (by decide) (fun K hK => ?_)
      refine goes_ Try.func6 (by kernel_rfl) rfl #[.agg #[.slice A1_0 l1_0.length c1_0, .slice A1_1 l1_1.length c1_1]] (by rfl) rfl rfl px_dn ?_
      with_reducible refine (laws_toDict.calls k _ _ l1_0 _ _ l1_1 t264 t267 _ ?side1 ?side2 ?side3 ?side4 A20.out).mono ?_
      (case side1 => exact px_cV ((Kd.C_below HR1_0.out HB.out)))
      (case side2 => exact HC1_0.out)
      (case side3 => exact px_cV ((Kd.C_below HR1_1.out HB.out)))
      (case side4 => exact HC1_1.out)
      rintro e w119 ⟨v265, v268, rfl, ho0, ho1, hb⟩
      refine ⟨_, rfl, ?_⟩
      have n0_ := aM (Kd.R_elder' (px_rV HO260.out) (Kd.R_base ho0) hb)
      have n1_ := aM (Kd.R_elder' (px_rV HO263.out) (Kd.R_base ho1) hb)
      have n2_ := aM (Kd.R_lower (Kd.R_new' ho0 (Kd.R_lt (px_rV HO260.out))) (below_size (px_h2 HB.out GE254.out GE255.out)))
      have n3_ := aM (Kd.R_lower (Kd.R_new' ho1 (Kd.R_lt (px_rV HO263.out))) (below_size (px_h2 HB.out GE254.out GE255.out)))
      have n4_ := aM (blk_below (g := gb254) (o := .cells #[.slice A0_0 l0_0.length c0_0, .slice A0_1 l0_1.length c0_1] 25 (0, 0)) (px_bV BK254.out) hb)
      have n5_ := aM (blk_below (g := gb255) (o := .cells #[.slice A1_0 l1_0.length c1_0, .slice A1_1 l1_1.length c1_1] 25 (0, 0)) (px_bV BK255.out) hb)
      have n6_ := aM (below_step (px_h2 HB.out GE254.out GE255.out) hb)
      clear HO260
      clear HO263
      clear BK254
      clear BK255
      clear HB
      have HO260 := n0_
      have HO263 := n1_
      have HO266 := n2_
      have HO269 := n3_
      have BK254 := n4_
      have BK255 := n5_
      have HB := n6_
      clear n0_ n1_ n2_ n3_ n4_ n5_ n6_
      (try clear hb)
      (try clear hb2)
      (try clear hk)
      (try clear hi)
      (try clear ho0)
      (try clear ho1)
      obtain ⟨Ao120, co120, eo120⟩ := Kd.R_slice HO260.out
      (first | subst eo120 | (injection eo120 with f1_ f2_ f3_; have f4_ := f1_.symm; have f5_ := f3_.symm; clear f1_ f2_ f3_; subst f4_; subst f5_))
      obtain ⟨Ao121, co121, eo121⟩ := Kd.R_slice HO263.out
      (first | subst eo121 | (injection eo121 with f1_ f2_ f3_; have f4_ := f1_.symm; have f5_ := f3_.symm; clear f1_ f2_ f3_; subst f4_; subst f5_))
      obtain ⟨Ao122, co122, eo122⟩ := Kd.R_slice HO266.out
      (first | subst eo122 | (injection eo122 with f1_ f2_ f3_; have f4_ := f1_.symm; have f5_ := f3_.symm; clear f1_ f2_ f3_; subst f4_; subst f5_))
      obtain ⟨Ao123, co123, eo123⟩ := Kd.R_slice HO269.out
      (first | subst eo123 | (injection eo123 with f1_ f2_ f3_; have f4_ := f1_.symm; have f5_ := f3_.symm; clear f1_ f2_ f3_; subst f4_; subst f5_))
      refine hK.out _ _ ⟨(blk_cell BK254.out 0).trans rfl, (blk_cell BK254.out 1).trans rfl, (blk_cell BK255.out 0).trans rfl, (blk_cell BK255.out 1).trans rfl⟩ (fun hHeld => ?_)
      clear hK K
      refine norm_ (a' := ?_) ?_ ?_
      rotate_left
      ·show Act.put _ (some 23) _ = _
       simp only [px_q]
       rfl
      refine one_ (i := 4) (N := some 24) (px_l 5 1) rfl rfl (by kernel_rfl) (by decide) (fun K hK => ?_)
      refine goes_ Try.func5 (by kernel_rfl) rfl #[.agg #[.slice Ao120 t258.length co120, .slice Ao121 t261.length co121], .agg #[.slice Ao122 t264.length co122, .slice Ao123 t267.length co123]] (by rfl) rfl rfl px_dn ?_
      with_reducible refine (spec_DictSame.calls k _ _ t258 _ _ t261 _ _ t264 _ _ t267 t270 _ ?side1 ?side2 ?side3 ?side4 ?side5 ?side6 ?side7 ?side8 A21.out).mono ?_
      (case side1 => exact px_cV ((Kd.R_reads' HO260.out).2.2))
      (case side2 => exact (Kd.R_reads' HO260.out).2.1)
      (case side3 => exact px_cV ((Kd.R_reads' HO263.out).2.2))
      (case side4 => exact (Kd.R_reads' HO263.out).2.1)
      (case side5 => exact px_cV ((Kd.R_reads' HO266.out).2.2))
      (case side6 => exact (Kd.R_reads' HO266.out).2.1)
      (case side7 => exact px_cV ((Kd.R_reads' HO269.out).2.2))
      (case side8 => exact (Kd.R_reads' HO269.out).2.1)
      rintro e w124 ⟨rfl, hb⟩
      refine ⟨_, rfl, ?_⟩
      have n0_ := aM (Kd.R_below (px_rV HO260.out) hb)
      have n1_ := aM (Kd.R_below (px_rV HO263.out) hb)
      have n2_ := aM (Kd.R_below (px_rV HO266.out) hb)
      have n3_ := aM (Kd.R_below (px_rV HO269.out) hb)
      have n4_ := aM (blk_below (g := gb254) (o := .cells #[.slice A0_0 l0_0.length c0_0, .slice A0_1 l0_1.length c0_1] 25 (0, 0)) (px_bV BK254.out) hb)
      have n5_ := aM (blk_below (g := gb255) (o := .cells #[.slice A1_0 l1_0.length c1_0, .slice A1_1 l1_1.length c1_1] 25 (0, 0)) (px_bV BK255.out) hb)
      have n6_ := aM (below_step (px_h2 HB.out GE254.out GE255.out) hb)
      clear HO260
      clear HO263
      clear HO266
      clear HO269
      clear BK254
      clear BK255
      clear HB
      have HO260 := n0_
      have HO263 := n1_
      have HO266 := n2_
      have HO269 := n3_
      have BK254 := n4_
      have BK255 := n5_
      have HB := n6_
      clear n0_ n1_ n2_ n3_ n4_ n5_ n6_
      (try clear hb)
      (try clear hb2)
      (try clear hk)
      (try clear hi)
      refine hK.out _ _ ⟨(blk_cell BK254.out 0).trans rfl, (blk_cell BK254.out 1).trans rfl, (blk_cell BK255.out 0).trans rfl, (blk_cell BK255.out 1).trans rfl⟩ (fun hHeld => ?_)
      clear hK K
      refine norm_ (a' := ?_) ?_ ?_
      rotate_left
      ·show Act.put _ (some 24) _ = _
       simp only [px_q]
       rfl
      refine pure_ (i := 5) (N := some 6) (v := ?_) (a' := ?_) (px_l 6 0) rfl rfl (by kernel_rfl) (fun _ _ _ h => h) (Or.inl ⟨by rfl, ?_⟩) ?_ ?_
      rotate_left
      ·intro w'
       go_simp
       with_reducible rfl
      rotate_left
      ·simp only [px_q]
       rfl
      refine done_ (by kernel_rfl) ?_
      have hcz125_0 : w124.cell? ⟨gb254, 0, none⟩ = some (.slice A0_0 l0_0.length c0_0) := (blk_cell BK254.out 0).trans rfl
      have hcz125_1 : w124.cell? ⟨gb254, 1, none⟩ = some (.slice A0_1 l0_1.length c0_1) := (blk_cell BK254.out 1).trans rfl
      have hfz125_0 := blk_frozen BK254.out 0
      have hfz125_1 := blk_frozen BK254.out 1
      try go_wp2_with (first | ((with_reducible refine gate_callee (f := 6) rfl ?_); refine goesL_ (some 26) rfl rfl Try.func6 (by kernel_rfl) rfl #[.agg #[.slice A0_0 l0_0.length c0_0, .slice A0_1 l0_1.length c0_1]] rfl px_dn ?_; (with_reducible refine (laws_toDict.calls k _ _ l0_0 _ _ l0_1 t271 t274 _ ?side1 ?side2 ?side3 ?side4 A22.out).mono ?_); (case side1 => exact px_cV ((Kd.C_below HR0_0.out HB.out))); (case side2 => exact HC0_0.out); (case side3 => exact px_cV ((Kd.C_below HR0_1.out HB.out))); (case side4 => exact HC0_1.out); rintro e w126 ⟨v272, v275, rfl, ho0, ho1, hb⟩; refine ⟨_, rfl, ?_⟩; have n0_ := aM (Kd.R_elder' (px_rV HO260.out) (Kd.R_base ho0) hb); have n1_ := aM (Kd.R_elder' (px_rV HO263.out) (Kd.R_base ho1) hb); have n2_ := aM (Kd.R_elder' (px_rV HO266.out) (Kd.R_base ho0) hb); have n3_ := aM (Kd.R_elder' (px_rV HO269.out) (Kd.R_base ho1) hb); have n4_ := aM (Kd.R_lower (Kd.R_new' (Kd.R_new' ho0 (Kd.R_lt (px_rV HO260.out))) (Kd.R_lt (px_rV HO266.out))) (below_size (px_h2 HB.out GE254.out GE255.out))); have n5_ := aM (Kd.R_lower (Kd.R_new' (Kd.R_new' ho1 (Kd.R_lt (px_rV HO263.out))) (Kd.R_lt (px_rV HO269.out))) (below_size (px_h2 HB.out GE254.out GE255.out))); have n6_ := aM (blk_below (g := gb254) (o := .cells #[.slice A0_0 l0_0.length c0_0, .slice A0_1 l0_1.length c0_1] 25 (0, 0)) (px_bV BK254.out) hb); have n7_ := aM (blk_below (g := gb255) (o := .cells #[.slice A1_0 l1_0.length c1_0, .slice A1_1 l1_1.length c1_1] 25 (0, 0)) (px_bV BK255.out) hb); have n8_ := aM (below_step (px_h2 HB.out GE254.out GE255.out) hb); clear HO260; clear HO263; clear HO266; clear HO269; clear BK254; clear BK255; clear HB; have HO260 := n0_; have HO263 := n1_; have HO266 := n2_; have HO269 := n3_; have HO273 := n4_; have HO276 := n5_; have BK254 := n6_; have BK255 := n7_; have HB := n8_; clear n0_ n1_ n2_ n3_ n4_ n5_ n6_ n7_ n8_; (try clear hb); (try clear hb2); (try clear hk); (try clear hi); (try clear ho0); (try clear ho1)) | ((with_reducible refine gate_dst (N := 7) rfl ?_); refine box_event ?hg (N := 7) ?hd (cs := #[.slice none 0 0, .slice none 0 0]) (t := 30) ?hr ?_; (case hd => rfl); (case hg => rfl); (case hr => first | (go_simp; done) | (go_simp; rfl)); intro gb277 hg w127 hbox hb; have n0_ := aM (Kd.R_below (px_rV HO260.out) hb); have n1_ := aM (Kd.R_below (px_rV HO263.out) hb); have n2_ := aM (Kd.R_below (px_rV HO266.out) hb); have n3_ := aM (Kd.R_below (px_rV HO269.out) hb); have n4_ := aM (Kd.R_below (px_rV HO273.out) hb); have n5_ := aM (Kd.R_below (px_rV HO276.out) hb); have n6_ := aM (blk_below (g := gb254) (o := .cells #[.slice A0_0 l0_0.length c0_0, .slice A0_1 l0_1.length c0_1] 25 (0, 0)) (px_bV BK254.out) hb); have n7_ := aM (blk_below (g := gb255) (o := .cells #[.slice A1_0 l1_0.length c1_0, .slice A1_1 l1_1.length c1_1] 25 (0, 0)) (px_bV BK255.out) hb); have n8_ := aM (below_step (px_h2 HB.out GE254.out GE255.out) hb); have n9_ := aM (hbox); have n10_ := aM ((by rw [hg]; exact (below_size (px_h2 HB.out GE254.out GE255.out)) : w.heap.size ≤ gb277)); have n11_ := aM ((by rw [hg]; exact (below_size (px_h2 HB.out GE254.out GE255.out)) : w.heap.size ≤ gb277)); have n12_ := aM ((by rw [hg]; exact Nat.ne_of_lt (blk_lt (g := gb254) (o := .cells #[.slice A0_0 l0_0.length c0_0, .slice A0_1 l0_1.length c0_1] 25 (0, 0)) (px_bV BK254.out)) : gb254 ≠ gb277)); have n13_ := aM ((by rw [hg]; exact Nat.ne_of_gt (blk_lt (g := gb254) (o := .cells #[.slice A0_0 l0_0.length c0_0, .slice A0_1 l0_1.length c0_1] 25 (0, 0)) (px_bV BK254.out)) : gb277 ≠ gb254)); have n14_ := aM ((by rw [hg]; exact Nat.ne_of_lt (blk_lt (g := gb255) (o := .cells #[.slice A1_0 l1_0.length c1_0, .slice A1_1 l1_1.length c1_1] 25 (0, 0)) (px_bV BK255.out)) : gb255 ≠ gb277)); have n15_ := aM ((by rw [hg]; exact Nat.ne_of_gt (blk_lt (g := gb255) (o := .cells #[.slice A1_0 l1_0.length c1_0, .slice A1_1 l1_1.length c1_1] 25 (0, 0)) (px_bV BK255.out)) : gb277 ≠ gb255)); clear HO260; clear HO263; clear HO266; clear HO269; clear HO273; clear HO276; clear BK254; clear BK255; clear HB; have HO260 := n0_; have HO263 := n1_; have HO266 := n2_; have HO269 := n3_; have HO273 := n4_; have HO276 := n5_; have BK254 := n6_; have BK255 := n7_; have HB := n8_; have BK277 := n9_; have GW277 := n10_; have GE277 := n11_; have NB254_277 := n12_; have NB277_254 := n13_; have NB255_277 := n14_; have NB277_255 := n15_; clear n0_ n1_ n2_ n3_ n4_ n5_ n6_ n7_ n8_ n9_ n10_ n11_ n12_ n13_ n14_ n15_; clear hb hbox hg; obtain ⟨Ao128, co128, eo128⟩ := Kd.R_slice HO273.out; subst eo128; have hnb129 := NB277_254.out; have hnc129 := NB254_277.out; have hnb130 := NB277_255.out; have hnc130 := NB255_277.out; have hcz131_0 : w127.cell? ⟨gb277, 0, none⟩ = some (.slice none 0 0) := (blk_cell BK277.out 0).trans rfl; have hcz131_1 : w127.cell? ⟨gb277, 1, none⟩ = some (.slice none 0 0) := (blk_cell BK277.out 1).trans rfl; have hfz131_0 := blk_frozen BK277.out 0; have hfz131_1 := blk_frozen BK277.out 1; obtain ⟨Ao132, co132, eo132⟩ := Kd.R_slice HO276.out; subst eo132; have hcz133_0 : w127.cell? ⟨gb255, 0, none⟩ = some (.slice A1_0 l1_0.length c1_0) := (blk_cell BK255.out 0).trans rfl; have hcz133_1 : w127.cell? ⟨gb255, 1, none⟩ = some (.slice A1_1 l1_1.length c1_1) := (blk_cell BK255.out 1).trans rfl; have hfz133_0 := blk_frozen BK255.out 0; have hfz133_1 := blk_frozen BK255.out 1) | ((with_reducible refine gate_callee (f := 6) rfl ?_); refine goesL_ (some 28) rfl rfl Try.func6 (by kernel_rfl) rfl #[.agg #[.slice A1_0 l1_0.length c1_0, .slice A1_1 l1_1.length c1_1]] rfl px_dn ?_; (with_reducible refine (laws_toDict.calls k _ _ l1_0 _ _ l1_1 t278 t281 _ ?side1 ?side2 ?side3 ?side4 A23.out).mono ?_); (case side1 => exact Kd.C_below HR1_0.out (px_h3 HB.out GE254.out GE255.out GE277.out)); (case side2 => exact HC1_0.out); (case side3 => exact Kd.C_below HR1_1.out (px_h3 HB.out GE254.out GE255.out GE277.out)); (case side4 => exact HC1_1.out); rintro e w134 ⟨v279, v282, rfl, ho0, ho1, hb⟩; refine ⟨_, rfl, ?_⟩; have n0_ := aM (Kd.R_elder' (by (with_reducible repeat (first | apply Kd.R_alloc | apply Kd.R_drewN | apply Kd.R_drew)); exact (Kd.R_mono (Kd.R_far (p := ⟨gb277, 1, none⟩) (Kd.R_far (p := ⟨gb277, 0, none⟩) (Kd.R_types HO260.out BK277.out (by decide)) (fun _ hk => hk.2) (.slice Ao128 t271.length co128)) (fun _ hk => hk.2) (.slice Ao132 t274.length co132)) (fun _ h_ => h_.1))) (Kd.R_base ho0) hb); have n1_ := aM (Kd.R_elder' (by (with_reducible repeat (first | apply Kd.R_alloc | apply Kd.R_drewN | apply Kd.R_drew)); exact (Kd.R_mono (Kd.R_far (p := ⟨gb277, 1, none⟩) (Kd.R_far (p := ⟨gb277, 0, none⟩) (Kd.R_types HO263.out BK277.out (by decide)) (fun _ hk => hk.2) (.slice Ao128 t271.length co128)) (fun _ hk => hk.2) (.slice Ao132 t274.length co132)) (fun _ h_ => h_.1))) (Kd.R_base ho1) hb); have n2_ := aM (Kd.R_elder' (by (with_reducible repeat (first | apply Kd.R_alloc | apply Kd.R_drewN | apply Kd.R_drew)); exact (Kd.R_mono (Kd.R_far (p := ⟨gb277, 1, none⟩) (Kd.R_far (p := ⟨gb277, 0, none⟩) (Kd.R_types HO266.out BK277.out (by decide)) (fun _ hk => hk.2) (.slice Ao128 t271.length co128)) (fun _ hk => hk.2) (.slice Ao132 t274.length co132)) (fun _ h_ => h_.1))) (Kd.R_base ho0) hb); have n3_ := aM (Kd.R_elder' (by (with_reducible repeat (first | apply Kd.R_alloc | apply Kd.R_drewN | apply Kd.R_drew)); exact (Kd.R_mono (Kd.R_far (p := ⟨gb277, 1, none⟩) (Kd.R_far (p := ⟨gb277, 0, none⟩) (Kd.R_types HO269.out BK277.out (by decide)) (fun _ hk => hk.2) (.slice Ao128 t271.length co128)) (fun _ hk => hk.2) (.slice Ao132 t274.length co132)) (fun _ h_ => h_.1))) (Kd.R_base ho1) hb); have n4_ := aM (Kd.R_elder' (by (with_reducible repeat (first | apply Kd.R_alloc | apply Kd.R_drewN | apply Kd.R_drew)); exact (Kd.R_mono (Kd.R_far (p := ⟨gb277, 1, none⟩) (Kd.R_far (p := ⟨gb277, 0, none⟩) (Kd.R_types HO273.out BK277.out (by decide)) (fun _ hk => hk.2) (.slice Ao128 t271.length co128)) (fun _ hk => hk.2) (.slice Ao132 t274.length co132)) (fun _ h_ => h_.1))) (Kd.R_base ho0) hb); have n5_ := aM (Kd.R_elder' (by (with_reducible repeat (first | apply Kd.R_alloc | apply Kd.R_drewN | apply Kd.R_drew)); exact (Kd.R_mono (Kd.R_far (p := ⟨gb277, 1, none⟩) (Kd.R_far (p := ⟨gb277, 0, none⟩) (Kd.R_types HO276.out BK277.out (by decide)) (fun _ hk => hk.2) (.slice Ao128 t271.length co128)) (fun _ hk => hk.2) (.slice Ao132 t274.length co132)) (fun _ h_ => h_.1))) (Kd.R_base ho1) hb); have n6_ := aM (Kd.R_lower (Kd.R_new' (Kd.R_new' (Kd.R_new' ho0 (Kd.R_lt (by (with_reducible repeat (first | apply Kd.R_alloc | apply Kd.R_drewN | apply Kd.R_drew)); exact (Kd.R_mono (Kd.R_far (p := ⟨gb277, 1, none⟩) (Kd.R_far (p := ⟨gb277, 0, none⟩) (Kd.R_types HO260.out BK277.out (by decide)) (fun _ hk => hk.2) (.slice Ao128 t271.length co128)) (fun _ hk => hk.2) (.slice Ao132 t274.length co132)) (fun _ h_ => h_.1))))) (Kd.R_lt (by (with_reducible repeat (first | apply Kd.R_alloc | apply Kd.R_drewN | apply Kd.R_drew)); exact (Kd.R_mono (Kd.R_far (p := ⟨gb277, 1, none⟩) (Kd.R_far (p := ⟨gb277, 0, none⟩) (Kd.R_types HO266.out BK277.out (by decide)) (fun _ hk => hk.2) (.slice Ao128 t271.length co128)) (fun _ hk => hk.2) (.slice Ao132 t274.length co132)) (fun _ h_ => h_.1))))) (Kd.R_lt (by (with_reducible repeat (first | apply Kd.R_alloc | apply Kd.R_drewN | apply Kd.R_drew)); exact (Kd.R_mono (Kd.R_far (p := ⟨gb277, 1, none⟩) (Kd.R_far (p := ⟨gb277, 0, none⟩) (Kd.R_types HO273.out BK277.out (by decide)) (fun _ hk => hk.2) (.slice Ao128 t271.length co128)) (fun _ hk => hk.2) (.slice Ao132 t274.length co132)) (fun _ h_ => h_.1))))) (below_size (px_h3 HB.out GE254.out GE255.out GE277.out))); have n7_ := aM (Kd.R_lower (Kd.R_new' (Kd.R_new' (Kd.R_new' ho1 (Kd.R_lt (by (with_reducible repeat (first | apply Kd.R_alloc | apply Kd.R_drewN | apply Kd.R_drew)); exact (Kd.R_mono (Kd.R_far (p := ⟨gb277, 1, none⟩) (Kd.R_far (p := ⟨gb277, 0, none⟩) (Kd.R_types HO263.out BK277.out (by decide)) (fun _ hk => hk.2) (.slice Ao128 t271.length co128)) (fun _ hk => hk.2) (.slice Ao132 t274.length co132)) (fun _ h_ => h_.1))))) (Kd.R_lt (by (with_reducible repeat (first | apply Kd.R_alloc | apply Kd.R_drewN | apply Kd.R_drew)); exact (Kd.R_mono (Kd.R_far (p := ⟨gb277, 1, none⟩) (Kd.R_far (p := ⟨gb277, 0, none⟩) (Kd.R_types HO269.out BK277.out (by decide)) (fun _ hk => hk.2) (.slice Ao128 t271.length co128)) (fun _ hk => hk.2) (.slice Ao132 t274.length co132)) (fun _ h_ => h_.1))))) (Kd.R_lt (by (with_reducible repeat (first | apply Kd.R_alloc | apply Kd.R_drewN | apply Kd.R_drew)); exact (Kd.R_mono (Kd.R_far (p := ⟨gb277, 1, none⟩) (Kd.R_far (p := ⟨gb277, 0, none⟩) (Kd.R_types HO276.out BK277.out (by decide)) (fun _ hk => hk.2) (.slice Ao128 t271.length co128)) (fun _ hk => hk.2) (.slice Ao132 t274.length co132)) (fun _ h_ => h_.1))))) (below_size (px_h3 HB.out GE254.out GE255.out GE277.out))); have n8_ := aM (blk_below (g := gb254) (o := .cells #[.slice A0_0 l0_0.length c0_0, .slice A0_1 l0_1.length c0_1] 25 (0, 0)) (by (with_reducible repeat (first | refine blk_drewN ?_ _ | refine blk_drew ?_ | refine blk_alloc ?_ _)); refine blk_far ?_ NB254_277.out _; (with_reducible repeat (first | refine blk_drewN ?_ _ | refine blk_drew ?_ | refine blk_alloc ?_ _)); refine blk_far ?_ NB254_277.out _; (with_reducible repeat (first | refine blk_drewN ?_ _ | refine blk_drew ?_ | refine blk_alloc ?_ _)); exact BK254.out) hb); have n9_ := aM (blk_below (g := gb255) (o := .cells #[.slice A1_0 l1_0.length c1_0, .slice A1_1 l1_1.length c1_1] 25 (0, 0)) (by (with_reducible repeat (first | refine blk_drewN ?_ _ | refine blk_drew ?_ | refine blk_alloc ?_ _)); refine blk_far ?_ NB255_277.out _; (with_reducible repeat (first | refine blk_drewN ?_ _ | refine blk_drew ?_ | refine blk_alloc ?_ _)); refine blk_far ?_ NB255_277.out _; (with_reducible repeat (first | refine blk_drewN ?_ _ | refine blk_drew ?_ | refine blk_alloc ?_ _)); exact BK255.out) hb); have n10_ := aM (blk_below (g := gb277) (o := .cells #[.slice Ao128 t271.length co128, .slice Ao132 t274.length co132] 30 (0, 0)) (by (with_reducible repeat (first | refine blk_drewN ?_ _ | refine blk_drew ?_ | refine blk_alloc ?_ _)); refine blk_put (cs := #[.slice Ao128 t271.length co128, .slice none 0 0]) ?_ 1 _ rfl; (with_reducible repeat (first | refine blk_drewN ?_ _ | refine blk_drew ?_ | refine blk_alloc ?_ _)); refine blk_put (cs := #[.slice none 0 0, .slice none 0 0]) ?_ 0 _ rfl; (with_reducible repeat (first | refine blk_drewN ?_ _ | refine blk_drew ?_ | refine blk_alloc ?_ _)); exact BK277.out) hb); have n11_ := aM (below_step (px_h3 HB.out GE254.out GE255.out GE277.out) hb); clear HO260; clear HO263; clear HO266; clear HO269; clear HO273; clear HO276; clear BK254; clear BK255; clear BK277; clear HB; have HO260 := n0_; have HO263 := n1_; have HO266 := n2_; have HO269 := n3_; have HO273 := n4_; have HO276 := n5_; have HO280 := n6_; have HO283 := n7_; have BK254 := n8_; have BK255 := n9_; have BK277 := n10_; have HB := n11_; clear n0_ n1_ n2_ n3_ n4_ n5_ n6_ n7_ n8_ n9_ n10_ n11_; (try clear hb); (try clear hb2); (try clear hk); (try clear hi); (try clear ho0); (try clear ho1)) | ((with_reducible refine gate_dst (N := 8) rfl ?_); refine box_event ?hg (N := 8) ?hd (cs := #[.slice none 0 0, .slice none 0 0]) (t := 30) ?hr ?_; (case hd => rfl); (case hg => rfl); (case hr => first | (go_simp; done) | (go_simp; rfl)); intro gb284 hg w135 hbox hb; have n0_ := aM (Kd.R_below (px_rV HO260.out) hb); have n1_ := aM (Kd.R_below (px_rV HO263.out) hb); have n2_ := aM (Kd.R_below (px_rV HO266.out) hb); have n3_ := aM (Kd.R_below (px_rV HO269.out) hb); have n4_ := aM (Kd.R_below (px_rV HO273.out) hb); have n5_ := aM (Kd.R_below (px_rV HO276.out) hb); have n6_ := aM (Kd.R_below (px_rV HO280.out) hb); have n7_ := aM (Kd.R_below (px_rV HO283.out) hb); have n8_ := aM (blk_below (g := gb254) (o := .cells #[.slice A0_0 l0_0.length c0_0, .slice A0_1 l0_1.length c0_1] 25 (0, 0)) (px_bV BK254.out) hb); have n9_ := aM (blk_below (g := gb255) (o := .cells #[.slice A1_0 l1_0.length c1_0, .slice A1_1 l1_1.length c1_1] 25 (0, 0)) (px_bV BK255.out) hb); have n10_ := aM (blk_below (g := gb277) (o := .cells #[.slice Ao128 t271.length co128, .slice Ao132 t274.length co132] 30 (0, 0)) (px_bV BK277.out) hb); have n11_ := aM (below_step (px_h3 HB.out GE254.out GE255.out GE277.out) hb); have n12_ := aM (hbox); have n13_ := aM ((by rw [hg]; exact (below_size (px_h3 HB.out GE254.out GE255.out GE277.out)) : w.heap.size ≤ gb284)); have n14_ := aM ((by rw [hg]; exact (below_size (px_h3 HB.out GE254.out GE255.out GE277.out)) : w.heap.size ≤ gb284)); have n15_ := aM ((by rw [hg]; exact Nat.ne_of_lt (blk_lt (g := gb254) (o := .cells #[.slice A0_0 l0_0.length c0_0, .slice A0_1 l0_1.length c0_1] 25 (0, 0)) (px_bV BK254.out)) : gb254 ≠ gb284)); have n16_ := aM ((by rw [hg]; exact Nat.ne_of_gt (blk_lt (g := gb254) (o := .cells #[.slice A0_0 l0_0.length c0_0, .slice A0_1 l0_1.length c0_1] 25 (0, 0)) (px_bV BK254.out)) : gb284 ≠ gb254)); have n17_ := aM ((by rw [hg]; exact Nat.ne_of_lt (blk_lt (g := gb255) (o := .cells #[.slice A1_0 l1_0.length c1_0, .slice A1_1 l1_1.length c1_1] 25 (0, 0)) (px_bV BK255.out)) : gb255 ≠ gb284)); have n18_ := aM ((by rw [hg]; exact Nat.ne_of_gt (blk_lt (g := gb255) (o := .cells #[.slice A1_0 l1_0.length c1_0, .slice A1_1 l1_1.length c1_1] 25 (0, 0)) (px_bV BK255.out)) : gb284 ≠ gb255)); have n19_ := aM ((by rw [hg]; exact Nat.ne_of_lt (blk_lt (g := gb277) (o := .cells #[.slice Ao128 t271.length co128, .slice Ao132 t274.length co132] 30 (0, 0)) (px_bV BK277.out)) : gb277 ≠ gb284)); have n20_ := aM ((by rw [hg]; exact Nat.ne_of_gt (blk_lt (g := gb277) (o := .cells #[.slice Ao128 t271.length co128, .slice Ao132 t274.length co132] 30 (0, 0)) (px_bV BK277.out)) : gb284 ≠ gb277)); clear HO260; clear HO263; clear HO266; clear HO269; clear HO273; clear HO276; clear HO280; clear HO283; clear BK254; clear BK255; clear BK277; clear HB; have HO260 := n0_; have HO263 := n1_; have HO266 := n2_; have HO269 := n3_; have HO273 := n4_; have HO276 := n5_; have HO280 := n6_; have HO283 := n7_; have BK254 := n8_; have BK255 := n9_; have BK277 := n10_; have HB := n11_; have BK284 := n12_; have GW284 := n13_; have GE284 := n14_; have NB254_284 := n15_; have NB284_254 := n16_; have NB255_284 := n17_; have NB284_255 := n18_; have NB277_284 := n19_; have NB284_277 := n20_; clear n0_ n1_ n2_ n3_ n4_ n5_ n6_ n7_ n8_ n9_ n10_ n11_ n12_ n13_ n14_ n15_ n16_ n17_ n18_ n19_ n20_; clear hb hbox hg; obtain ⟨Ao136, co136, eo136⟩ := Kd.R_slice HO280.out; subst eo136; have hnb137 := NB284_254.out; have hnc137 := NB254_284.out; have hnb138 := NB284_255.out; have hnc138 := NB255_284.out; have hnb139 := NB284_277.out; have hnc139 := NB277_284.out; have hcz140_0 : w135.cell? ⟨gb284, 0, none⟩ = some (.slice none 0 0) := (blk_cell BK284.out 0).trans rfl; have hcz140_1 : w135.cell? ⟨gb284, 1, none⟩ = some (.slice none 0 0) := (blk_cell BK284.out 1).trans rfl; have hfz140_0 := blk_frozen BK284.out 0; have hfz140_1 := blk_frozen BK284.out 1; obtain ⟨Ao141, co141, eo141⟩ := Kd.R_slice HO283.out; subst eo141; have hcz142_0 : w135.cell? ⟨gb277, 0, none⟩ = some (.slice Ao128 t271.length co128) := (blk_cell BK277.out 0).trans rfl; have hcz142_1 : w135.cell? ⟨gb277, 1, none⟩ = some (.slice Ao132 t274.length co132) := (blk_cell BK277.out 1).trans rfl; have hfz142_0 := blk_frozen BK277.out 0; have hfz142_1 := blk_frozen BK277.out 1) | ((with_reducible refine gate_callee (f := 7) rfl ?_); refine goesL_ (some 31) rfl rfl Try.func7 (by kernel_rfl) rfl #[.agg #[.slice Ao128 t271.length co128, .slice Ao132 t274.length co132], .agg #[.slice Ao136 t278.length co136, .slice Ao141 t281.length co141]] rfl px_dn ?_; (with_reducible refine (impl_DictSame.calls k _ _ t271 _ _ t274 _ _ t278 _ _ t281 t285 _ ?side1 ?side2 ?side3 ?side4 ?side5 ?side6 ?side7 ?side8 A24.out).mono ?_); (case side1 => refine (Kd.R_reads' (e := 3) (base := w.heap.size) (ok := fun k_ => (((True ∧ some k_ ≠ (.slice Ao120 t258.length co120 : Value).ownBlock) ∧ some k_ ≠ (.slice Ao122 t264.length co122 : Value).ownBlock) ∧ some k_ ≠ (.slice Ao136 t278.length co136 : Value).ownBlock)) (n := t271.length) (c := co128) ?_).2.2; exact (by (with_reducible repeat (first | apply Kd.R_alloc | apply Kd.R_drewN | apply Kd.R_drew)); exact (Kd.R_mono (Kd.R_far (p := ⟨gb284, 1, none⟩) (Kd.R_far (p := ⟨gb284, 0, none⟩) (Kd.R_types HO273.out BK284.out (by decide)) (fun _ hk => hk.2) (.slice Ao136 t278.length co136)) (fun _ hk => hk.2) (.slice Ao141 t281.length co141)) (fun _ h_ => h_.1)))); (case side2 => exact (Kd.R_reads' HO273.out).2.1); (case side3 => refine (Kd.R_reads' (e := 38) (base := w.heap.size) (ok := fun k_ => (((True ∧ some k_ ≠ (.slice Ao121 t261.length co121 : Value).ownBlock) ∧ some k_ ≠ (.slice Ao123 t267.length co123 : Value).ownBlock) ∧ some k_ ≠ (.slice Ao141 t281.length co141 : Value).ownBlock)) (n := t274.length) (c := co132) ?_).2.2; exact (by (with_reducible repeat (first | apply Kd.R_alloc | apply Kd.R_drewN | apply Kd.R_drew)); exact (Kd.R_mono (Kd.R_far (p := ⟨gb284, 1, none⟩) (Kd.R_far (p := ⟨gb284, 0, none⟩) (Kd.R_types HO276.out BK284.out (by decide)) (fun _ hk => hk.2) (.slice Ao136 t278.length co136)) (fun _ hk => hk.2) (.slice Ao141 t281.length co141)) (fun _ h_ => h_.1)))); (case side4 => exact (Kd.R_reads' HO276.out).2.1); (case side5 => refine (Kd.R_reads' (e := 3) (base := w.heap.size) (ok := fun k_ => (((True ∧ some k_ ≠ (.slice Ao120 t258.length co120 : Value).ownBlock) ∧ some k_ ≠ (.slice Ao122 t264.length co122 : Value).ownBlock) ∧ some k_ ≠ (.slice Ao128 t271.length co128 : Value).ownBlock)) (n := t278.length) (c := co136) ?_).2.2; exact (by (with_reducible repeat (first | apply Kd.R_alloc | apply Kd.R_drewN | apply Kd.R_drew)); exact (Kd.R_mono (Kd.R_far (p := ⟨gb284, 1, none⟩) (Kd.R_far (p := ⟨gb284, 0, none⟩) (Kd.R_types HO280.out BK284.out (by decide)) (fun _ hk => hk.2) (.slice Ao136 t278.length co136)) (fun _ hk => hk.2) (.slice Ao141 t281.length co141)) (fun _ h_ => h_.1)))); (case side6 => exact (Kd.R_reads' HO280.out).2.1); (case side7 => refine (Kd.R_reads' (e := 38) (base := w.heap.size) (ok := fun k_ => (((True ∧ some k_ ≠ (.slice Ao121 t261.length co121 : Value).ownBlock) ∧ some k_ ≠ (.slice Ao123 t267.length co123 : Value).ownBlock) ∧ some k_ ≠ (.slice Ao132 t274.length co132 : Value).ownBlock)) (n := t281.length) (c := co141) ?_).2.2; exact (by (with_reducible repeat (first | apply Kd.R_alloc | apply Kd.R_drewN | apply Kd.R_drew)); exact (Kd.R_mono (Kd.R_far (p := ⟨gb284, 1, none⟩) (Kd.R_far (p := ⟨gb284, 0, none⟩) (Kd.R_types HO283.out BK284.out (by decide)) (fun _ hk => hk.2) (.slice Ao136 t278.length co136)) (fun _ hk => hk.2) (.slice Ao141 t281.length co141)) (fun _ h_ => h_.1)))); (case side8 => exact (Kd.R_reads' HO283.out).2.1); rintro e w143 ⟨rfl, hb⟩; refine ⟨_, rfl, ?_⟩; have n0_ := aM (Kd.R_below (by (with_reducible repeat (first | apply Kd.R_alloc | apply Kd.R_drewN | apply Kd.R_drew)); exact (Kd.R_mono (Kd.R_far (p := ⟨gb284, 1, none⟩) (Kd.R_far (p := ⟨gb284, 0, none⟩) (Kd.R_types HO260.out BK284.out (by decide)) (fun _ hk => hk.2) (.slice Ao136 t278.length co136)) (fun _ hk => hk.2) (.slice Ao141 t281.length co141)) (fun _ h_ => h_.1))) hb); have n1_ := aM (Kd.R_below (by (with_reducible repeat (first | apply Kd.R_alloc | apply Kd.R_drewN | apply Kd.R_drew)); exact (Kd.R_mono (Kd.R_far (p := ⟨gb284, 1, none⟩) (Kd.R_far (p := ⟨gb284, 0, none⟩) (Kd.R_types HO263.out BK284.out (by decide)) (fun _ hk => hk.2) (.slice Ao136 t278.length co136)) (fun _ hk => hk.2) (.slice Ao141 t281.length co141)) (fun _ h_ => h_.1))) hb); have n2_ := aM (Kd.R_below (by (with_reducible repeat (first | apply Kd.R_alloc | apply Kd.R_drewN | apply Kd.R_drew)); exact (Kd.R_mono (Kd.R_far (p := ⟨gb284, 1, none⟩) (Kd.R_far (p := ⟨gb284, 0, none⟩) (Kd.R_types HO266.out BK284.out (by decide)) (fun _ hk => hk.2) (.slice Ao136 t278.length co136)) (fun _ hk => hk.2) (.slice Ao141 t281.length co141)) (fun _ h_ => h_.1))) hb); have n3_ := aM (Kd.R_below (by (with_reducible repeat (first | apply Kd.R_alloc | apply Kd.R_drewN | apply Kd.R_drew)); exact (Kd.R_mono (Kd.R_far (p := ⟨gb284, 1, none⟩) (Kd.R_far (p := ⟨gb284, 0, none⟩) (Kd.R_types HO269.out BK284.out (by decide)) (fun _ hk => hk.2) (.slice Ao136 t278.length co136)) (fun _ hk => hk.2) (.slice Ao141 t281.length co141)) (fun _ h_ => h_.1))) hb); have n4_ := aM (Kd.R_below (by (with_reducible repeat (first | apply Kd.R_alloc | apply Kd.R_drewN | apply Kd.R_drew)); exact (Kd.R_mono (Kd.R_far (p := ⟨gb284, 1, none⟩) (Kd.R_far (p := ⟨gb284, 0, none⟩) (Kd.R_types HO273.out BK284.out (by decide)) (fun _ hk => hk.2) (.slice Ao136 t278.length co136)) (fun _ hk => hk.2) (.slice Ao141 t281.length co141)) (fun _ h_ => h_.1))) hb); have n5_ := aM (Kd.R_below (by (with_reducible repeat (first | apply Kd.R_alloc | apply Kd.R_drewN | apply Kd.R_drew)); exact (Kd.R_mono (Kd.R_far (p := ⟨gb284, 1, none⟩) (Kd.R_far (p := ⟨gb284, 0, none⟩) (Kd.R_types HO276.out BK284.out (by decide)) (fun _ hk => hk.2) (.slice Ao136 t278.length co136)) (fun _ hk => hk.2) (.slice Ao141 t281.length co141)) (fun _ h_ => h_.1))) hb); have n6_ := aM (Kd.R_below (by (with_reducible repeat (first | apply Kd.R_alloc | apply Kd.R_drewN | apply Kd.R_drew)); exact (Kd.R_mono (Kd.R_far (p := ⟨gb284, 1, none⟩) (Kd.R_far (p := ⟨gb284, 0, none⟩) (Kd.R_types HO280.out BK284.out (by decide)) (fun _ hk => hk.2) (.slice Ao136 t278.length co136)) (fun _ hk => hk.2) (.slice Ao141 t281.length co141)) (fun _ h_ => h_.1))) hb); have n7_ := aM (Kd.R_below (by (with_reducible repeat (first | apply Kd.R_alloc | apply Kd.R_drewN | apply Kd.R_drew)); exact (Kd.R_mono (Kd.R_far (p := ⟨gb284, 1, none⟩) (Kd.R_far (p := ⟨gb284, 0, none⟩) (Kd.R_types HO283.out BK284.out (by decide)) (fun _ hk => hk.2) (.slice Ao136 t278.length co136)) (fun _ hk => hk.2) (.slice Ao141 t281.length co141)) (fun _ h_ => h_.1))) hb); have n8_ := aM (blk_below (g := gb254) (o := .cells #[.slice A0_0 l0_0.length c0_0, .slice A0_1 l0_1.length c0_1] 25 (0, 0)) (by (with_reducible repeat (first | refine blk_drewN ?_ _ | refine blk_drew ?_ | refine blk_alloc ?_ _)); refine blk_far ?_ NB254_284.out _; (with_reducible repeat (first | refine blk_drewN ?_ _ | refine blk_drew ?_ | refine blk_alloc ?_ _)); refine blk_far ?_ NB254_284.out _; (with_reducible repeat (first | refine blk_drewN ?_ _ | refine blk_drew ?_ | refine blk_alloc ?_ _)); exact BK254.out) hb); have n9_ := aM (blk_below (g := gb255) (o := .cells #[.slice A1_0 l1_0.length c1_0, .slice A1_1 l1_1.length c1_1] 25 (0, 0)) (by (with_reducible repeat (first | refine blk_drewN ?_ _ | refine blk_drew ?_ | refine blk_alloc ?_ _)); refine blk_far ?_ NB255_284.out _; (with_reducible repeat (first | refine blk_drewN ?_ _ | refine blk_drew ?_ | refine blk_alloc ?_ _)); refine blk_far ?_ NB255_284.out _; (with_reducible repeat (first | refine blk_drewN ?_ _ | refine blk_drew ?_ | refine blk_alloc ?_ _)); exact BK255.out) hb); have n10_ := aM (blk_below (g := gb277) (o := .cells #[.slice Ao128 t271.length co128, .slice Ao132 t274.length co132] 30 (0, 0)) (by (with_reducible repeat (first | refine blk_drewN ?_ _ | refine blk_drew ?_ | refine blk_alloc ?_ _)); refine blk_far ?_ NB277_284.out _; (with_reducible repeat (first | refine blk_drewN ?_ _ | refine blk_drew ?_ | refine blk_alloc ?_ _)); refine blk_far ?_ NB277_284.out _; (with_reducible repeat (first | refine blk_drewN ?_ _ | refine blk_drew ?_ | refine blk_alloc ?_ _)); exact BK277.out) hb); have n11_ := aM (blk_below (g := gb284) (o := .cells #[.slice Ao136 t278.length co136, .slice Ao141 t281.length co141] 30 (0, 0)) (by (with_reducible repeat (first | refine blk_drewN ?_ _ | refine blk_drew ?_ | refine blk_alloc ?_ _)); refine blk_put (cs := #[.slice Ao136 t278.length co136, .slice none 0 0]) ?_ 1 _ rfl; (with_reducible repeat (first | refine blk_drewN ?_ _ | refine blk_drew ?_ | refine blk_alloc ?_ _)); refine blk_put (cs := #[.slice none 0 0, .slice none 0 0]) ?_ 0 _ rfl; (with_reducible repeat (first | refine blk_drewN ?_ _ | refine blk_drew ?_ | refine blk_alloc ?_ _)); exact BK284.out) hb); have n12_ := aM (below_step (px_h4 HB.out GE254.out GE255.out GE277.out GE284.out) hb); clear HO260; clear HO263; clear HO266; clear HO269; clear HO273; clear HO276; clear HO280; clear HO283; clear BK254; clear BK255; clear BK277; clear BK284; clear HB; have HO260 := n0_; have HO263 := n1_; have HO266 := n2_; have HO269 := n3_; have HO273 := n4_; have HO276 := n5_; have HO280 := n6_; have HO283 := n7_; have BK254 := n8_; have BK255 := n9_; have BK277 := n10_; have BK284 := n11_; have HB := n12_; clear n0_ n1_ n2_ n3_ n4_ n5_ n6_ n7_ n8_ n9_ n10_ n11_ n12_; (try clear hb); (try clear hb2); (try clear hk); (try clear hi)))
      have n0_ := aM (Kd.R_drew HO260.out)
      have n1_ := aM (Kd.R_drew HO263.out)
      have n2_ := aM (Kd.R_drew HO266.out)
      have n3_ := aM (Kd.R_drew HO269.out)
      have n4_ := aM (Kd.R_drew HO273.out)
      have n5_ := aM (Kd.R_drew HO276.out)
      have n6_ := aM (Kd.R_drew HO280.out)
      have n7_ := aM (Kd.R_drew HO283.out)
      have n8_ := aM (blk_drew BK254.out)
      have n9_ := aM (blk_drew BK255.out)
      have n10_ := aM (blk_drew BK277.out)
      have n11_ := aM (blk_drew BK284.out)
      have n12_ := aM (below_drew1 HB.out)
      clear HO260
      clear HO263
      clear HO266
      clear HO269
      clear HO273
      clear HO276
      clear HO280
      clear HO283
      clear BK254
      clear BK255
      clear BK277
      clear BK284
      clear HB
      have HO260 := n0_
      have HO263 := n1_
      have HO266 := n2_
      have HO269 := n3_
      have HO273 := n4_
      have HO276 := n5_
      have HO280 := n6_
      have HO283 := n7_
      have BK254 := n8_
      have BK255 := n9_
      have BK277 := n10_
      have BK284 := n11_
      have HB := n12_
      clear n0_ n1_ n2_ n3_ n4_ n5_ n6_ n7_ n8_ n9_ n10_ n11_ n12_
      refine start_ (n := 5) (S := fun w' => w'.cell? ⟨gb277, 0, none⟩ = some (.slice Ao128 t271.length co128) ∧ w'.cell? ⟨gb277, 1, none⟩ = some (.slice Ao132 t274.length co132) ∧ w'.cell? ⟨gb254, 0, none⟩ = some (.slice A0_0 l0_0.length c0_0) ∧ w'.cell? ⟨gb254, 1, none⟩ = some (.slice A0_1 l0_1.length c0_1)) (ds := []) (px_l 0 5) (by kernel_rfl) rfl rfl ⟨(blk_cell BK277.out 0).trans rfl, (blk_cell BK277.out 1).trans rfl, (blk_cell BK254.out 0).trans rfl, (blk_cell BK254.out 1).trans rfl⟩ (fun hHeld => ?_)
      generalize w143.drew = w144 at HO260 HO263 HO266 HO269 HO273 HO276 HO280 HO283 BK254 BK255 BK277 BK284 HB hHeld ⊢
      refine take_ (i := 0) (N := some 35) (v := ?_) (a' := ?_) (px_l 1 4) rfl rfl (by kernel_rfl) (fun _ _ _ h => h) (Or.inl ⟨by rfl, ?_⟩) hHeld ?_ ?_
      rotate_left
      ·rintro w' ⟨s0, s1, s2, s3⟩
       go_simp
       with_reducible rfl
      rotate_left
      ·simp only [px_q]
       rfl
      refine take_ (i := 1) (N := some 36) (v := ?_) (a' := ?_) (px_l 2 3) rfl rfl (by kernel_rfl) (fun _ _ _ h => h) (Or.inl ⟨by rfl, ?_⟩) hHeld ?_ ?_
      rotate_left
      ·rintro w' ⟨s0, s1, s2, s3⟩
       go_simp
       with_reducible rfl
      rotate_left
      ·simp only [px_q]
       rfl
      refine one_ (i := 2) (N := some 37) (px_l 3 2) rfl rfl (by kernel_rfl) (by decide) (fun K hK => ?_)
      refine goes_ Try.func6 (by kernel_rfl) rfl #[.agg #[.slice A0_0 l0_0.length c0_0, .slice A0_1 l0_1.length c0_1]] (by rfl) rfl rfl px_dn ?_
      with_reducible refine (laws_toDict.calls k _ _ l0_0 _ _ l0_1 t286 t289 _ ?side1 ?side2 ?side3 ?side4 A60.out).mono ?_
      (case side1 => exact px_cV ((Kd.C_below HR0_0.out HB.out)))
      (case side2 => exact HC0_0.out)
      (case side3 => exact px_cV ((Kd.C_below HR0_1.out HB.out)))
      (case side4 => exact HC0_1.out)
      rintro e w145 ⟨v287, v290, rfl, ho0, ho1, hb⟩
      refine ⟨_, rfl, ?_⟩
      have n0_ := aM (Kd.R_elder' (px_rV HO260.out) (Kd.R_base ho0) hb)
      have n1_ := aM (Kd.R_elder' (px_rV HO263.out) (Kd.R_base ho1) hb)
      have n2_ := aM (Kd.R_elder' (px_rV HO266.out) (Kd.R_base ho0) hb)
      have n3_ := aM (Kd.R_elder' (px_rV HO269.out) (Kd.R_base ho1) hb)
      have n4_ := aM (Kd.R_elder' (px_rV HO273.out) (Kd.R_base ho0) hb)
      have n5_ := aM (Kd.R_elder' (px_rV HO276.out) (Kd.R_base ho1) hb)
      have n6_ := aM (Kd.R_elder' (px_rV HO280.out) (Kd.R_base ho0) hb)
      have n7_ := aM (Kd.R_elder' (px_rV HO283.out) (Kd.R_base ho1) hb)
      have n8_ := aM (Kd.R_lower (Kd.R_new' (Kd.R_new' (Kd.R_new' (Kd.R_new' ho0 (Kd.R_lt (px_rV HO260.out))) (Kd.R_lt (px_rV HO266.out))) (Kd.R_lt (px_rV HO273.out))) (Kd.R_lt (px_rV HO280.out))) (below_size (px_h4 HB.out GE254.out GE255.out GE277.out GE284.out)))
      have n9_ := aM (Kd.R_lower (Kd.R_new' (Kd.R_new' (Kd.R_new' (Kd.R_new' ho1 (Kd.R_lt (px_rV HO263.out))) (Kd.R_lt (px_rV HO269.out))) (Kd.R_lt (px_rV HO276.out))) (Kd.R_lt (px_rV HO283.out))) (below_size (px_h4 HB.out GE254.out GE255.out GE277.out GE284.out)))
      have n10_ := aM (blk_below (g := gb254) (o := .cells #[.slice A0_0 l0_0.length c0_0, .slice A0_1 l0_1.length c0_1] 25 (0, 0)) (px_bV BK254.out) hb)
      have n11_ := aM (blk_below (g := gb255) (o := .cells #[.slice A1_0 l1_0.length c1_0, .slice A1_1 l1_1.length c1_1] 25 (0, 0)) (px_bV BK255.out) hb)
      have n12_ := aM (blk_below (g := gb277) (o := .cells #[.slice Ao128 t271.length co128, .slice Ao132 t274.length co132] 30 (0, 0)) (px_bV BK277.out) hb)
      have n13_ := aM (blk_below (g := gb284) (o := .cells #[.slice Ao136 t278.length co136, .slice Ao141 t281.length co141] 30 (0, 0)) (px_bV BK284.out) hb)
      have n14_ := aM (below_step (px_h4 HB.out GE254.out GE255.out GE277.out GE284.out) hb)
      clear HO260
      clear HO263
      clear HO266
      clear HO269
      clear HO273
      clear HO276
      clear HO280
      clear HO283
      clear BK254
      clear BK255
      clear BK277
      clear BK284
      clear HB
      have HO260 := n0_
      have HO263 := n1_
      have HO266 := n2_
      have HO269 := n3_
      have HO273 := n4_
      have HO276 := n5_
      have HO280 := n6_
      have HO283 := n7_
      have HO288 := n8_
      have HO291 := n9_
      have BK254 := n10_
      have BK255 := n11_
      have BK277 := n12_
      have BK284 := n13_
      have HB := n14_
      clear n0_ n1_ n2_ n3_ n4_ n5_ n6_ n7_ n8_ n9_ n10_ n11_ n12_ n13_ n14_
      (try clear hb)
      (try clear hb2)
      (try clear hk)
      (try clear hi)
      (try clear ho0)
      (try clear ho1)
      obtain ⟨Ao146, co146, eo146⟩ := Kd.R_slice HO288.out
      (first | subst eo146 | (injection eo146 with f1_ f2_ f3_; have f4_ := f1_.symm; have f5_ := f3_.symm; clear f1_ f2_ f3_; subst f4_; subst f5_))
      obtain ⟨Ao147, co147, eo147⟩ := Kd.R_slice HO291.out
      (first | subst eo147 | (injection eo147 with f1_ f2_ f3_; have f4_ := f1_.symm; have f5_ := f3_.symm; clear f1_ f2_ f3_; subst f4_; subst f5_))
      refine hK.out _ _ ⟨(blk_cell BK277.out 0).trans rfl, (blk_cell BK277.out 1).trans rfl, (blk_cell BK254.out 0).trans rfl, (blk_cell BK254.out 1).trans rfl⟩ (fun hHeld => ?_)
      clear hK K
      refine norm_ (a' := ?_) ?_ ?_
      rotate_left
      ·show Act.put _ (some 37) _ = _
       simp only [px_q]
       rfl
      refine one_ (i := 3) (N := some 38) (px_l 4 1) rfl rfl (by kernel_rfl) (by decide) (fun K hK => ?_)
      refine goes_ Try.func8 (by kernel_rfl) rfl #[.agg #[.slice Ao128 t271.length co128, .slice Ao132 t274.length co132], .agg #[.slice Ao146 t286.length co146, .slice Ao147 t289.length co147]] (by rfl) rfl rfl px_dn ?_
      with_reducible refine (laws_eqDict.calls k _ _ t271 _ _ t274 _ _ t286 _ _ t289 true _ ?side1 ?side2 ?side3 ?side4 ?side5 ?side6 ?side7 ?side8 A61.out).mono ?_
      (case side1 => exact px_cV ((Kd.R_reads' HO273.out).2.2))
      (case side2 => exact (Kd.R_reads' HO273.out).2.1)
      (case side3 => exact px_cV ((Kd.R_reads' HO276.out).2.2))
      (case side4 => exact (Kd.R_reads' HO276.out).2.1)
      (case side5 => exact px_cV ((Kd.R_reads' HO288.out).2.2))
      (case side6 => exact (Kd.R_reads' HO288.out).2.1)
      (case side7 => exact px_cV ((Kd.R_reads' HO291.out).2.2))
      (case side8 => exact (Kd.R_reads' HO291.out).2.1)
      rintro e w148 ⟨rfl, hb⟩
      refine ⟨_, rfl, ?_⟩
      have n0_ := aM (Kd.R_below (px_rV HO260.out) hb)
      have n1_ := aM (Kd.R_below (px_rV HO263.out) hb)
      have n2_ := aM (Kd.R_below (px_rV HO266.out) hb)
      have n3_ := aM (Kd.R_below (px_rV HO269.out) hb)
      have n4_ := aM (Kd.R_below (px_rV HO273.out) hb)
      have n5_ := aM (Kd.R_below (px_rV HO276.out) hb)
      have n6_ := aM (Kd.R_below (px_rV HO280.out) hb)
      have n7_ := aM (Kd.R_below (px_rV HO283.out) hb)
      have n8_ := aM (Kd.R_below (px_rV HO288.out) hb)
      have n9_ := aM (Kd.R_below (px_rV HO291.out) hb)
      have n10_ := aM (blk_below (g := gb254) (o := .cells #[.slice A0_0 l0_0.length c0_0, .slice A0_1 l0_1.length c0_1] 25 (0, 0)) (px_bV BK254.out) hb)
      have n11_ := aM (blk_below (g := gb255) (o := .cells #[.slice A1_0 l1_0.length c1_0, .slice A1_1 l1_1.length c1_1] 25 (0, 0)) (px_bV BK255.out) hb)
      have n12_ := aM (blk_below (g := gb277) (o := .cells #[.slice Ao128 t271.length co128, .slice Ao132 t274.length co132] 30 (0, 0)) (px_bV BK277.out) hb)
      have n13_ := aM (blk_below (g := gb284) (o := .cells #[.slice Ao136 t278.length co136, .slice Ao141 t281.length co141] 30 (0, 0)) (px_bV BK284.out) hb)
      have n14_ := aM (below_step (px_h4 HB.out GE254.out GE255.out GE277.out GE284.out) hb)
      clear HO260
      clear HO263
      clear HO266
      clear HO269
      clear HO273
      clear HO276
      clear HO280
      clear HO283
      clear HO288
      clear HO291
      clear BK254
      clear BK255
      clear BK277
      clear BK284
      clear HB
      have HO260 := n0_
      have HO263 := n1_
      have HO266 := n2_
      have HO269 := n3_
      have HO273 := n4_
      have HO276 := n5_
      have HO280 := n6_
      have HO283 := n7_
      have HO288 := n8_
      have HO291 := n9_
      have BK254 := n10_
      have BK255 := n11_
      have BK277 := n12_
      have BK284 := n13_
      have HB := n14_
      clear n0_ n1_ n2_ n3_ n4_ n5_ n6_ n7_ n8_ n9_ n10_ n11_ n12_ n13_ n14_
      (try clear hb)
      (try clear hb2)
      (try clear hk)
      (try clear hi)
      refine hK.out _ _ ⟨(blk_cell BK277.out 0).trans rfl, (blk_cell BK277.out 1).trans rfl, (blk_cell BK254.out 0).trans rfl, (blk_cell BK254.out 1).trans rfl⟩ (fun hHeld => ?_)
      clear hK K
      refine norm_ (a' := ?_) ?_ ?_
      rotate_left
      ·show Act.put _ (some 38) _ = _
       simp only [px_q]
       rfl
      refine pure_ (i := 4) (N := some 39) (v := ?_) (a' := ?_) (px_l 5 0) rfl rfl (by kernel_rfl) (fun _ _ _ h => h) (Or.inl ⟨by rfl, ?_⟩) ?_ ?_
      rotate_left
      ·intro w'
       go_simp
       with_reducible rfl
      rotate_left
      ·simp only [px_q]
       rfl
      refine done_ (by kernel_rfl) ?_
      try go_wp2
      have n0_ := aM (Kd.R_drew HO260.out)
      have n1_ := aM (Kd.R_drew HO263.out)
      have n2_ := aM (Kd.R_drew HO266.out)
      have n3_ := aM (Kd.R_drew HO269.out)
      have n4_ := aM (Kd.R_drew HO273.out)
      have n5_ := aM (Kd.R_drew HO276.out)
      have n6_ := aM (Kd.R_drew HO280.out)
      have n7_ := aM (Kd.R_drew HO283.out)
      have n8_ := aM (Kd.R_drew HO288.out)
      have n9_ := aM (Kd.R_drew HO291.out)
      have n10_ := aM (blk_drew BK254.out)
      have n11_ := aM (blk_drew BK255.out)
      have n12_ := aM (blk_drew BK277.out)
      have n13_ := aM (blk_drew BK284.out)
      have n14_ := aM (below_drew1 HB.out)
      clear HO260
      clear HO263
      clear HO266
      clear HO269
      clear HO273
      clear HO276
      clear HO280
      clear HO283
      clear HO288
      clear HO291
      clear BK254
      clear BK255
      clear BK277
      clear BK284
      clear HB
      have HO260 := n0_
      have HO263 := n1_
      have HO266 := n2_
      have HO269 := n3_
      have HO273 := n4_
      have HO276 := n5_
      have HO280 := n6_
      have HO283 := n7_
      have HO288 := n8_
      have HO291 := n9_
      have BK254 := n10_
      have BK255 := n11_
      have BK277 := n12_
      have BK284 := n13_
      have HB := n14_
      clear n0_ n1_ n2_ n3_ n4_ n5_ n6_ n7_ n8_ n9_ n10_ n11_ n12_ n13_ n14_
      refine start_ (n := 5) (S := fun w' => w'.cell? ⟨gb284, 0, none⟩ = some (.slice Ao136 t278.length co136) ∧ w'.cell? ⟨gb284, 1, none⟩ = some (.slice Ao141 t281.length co141) ∧ w'.cell? ⟨gb255, 0, none⟩ = some (.slice A1_0 l1_0.length c1_0) ∧ w'.cell? ⟨gb255, 1, none⟩ = some (.slice A1_1 l1_1.length c1_1)) (ds := []) (px_l 0 5) (by kernel_rfl) rfl rfl ⟨(blk_cell BK284.out 0).trans rfl, (blk_cell BK284.out 1).trans rfl, (blk_cell BK255.out 0).trans rfl, (blk_cell BK255.out 1).trans rfl⟩ (fun hHeld => ?_)
      generalize w148.drew = w149 at HO260 HO263 HO266 HO269 HO273 HO276 HO280 HO283 HO288 HO291 BK254 BK255 BK277 BK284 HB hHeld ⊢
      refine take_ (i := 0) (N := some 40) (v := ?_) (a' := ?_) (px_l 1 4) rfl rfl (by kernel_rfl) (fun _ _ _ h => h) (Or.inl ⟨by rfl, ?_⟩) hHeld ?_ ?_
      rotate_left
      ·rintro w' ⟨s0, s1, s2, s3⟩
       go_simp
       with_reducible rfl
      rotate_left
      ·simp only [px_q]
       rfl
      refine take_ (i := 1) (N := some 41) (v := ?_) (a' := ?_) (px_l 2 3) rfl rfl (by kernel_rfl) (fun _ _ _ h => h) (Or.inl ⟨by rfl, ?_⟩) hHeld ?_ ?_
      rotate_left
      ·rintro w' ⟨s0, s1, s2, s3⟩
       go_simp
       with_reducible rfl
      rotate_left
      ·simp only [px_q]
       rfl
      refine one_ (i := 2) (N := some 42) (px_l 3 2) rfl rfl (by kernel_rfl) (by decide) (fun K hK => ?_)
      refine goes_ Try.func6 (by kernel_rfl) rfl #[.agg #[.slice A1_0 l1_0.length c1_0, .slice A1_1 l1_1.length c1_1]] (by rfl) rfl rfl px_dn ?_
      with_reducible refine (laws_toDict.calls k _ _ l1_0 _ _ l1_1 t293 t296 _ ?side1 ?side2 ?side3 ?side4 A63.out).mono ?_
      (case side1 => exact px_cV ((Kd.C_below HR1_0.out HB.out)))
      (case side2 => exact HC1_0.out)
      (case side3 => exact px_cV ((Kd.C_below HR1_1.out HB.out)))
      (case side4 => exact HC1_1.out)
      rintro e w150 ⟨v294, v297, rfl, ho0, ho1, hb⟩
      refine ⟨_, rfl, ?_⟩
      have n0_ := aM (Kd.R_elder' (px_rV HO260.out) (Kd.R_base ho0) hb)
      have n1_ := aM (Kd.R_elder' (px_rV HO263.out) (Kd.R_base ho1) hb)
      have n2_ := aM (Kd.R_elder' (px_rV HO266.out) (Kd.R_base ho0) hb)
      have n3_ := aM (Kd.R_elder' (px_rV HO269.out) (Kd.R_base ho1) hb)
      have n4_ := aM (Kd.R_elder' (px_rV HO273.out) (Kd.R_base ho0) hb)
      have n5_ := aM (Kd.R_elder' (px_rV HO276.out) (Kd.R_base ho1) hb)
      have n6_ := aM (Kd.R_elder' (px_rV HO280.out) (Kd.R_base ho0) hb)
      have n7_ := aM (Kd.R_elder' (px_rV HO283.out) (Kd.R_base ho1) hb)
      have n8_ := aM (Kd.R_elder' (px_rV HO288.out) (Kd.R_base ho0) hb)
      have n9_ := aM (Kd.R_elder' (px_rV HO291.out) (Kd.R_base ho1) hb)
      have n10_ := aM (Kd.R_lower (Kd.R_new' (Kd.R_new' (Kd.R_new' (Kd.R_new' (Kd.R_new' ho0 (Kd.R_lt (px_rV HO260.out))) (Kd.R_lt (px_rV HO266.out))) (Kd.R_lt (px_rV HO273.out))) (Kd.R_lt (px_rV HO280.out))) (Kd.R_lt (px_rV HO288.out))) (below_size (px_h4 HB.out GE254.out GE255.out GE277.out GE284.out)))
      have n11_ := aM (Kd.R_lower (Kd.R_new' (Kd.R_new' (Kd.R_new' (Kd.R_new' (Kd.R_new' ho1 (Kd.R_lt (px_rV HO263.out))) (Kd.R_lt (px_rV HO269.out))) (Kd.R_lt (px_rV HO276.out))) (Kd.R_lt (px_rV HO283.out))) (Kd.R_lt (px_rV HO291.out))) (below_size (px_h4 HB.out GE254.out GE255.out GE277.out GE284.out)))
      have n12_ := aM (blk_below (g := gb254) (o := .cells #[.slice A0_0 l0_0.length c0_0, .slice A0_1 l0_1.length c0_1] 25 (0, 0)) (px_bV BK254.out) hb)
      have n13_ := aM (blk_below (g := gb255) (o := .cells #[.slice A1_0 l1_0.length c1_0, .slice A1_1 l1_1.length c1_1] 25 (0, 0)) (px_bV BK255.out) hb)
      have n14_ := aM (blk_below (g := gb277) (o := .cells #[.slice Ao128 t271.length co128, .slice Ao132 t274.length co132] 30 (0, 0)) (px_bV BK277.out) hb)
      have n15_ := aM (blk_below (g := gb284) (o := .cells #[.slice Ao136 t278.length co136, .slice Ao141 t281.length co141] 30 (0, 0)) (px_bV BK284.out) hb)
      have n16_ := aM (below_step (px_h4 HB.out GE254.out GE255.out GE277.out GE284.out) hb)
      clear HO260
      clear HO263
      clear HO266
      clear HO269
      clear HO273
      clear HO276
      clear HO280
      clear HO283
      clear HO288
      clear HO291
      clear BK254
      clear BK255
      clear BK277
      clear BK284
      clear HB
      have HO260 := n0_
      have HO263 := n1_
      have HO266 := n2_
      have HO269 := n3_
      have HO273 := n4_
      have HO276 := n5_
      have HO280 := n6_
      have HO283 := n7_
      have HO288 := n8_
      have HO291 := n9_
      have HO295 := n10_
      have HO298 := n11_
      have BK254 := n12_
      have BK255 := n13_
      have BK277 := n14_
      have BK284 := n15_
      have HB := n16_
      clear n0_ n1_ n2_ n3_ n4_ n5_ n6_ n7_ n8_ n9_ n10_ n11_ n12_ n13_ n14_ n15_ n16_
      (try clear hb)
      (try clear hb2)
      (try clear hk)
      (try clear hi)
      (try clear ho0)
      (try clear ho1)
      obtain ⟨Ao151, co151, eo151⟩ := Kd.R_slice HO295.out
      (first | subst eo151 | (injection eo151 with f1_ f2_ f3_; have f4_ := f1_.symm; have f5_ := f3_.symm; clear f1_ f2_ f3_; subst f4_; subst f5_))
      obtain ⟨Ao152, co152, eo152⟩ := Kd.R_slice HO298.out
      (first | subst eo152 | (injection eo152 with f1_ f2_ f3_; have f4_ := f1_.symm; have f5_ := f3_.symm; clear f1_ f2_ f3_; subst f4_; subst f5_))
      refine hK.out _ _ ⟨(blk_cell BK284.out 0).trans rfl, (blk_cell BK284.out 1).trans rfl, (blk_cell BK255.out 0).trans rfl, (blk_cell BK255.out 1).trans rfl⟩ (fun hHeld => ?_)
      clear hK K
      refine norm_ (a' := ?_) ?_ ?_
      rotate_left
      ·show Act.put _ (some 42) _ = _
       simp only [px_q]
       rfl
      refine one_ (i := 3) (N := some 43) (px_l 4 1) rfl rfl (by kernel_rfl) (by decide) (fun K hK => ?_)
      refine goes_ Try.func8 (by kernel_rfl) rfl #[.agg #[.slice Ao136 t278.length co136, .slice Ao141 t281.length co141], .agg #[.slice Ao151 t293.length co151, .slice Ao152 t296.length co152]] (by rfl) rfl rfl px_dn ?_
      with_reducible refine (laws_eqDict.calls k _ _ t278 _ _ t281 _ _ t293 _ _ t296 false _ ?side1 ?side2 ?side3 ?side4 ?side5 ?side6 ?side7 ?side8 A64.out).mono ?_
      (case side1 => exact px_cV ((Kd.R_reads' HO280.out).2.2))
      (case side2 => exact (Kd.R_reads' HO280.out).2.1)
      (case side3 => exact px_cV ((Kd.R_reads' HO283.out).2.2))
      (case side4 => exact (Kd.R_reads' HO283.out).2.1)
      (case side5 => exact px_cV ((Kd.R_reads' HO295.out).2.2))
      (case side6 => exact (Kd.R_reads' HO295.out).2.1)
      (case side7 => exact px_cV ((Kd.R_reads' HO298.out).2.2))
      (case side8 => exact (Kd.R_reads' HO298.out).2.1)
      rintro e w153 ⟨rfl, hb⟩
      refine ⟨_, rfl, ?_⟩
      have n0_ := aM (Kd.R_below (px_rV HO260.out) hb)
      have n1_ := aM (Kd.R_below (px_rV HO263.out) hb)
      have n2_ := aM (Kd.R_below (px_rV HO266.out) hb)
      have n3_ := aM (Kd.R_below (px_rV HO269.out) hb)
      have n4_ := aM (Kd.R_below (px_rV HO273.out) hb)
      have n5_ := aM (Kd.R_below (px_rV HO276.out) hb)
      have n6_ := aM (Kd.R_below (px_rV HO280.out) hb)
      have n7_ := aM (Kd.R_below (px_rV HO283.out) hb)
      have n8_ := aM (Kd.R_below (px_rV HO288.out) hb)
      have n9_ := aM (Kd.R_below (px_rV HO291.out) hb)
      have n10_ := aM (Kd.R_below (px_rV HO295.out) hb)
      have n11_ := aM (Kd.R_below (px_rV HO298.out) hb)
      have n12_ := aM (blk_below (g := gb254) (o := .cells #[.slice A0_0 l0_0.length c0_0, .slice A0_1 l0_1.length c0_1] 25 (0, 0)) (px_bV BK254.out) hb)
      have n13_ := aM (blk_below (g := gb255) (o := .cells #[.slice A1_0 l1_0.length c1_0, .slice A1_1 l1_1.length c1_1] 25 (0, 0)) (px_bV BK255.out) hb)
      have n14_ := aM (blk_below (g := gb277) (o := .cells #[.slice Ao128 t271.length co128, .slice Ao132 t274.length co132] 30 (0, 0)) (px_bV BK277.out) hb)
      have n15_ := aM (blk_below (g := gb284) (o := .cells #[.slice Ao136 t278.length co136, .slice Ao141 t281.length co141] 30 (0, 0)) (px_bV BK284.out) hb)
      have n16_ := aM (below_step (px_h4 HB.out GE254.out GE255.out GE277.out GE284.out) hb)
      clear HO260
      clear HO263
      clear HO266
      clear HO269
      clear HO273
      clear HO276
      clear HO280
      clear HO283
      clear HO288
      clear HO291
      clear HO295
      clear HO298
      clear BK254
      clear BK255
      clear BK277
      clear BK284
      clear HB
      have HO260 := n0_
      have HO263 := n1_
      have HO266 := n2_
      have HO269 := n3_
      have HO273 := n4_
      have HO276 := n5_
      have HO280 := n6_
      have HO283 := n7_
      have HO288 := n8_
      have HO291 := n9_
      have HO295 := n10_
      have HO298 := n11_
      have BK254 := n12_
      have BK255 := n13_
      have BK277 := n14_
      have BK284 := n15_
      have HB := n16_
      clear n0_ n1_ n2_ n3_ n4_ n5_ n6_ n7_ n8_ n9_ n10_ n11_ n12_ n13_ n14_ n15_ n16_
      (try clear hb)
      (try clear hb2)
      (try clear hk)
      (try clear hi)
      refine hK.out _ _ ⟨(blk_cell BK284.out 0).trans rfl, (blk_cell BK284.out 1).trans rfl, (blk_cell BK255.out 0).trans rfl, (blk_cell BK255.out 1).trans rfl⟩ (fun hHeld => ?_)
      clear hK K
      refine norm_ (a' := ?_) ?_ ?_
      rotate_left
      ·show Act.put _ (some 43) _ = _
       simp only [px_q]
       rfl
      refine pure_ (i := 4) (N := some 44) (v := ?_) (a' := ?_) (px_l 5 0) rfl rfl (by kernel_rfl) (fun _ _ _ h => h) (Or.inl ⟨by rfl, ?_⟩) ?_ ?_
      rotate_left
      ·intro w'
       go_simp
       with_reducible rfl
      rotate_left
      ·simp only [px_q]
       rfl
      refine done_ (by kernel_rfl) ?_
      try go_wp2
      go_ret
      exact ⟨by first | rfl | (simp [errW_none, errW_some] <;> rfl) | (simp [*, errW_none, errW_some] <;> rfl), px_h4 HB.out GE254.out GE255.out GE277.out GE284.out⟩
    ·replace c62 := Bool.eq_false_iff.mpr c62
     subst c62
     have H1 : (some false) = some r := by rw [if_neg (show ¬ (false = true) by decide)] at H; exact H
     clear H
     have H := H1
     clear H1
     obtain rfl := Option.some.inj H
     go_enter Try.func3, Try.ntmps3
     try go_wp2_with (first | ((with_reducible refine gate_dst (N := 2) rfl ?_); refine box_event ?hg (N := 2) ?hd (cs := #[.slice A0_0 l0_0.length c0_0, .slice A0_1 l0_1.length c0_1]) (t := 25) ?hr ?_; (case hd => rfl); (case hg => rfl); (case hr => first | (go_simp; done) | (go_simp; rfl)); intro gb254 hg w154 hbox hb; have n0_ := aM (below_step (px_h0 HB.out) hb); have n1_ := aM (hbox); have n2_ := aM ((by rw [hg]; exact (below_size (px_h0 HB.out)) : w.heap.size ≤ gb254)); have n3_ := aM ((by rw [hg]; exact (below_size (px_h0 HB.out)) : w.heap.size ≤ gb254)); clear HB; have HB := n0_; have BK254 := n1_; have GW254 := n2_; have GE254 := n3_; clear n0_ n1_ n2_ n3_; clear hb hbox hg) | ((with_reducible refine gate_dst (N := 3) rfl ?_); refine box_event ?hg (N := 3) ?hd (cs := #[.slice A1_0 l1_0.length c1_0, .slice A1_1 l1_1.length c1_1]) (t := 25) ?hr ?_; (case hd => rfl); (case hg => rfl); (case hr => first | (go_simp; done) | (go_simp; rfl)); intro gb255 hg w155 hbox hb; have n0_ := aM (blk_below (g := gb254) (o := .cells #[.slice A0_0 l0_0.length c0_0, .slice A0_1 l0_1.length c0_1] 25 (0, 0)) (px_bV BK254.out) hb); have n1_ := aM (below_step (px_h1 HB.out GE254.out) hb); have n2_ := aM (hbox); have n3_ := aM ((by rw [hg]; exact (below_size (px_h1 HB.out GE254.out)) : w.heap.size ≤ gb255)); have n4_ := aM ((by rw [hg]; exact (below_size (px_h1 HB.out GE254.out)) : w.heap.size ≤ gb255)); have n5_ := aM ((by rw [hg]; exact Nat.ne_of_lt (blk_lt (g := gb254) (o := .cells #[.slice A0_0 l0_0.length c0_0, .slice A0_1 l0_1.length c0_1] 25 (0, 0)) (px_bV BK254.out)) : gb254 ≠ gb255)); have n6_ := aM ((by rw [hg]; exact Nat.ne_of_gt (blk_lt (g := gb254) (o := .cells #[.slice A0_0 l0_0.length c0_0, .slice A0_1 l0_1.length c0_1] 25 (0, 0)) (px_bV BK254.out)) : gb255 ≠ gb254)); clear BK254; clear HB; have BK254 := n0_; have HB := n1_; have BK255 := n2_; have GW255 := n3_; have GE255 := n4_; have NB254_255 := n5_; have NB255_254 := n6_; clear n0_ n1_ n2_ n3_ n4_ n5_ n6_; clear hb hbox hg; have hnb156 := NB254_255.out; have hnc156 := NB255_254.out; have hcz157_0 : w155.cell? ⟨gb254, 0, none⟩ = some (.slice A0_0 l0_0.length c0_0) := (blk_cell BK254.out 0).trans rfl; have hcz157_1 : w155.cell? ⟨gb254, 1, none⟩ = some (.slice A0_1 l0_1.length c0_1) := (blk_cell BK254.out 1).trans rfl; have hfz157_0 := blk_frozen BK254.out 0; have hfz157_1 := blk_frozen BK254.out 1) | ((with_reducible refine gate_callee (f := 4) rfl ?_); refine goesL_ (some 12) rfl rfl Try.func4 (by kernel_rfl) rfl #[.agg #[.slice A0_0 l0_0.length c0_0, .slice A0_1 l0_1.length c0_1], .int .i64 1048576] rfl px_dn ?_; (with_reducible refine (laws_szDict.calls k _ _ l0_0 _ _ l0_1 1048576 t256 _ ?side1 ?side2 ?side3 ?side4 A3.out).mono ?_); (case side1 => exact px_cV ((Kd.C_below HR0_0.out HB.out))); (case side2 => exact HC0_0.out); (case side3 => exact px_cV ((Kd.C_below HR0_1.out HB.out))); (case side4 => exact HC0_1.out); rintro e w158 ⟨rfl, hb⟩; refine ⟨_, rfl, ?_⟩; have n0_ := aM (blk_below (g := gb254) (o := .cells #[.slice A0_0 l0_0.length c0_0, .slice A0_1 l0_1.length c0_1] 25 (0, 0)) (px_bV BK254.out) hb); have n1_ := aM (blk_below (g := gb255) (o := .cells #[.slice A1_0 l1_0.length c1_0, .slice A1_1 l1_1.length c1_1] 25 (0, 0)) (px_bV BK255.out) hb); have n2_ := aM (below_step (px_h2 HB.out GE254.out GE255.out) hb); clear BK254; clear BK255; clear HB; have BK254 := n0_; have BK255 := n1_; have HB := n2_; clear n0_ n1_ n2_; (try clear hb); (try clear hb2); (try clear hk); (try clear hi); have hcz159_0 : w158.cell? ⟨gb255, 0, none⟩ = some (.slice A1_0 l1_0.length c1_0) := (blk_cell BK255.out 0).trans rfl; have hcz159_1 : w158.cell? ⟨gb255, 1, none⟩ = some (.slice A1_1 l1_1.length c1_1) := (blk_cell BK255.out 1).trans rfl; have hfz159_0 := blk_frozen BK255.out 0; have hfz159_1 := blk_frozen BK255.out 1) | ((with_reducible refine gate_callee (f := 4) rfl ?_); refine goesL_ (some 17) rfl rfl Try.func4 (by kernel_rfl) rfl #[.agg #[.slice A1_0 l1_0.length c1_0, .slice A1_1 l1_1.length c1_1], .int .i64 t256] rfl px_dn ?_; (with_reducible refine (laws_szDict.calls k _ _ l1_0 _ _ l1_1 t256 t257 _ ?side1 ?side2 ?side3 ?side4 A10.out).mono ?_); (case side1 => exact px_cV ((Kd.C_below HR1_0.out HB.out))); (case side2 => exact HC1_0.out); (case side3 => exact px_cV ((Kd.C_below HR1_1.out HB.out))); (case side4 => exact HC1_1.out); rintro e w160 ⟨rfl, hb⟩; refine ⟨_, rfl, ?_⟩; have n0_ := aM (blk_below (g := gb254) (o := .cells #[.slice A0_0 l0_0.length c0_0, .slice A0_1 l0_1.length c0_1] 25 (0, 0)) (px_bV BK254.out) hb); have n1_ := aM (blk_below (g := gb255) (o := .cells #[.slice A1_0 l1_0.length c1_0, .slice A1_1 l1_1.length c1_1] 25 (0, 0)) (px_bV BK255.out) hb); have n2_ := aM (below_step (px_h2 HB.out GE254.out GE255.out) hb); clear BK254; clear BK255; clear HB; have BK254 := n0_; have BK255 := n1_; have HB := n2_; clear n0_ n1_ n2_; (try clear hb); (try clear hb2); (try clear hk); (try clear hi)))
     have n0_ := aM (blk_drew BK254.out)
     have n1_ := aM (blk_drew BK255.out)
     have n2_ := aM (below_drew1 HB.out)
     clear BK254
     clear BK255
     clear HB
     have BK254 := n0_
     have BK255 := n1_
     have HB := n2_
     clear n0_ n1_ n2_
     refine start_ (n := 6) (S := fun w' => w'.cell? ⟨gb254, 0, none⟩ = some (.slice A0_0 l0_0.length c0_0) ∧ w'.cell? ⟨gb254, 1, none⟩ = some (.slice A0_1 l0_1.length c0_1) ∧ w'.cell? ⟨gb255, 0, none⟩ = some (.slice A1_0 l1_0.length c1_0) ∧ w'.cell? ⟨gb255, 1, none⟩ = some (.slice A1_1 l1_1.length c1_1)) (ds := []) (px_l 0 6) (by kernel_rfl) rfl rfl ⟨(blk_cell BK254.out 0).trans rfl, (blk_cell BK254.out 1).trans rfl, (blk_cell BK255.out 0).trans rfl, (blk_cell BK255.out 1).trans rfl⟩ (fun hHeld => ?_)
     generalize w160.drew = w161 at BK254 BK255 HB hHeld ⊢
     refine take_ (i := 0) (N := some 20) (v := ?_) (a' := ?_) (px_l 1 5) rfl rfl (by kernel_rfl) (fun _ _ _ h => h) (Or.inl ⟨by rfl, ?_⟩) hHeld ?_ ?_
     rotate_left
     ·rintro w' ⟨s0, s1, s2, s3⟩
      go_simp
      with_reducible rfl
     rotate_left
     ·simp only [px_q]
      rfl
     refine take_ (i := 2) (N := some 22) (v := ?_) (a' := ?_) #[true, false, true, false, false, false] rfl rfl (by kernel_rfl) (fun _ _ _ h => h) (Or.inl ⟨by rfl, ?_⟩) hHeld ?_ ?_
     rotate_left
     ·rintro w' ⟨s0, s1, s2, s3⟩
      go_simp
      with_reducible rfl
     rotate_left
     ·simp only [px_q]
      rfl
     refine one_ (i := 1) (N := some 21) (px_l 3 3) rfl rfl (by kernel_rfl) (by decide) (fun K hK => ?_)
     refine goes_ Try.func6 (by kernel_rfl) rfl #[.agg #[.slice A0_0 l0_0.length c0_0, .slice A0_1 l0_1.length c0_1]] (by rfl) rfl rfl px_dn ?_
     with_reducible refine (laws_toDict.calls k _ _ l0_0 _ _ l0_1 t258 t261 _ ?side1 ?side2 ?side3 ?side4 A19.out).mono ?_
     (case side1 => exact px_cV ((Kd.C_below HR0_0.out HB.out)))
     (case side2 => exact HC0_0.out)
     (case side3 => exact px_cV ((Kd.C_below HR0_1.out HB.out)))
     (case side4 => exact HC0_1.out)
     rintro e w162 ⟨v259, v262, rfl, ho0, ho1, hb⟩
     refine ⟨_, rfl, ?_⟩
     have n0_ := aM (Kd.R_lower ho0 (below_size (px_h2 HB.out GE254.out GE255.out)))
     have n1_ := aM (Kd.R_lower ho1 (below_size (px_h2 HB.out GE254.out GE255.out)))
     have n2_ := aM (blk_below (g := gb254) (o := .cells #[.slice A0_0 l0_0.length c0_0, .slice A0_1 l0_1.length c0_1] 25 (0, 0)) (px_bV BK254.out) hb)
     have n3_ := aM (blk_below (g := gb255) (o := .cells #[.slice A1_0 l1_0.length c1_0, .slice A1_1 l1_1.length c1_1] 25 (0, 0)) (px_bV BK255.out) hb)
     have n4_ := aM (below_step (px_h2 HB.out GE254.out GE255.out) hb)
     clear BK254
     clear BK255
     clear HB
     have HO260 := n0_
     have HO263 := n1_
     have BK254 := n2_
     have BK255 := n3_
     have HB := n4_
     clear n0_ n1_ n2_ n3_ n4_
     (try clear hb)
     (try clear hb2)
     (try clear hk)
     (try clear hi)
     (try clear ho0)
     (try clear ho1)
     refine hK.out _ _ ⟨(blk_cell BK254.out 0).trans rfl, (blk_cell BK254.out 1).trans rfl, (blk_cell BK255.out 0).trans rfl, (blk_cell BK255.out 1).trans rfl⟩ (fun hHeld => ?_)
     clear hK K
     refine norm_ (a' := ?_) ?_ ?_
     rotate_left
     ·show Act.put _ (some 21) _ = _
      simp only [px_q]
      rfl
     refine one_ (i := 3) (N := some 23) (px_l 4 2) rfl rfl (by kernel_rfl) (by decide) (fun K hK => ?_)
     refine goes_ Try.func6 (by kernel_rfl) rfl #[.agg #[.slice A1_0 l1_0.length c1_0, .slice A1_1 l1_1.length c1_1]] (by rfl) rfl rfl px_dn ?_
     with_reducible refine (laws_toDict.calls k _ _ l1_0 _ _ l1_1 t264 t267 _ ?side1 ?side2 ?side3 ?side4 A20.out).mono ?_
     (case side1 => exact px_cV ((Kd.C_below HR1_0.out HB.out)))
     (case side2 => exact HC1_0.out)
     (case side3 => exact px_cV ((Kd.C_below HR1_1.out HB.out)))
     (case side4 => exact HC1_1.out)
     rintro e w163 ⟨v265, v268, rfl, ho0, ho1, hb⟩
     refine ⟨_, rfl, ?_⟩
     have n0_ := aM (Kd.R_elder' (px_rV HO260.out) (Kd.R_base ho0) hb)
     have n1_ := aM (Kd.R_elder' (px_rV HO263.out) (Kd.R_base ho1) hb)
     have n2_ := aM (Kd.R_lower (Kd.R_new' ho0 (Kd.R_lt (px_rV HO260.out))) (below_size (px_h2 HB.out GE254.out GE255.out)))
     have n3_ := aM (Kd.R_lower (Kd.R_new' ho1 (Kd.R_lt (px_rV HO263.out))) (below_size (px_h2 HB.out GE254.out GE255.out)))
     have n4_ := aM (blk_below (g := gb254) (o := .cells #[.slice A0_0 l0_0.length c0_0, .slice A0_1 l0_1.length c0_1] 25 (0, 0)) (px_bV BK254.out) hb)
     have n5_ := aM (blk_below (g := gb255) (o := .cells #[.slice A1_0 l1_0.length c1_0, .slice A1_1 l1_1.length c1_1] 25 (0, 0)) (px_bV BK255.out) hb)
     have n6_ := aM (below_step (px_h2 HB.out GE254.out GE255.out) hb)
     clear HO260
     clear HO263
     clear BK254
     clear BK255
     clear HB
     have HO260 := n0_
     have HO263 := n1_
     have HO266 := n2_
     have HO269 := n3_
     have BK254 := n4_
     have BK255 := n5_
     have HB := n6_
     clear n0_ n1_ n2_ n3_ n4_ n5_ n6_
     (try clear hb)
     (try clear hb2)
     (try clear hk)
     (try clear hi)
     (try clear ho0)
     (try clear ho1)
     obtain ⟨Ao164, co164, eo164⟩ := Kd.R_slice HO260.out
     (first | subst eo164 | (injection eo164 with f1_ f2_ f3_; have f4_ := f1_.symm; have f5_ := f3_.symm; clear f1_ f2_ f3_; subst f4_; subst f5_))
     obtain ⟨Ao165, co165, eo165⟩ := Kd.R_slice HO263.out
     (first | subst eo165 | (injection eo165 with f1_ f2_ f3_; have f4_ := f1_.symm; have f5_ := f3_.symm; clear f1_ f2_ f3_; subst f4_; subst f5_))
     obtain ⟨Ao166, co166, eo166⟩ := Kd.R_slice HO266.out
     (first | subst eo166 | (injection eo166 with f1_ f2_ f3_; have f4_ := f1_.symm; have f5_ := f3_.symm; clear f1_ f2_ f3_; subst f4_; subst f5_))
     obtain ⟨Ao167, co167, eo167⟩ := Kd.R_slice HO269.out
     (first | subst eo167 | (injection eo167 with f1_ f2_ f3_; have f4_ := f1_.symm; have f5_ := f3_.symm; clear f1_ f2_ f3_; subst f4_; subst f5_))
     refine hK.out _ _ ⟨(blk_cell BK254.out 0).trans rfl, (blk_cell BK254.out 1).trans rfl, (blk_cell BK255.out 0).trans rfl, (blk_cell BK255.out 1).trans rfl⟩ (fun hHeld => ?_)
     clear hK K
     refine norm_ (a' := ?_) ?_ ?_
     rotate_left
     ·show Act.put _ (some 23) _ = _
      simp only [px_q]
      rfl
     refine one_ (i := 4) (N := some 24) (px_l 5 1) rfl rfl (by kernel_rfl) (by decide) (fun K hK => ?_)
     refine goes_ Try.func5 (by kernel_rfl) rfl #[.agg #[.slice Ao164 t258.length co164, .slice Ao165 t261.length co165], .agg #[.slice Ao166 t264.length co166, .slice Ao167 t267.length co167]] (by rfl) rfl rfl px_dn ?_
     with_reducible refine (spec_DictSame.calls k _ _ t258 _ _ t261 _ _ t264 _ _ t267 t270 _ ?side1 ?side2 ?side3 ?side4 ?side5 ?side6 ?side7 ?side8 A21.out).mono ?_
     (case side1 => exact px_cV ((Kd.R_reads' HO260.out).2.2))
     (case side2 => exact (Kd.R_reads' HO260.out).2.1)
     (case side3 => exact px_cV ((Kd.R_reads' HO263.out).2.2))
     (case side4 => exact (Kd.R_reads' HO263.out).2.1)
     (case side5 => exact px_cV ((Kd.R_reads' HO266.out).2.2))
     (case side6 => exact (Kd.R_reads' HO266.out).2.1)
     (case side7 => exact px_cV ((Kd.R_reads' HO269.out).2.2))
     (case side8 => exact (Kd.R_reads' HO269.out).2.1)
     rintro e w168 ⟨rfl, hb⟩
     refine ⟨_, rfl, ?_⟩
     have n0_ := aM (Kd.R_below (px_rV HO260.out) hb)
     have n1_ := aM (Kd.R_below (px_rV HO263.out) hb)
     have n2_ := aM (Kd.R_below (px_rV HO266.out) hb)
     have n3_ := aM (Kd.R_below (px_rV HO269.out) hb)
     have n4_ := aM (blk_below (g := gb254) (o := .cells #[.slice A0_0 l0_0.length c0_0, .slice A0_1 l0_1.length c0_1] 25 (0, 0)) (px_bV BK254.out) hb)
     have n5_ := aM (blk_below (g := gb255) (o := .cells #[.slice A1_0 l1_0.length c1_0, .slice A1_1 l1_1.length c1_1] 25 (0, 0)) (px_bV BK255.out) hb)
     have n6_ := aM (below_step (px_h2 HB.out GE254.out GE255.out) hb)
     clear HO260
     clear HO263
     clear HO266
     clear HO269
     clear BK254
     clear BK255
     clear HB
     have HO260 := n0_
     have HO263 := n1_
     have HO266 := n2_
     have HO269 := n3_
     have BK254 := n4_
     have BK255 := n5_
     have HB := n6_
     clear n0_ n1_ n2_ n3_ n4_ n5_ n6_
     (try clear hb)
     (try clear hb2)
     (try clear hk)
     (try clear hi)
     refine hK.out _ _ ⟨(blk_cell BK254.out 0).trans rfl, (blk_cell BK254.out 1).trans rfl, (blk_cell BK255.out 0).trans rfl, (blk_cell BK255.out 1).trans rfl⟩ (fun hHeld => ?_)
     clear hK K
     refine norm_ (a' := ?_) ?_ ?_
     rotate_left
     ·show Act.put _ (some 24) _ = _
      simp only [px_q]
      rfl
     refine pure_ (i := 5) (N := some 6) (v := ?_) (a' := ?_) (px_l 6 0) rfl rfl (by kernel_rfl) (fun _ _ _ h => h) (Or.inl ⟨by rfl, ?_⟩) ?_ ?_
     rotate_left
     ·intro w'
      go_simp
      with_reducible rfl
     rotate_left
     ·simp only [px_q]
      rfl
     refine done_ (by kernel_rfl) ?_
     have hcz169_0 : w168.cell? ⟨gb254, 0, none⟩ = some (.slice A0_0 l0_0.length c0_0) := (blk_cell BK254.out 0).trans rfl
     have hcz169_1 : w168.cell? ⟨gb254, 1, none⟩ = some (.slice A0_1 l0_1.length c0_1) := (blk_cell BK254.out 1).trans rfl
     have hfz169_0 := blk_frozen BK254.out 0
     have hfz169_1 := blk_frozen BK254.out 1
     try go_wp2_with (first | ((with_reducible refine gate_callee (f := 6) rfl ?_); refine goesL_ (some 26) rfl rfl Try.func6 (by kernel_rfl) rfl #[.agg #[.slice A0_0 l0_0.length c0_0, .slice A0_1 l0_1.length c0_1]] rfl px_dn ?_; (with_reducible refine (laws_toDict.calls k _ _ l0_0 _ _ l0_1 t271 t274 _ ?side1 ?side2 ?side3 ?side4 A22.out).mono ?_); (case side1 => exact px_cV ((Kd.C_below HR0_0.out HB.out))); (case side2 => exact HC0_0.out); (case side3 => exact px_cV ((Kd.C_below HR0_1.out HB.out))); (case side4 => exact HC0_1.out); rintro e w170 ⟨v272, v275, rfl, ho0, ho1, hb⟩; refine ⟨_, rfl, ?_⟩; have n0_ := aM (Kd.R_elder' (px_rV HO260.out) (Kd.R_base ho0) hb); have n1_ := aM (Kd.R_elder' (px_rV HO263.out) (Kd.R_base ho1) hb); have n2_ := aM (Kd.R_elder' (px_rV HO266.out) (Kd.R_base ho0) hb); have n3_ := aM (Kd.R_elder' (px_rV HO269.out) (Kd.R_base ho1) hb); have n4_ := aM (Kd.R_lower (Kd.R_new' (Kd.R_new' ho0 (Kd.R_lt (px_rV HO260.out))) (Kd.R_lt (px_rV HO266.out))) (below_size (px_h2 HB.out GE254.out GE255.out))); have n5_ := aM (Kd.R_lower (Kd.R_new' (Kd.R_new' ho1 (Kd.R_lt (px_rV HO263.out))) (Kd.R_lt (px_rV HO269.out))) (below_size (px_h2 HB.out GE254.out GE255.out))); have n6_ := aM (blk_below (g := gb254) (o := .cells #[.slice A0_0 l0_0.length c0_0, .slice A0_1 l0_1.length c0_1] 25 (0, 0)) (px_bV BK254.out) hb); have n7_ := aM (blk_below (g := gb255) (o := .cells #[.slice A1_0 l1_0.length c1_0, .slice A1_1 l1_1.length c1_1] 25 (0, 0)) (px_bV BK255.out) hb); have n8_ := aM (below_step (px_h2 HB.out GE254.out GE255.out) hb); clear HO260; clear HO263; clear HO266; clear HO269; clear BK254; clear BK255; clear HB; have HO260 := n0_; have HO263 := n1_; have HO266 := n2_; have HO269 := n3_; have HO273 := n4_; have HO276 := n5_; have BK254 := n6_; have BK255 := n7_; have HB := n8_; clear n0_ n1_ n2_ n3_ n4_ n5_ n6_ n7_ n8_; (try clear hb); (try clear hb2); (try clear hk); (try clear hi); (try clear ho0); (try clear ho1)) | ((with_reducible refine gate_dst (N := 7) rfl ?_); refine box_event ?hg (N := 7) ?hd (cs := #[.slice none 0 0, .slice none 0 0]) (t := 30) ?hr ?_; (case hd => rfl); (case hg => rfl); (case hr => first | (go_simp; done) | (go_simp; rfl)); intro gb277 hg w171 hbox hb; have n0_ := aM (Kd.R_below (px_rV HO260.out) hb); have n1_ := aM (Kd.R_below (px_rV HO263.out) hb); have n2_ := aM (Kd.R_below (px_rV HO266.out) hb); have n3_ := aM (Kd.R_below (px_rV HO269.out) hb); have n4_ := aM (Kd.R_below (px_rV HO273.out) hb); have n5_ := aM (Kd.R_below (px_rV HO276.out) hb); have n6_ := aM (blk_below (g := gb254) (o := .cells #[.slice A0_0 l0_0.length c0_0, .slice A0_1 l0_1.length c0_1] 25 (0, 0)) (px_bV BK254.out) hb); have n7_ := aM (blk_below (g := gb255) (o := .cells #[.slice A1_0 l1_0.length c1_0, .slice A1_1 l1_1.length c1_1] 25 (0, 0)) (px_bV BK255.out) hb); have n8_ := aM (below_step (px_h2 HB.out GE254.out GE255.out) hb); have n9_ := aM (hbox); have n10_ := aM ((by rw [hg]; exact (below_size (px_h2 HB.out GE254.out GE255.out)) : w.heap.size ≤ gb277)); have n11_ := aM ((by rw [hg]; exact (below_size (px_h2 HB.out GE254.out GE255.out)) : w.heap.size ≤ gb277)); have n12_ := aM ((by rw [hg]; exact Nat.ne_of_lt (blk_lt (g := gb254) (o := .cells #[.slice A0_0 l0_0.length c0_0, .slice A0_1 l0_1.length c0_1] 25 (0, 0)) (px_bV BK254.out)) : gb254 ≠ gb277)); have n13_ := aM ((by rw [hg]; exact Nat.ne_of_gt (blk_lt (g := gb254) (o := .cells #[.slice A0_0 l0_0.length c0_0, .slice A0_1 l0_1.length c0_1] 25 (0, 0)) (px_bV BK254.out)) : gb277 ≠ gb254)); have n14_ := aM ((by rw [hg]; exact Nat.ne_of_lt (blk_lt (g := gb255) (o := .cells #[.slice A1_0 l1_0.length c1_0, .slice A1_1 l1_1.length c1_1] 25 (0, 0)) (px_bV BK255.out)) : gb255 ≠ gb277)); have n15_ := aM ((by rw [hg]; exact Nat.ne_of_gt (blk_lt (g := gb255) (o := .cells #[.slice A1_0 l1_0.length c1_0, .slice A1_1 l1_1.length c1_1] 25 (0, 0)) (px_bV BK255.out)) : gb277 ≠ gb255)); clear HO260; clear HO263; clear HO266; clear HO269; clear HO273; clear HO276; clear BK254; clear BK255; clear HB; have HO260 := n0_; have HO263 := n1_; have HO266 := n2_; have HO269 := n3_; have HO273 := n4_; have HO276 := n5_; have BK254 := n6_; have BK255 := n7_; have HB := n8_; have BK277 := n9_; have GW277 := n10_; have GE277 := n11_; have NB254_277 := n12_; have NB277_254 := n13_; have NB255_277 := n14_; have NB277_255 := n15_; clear n0_ n1_ n2_ n3_ n4_ n5_ n6_ n7_ n8_ n9_ n10_ n11_ n12_ n13_ n14_ n15_; clear hb hbox hg; obtain ⟨Ao172, co172, eo172⟩ := Kd.R_slice HO273.out; subst eo172; have hnb173 := NB277_254.out; have hnc173 := NB254_277.out; have hnb174 := NB277_255.out; have hnc174 := NB255_277.out; have hcz175_0 : w171.cell? ⟨gb277, 0, none⟩ = some (.slice none 0 0) := (blk_cell BK277.out 0).trans rfl; have hcz175_1 : w171.cell? ⟨gb277, 1, none⟩ = some (.slice none 0 0) := (blk_cell BK277.out 1).trans rfl; have hfz175_0 := blk_frozen BK277.out 0; have hfz175_1 := blk_frozen BK277.out 1; obtain ⟨Ao176, co176, eo176⟩ := Kd.R_slice HO276.out; subst eo176; have hcz177_0 : w171.cell? ⟨gb255, 0, none⟩ = some (.slice A1_0 l1_0.length c1_0) := (blk_cell BK255.out 0).trans rfl; have hcz177_1 : w171.cell? ⟨gb255, 1, none⟩ = some (.slice A1_1 l1_1.length c1_1) := (blk_cell BK255.out 1).trans rfl; have hfz177_0 := blk_frozen BK255.out 0; have hfz177_1 := blk_frozen BK255.out 1) | ((with_reducible refine gate_callee (f := 6) rfl ?_); refine goesL_ (some 28) rfl rfl Try.func6 (by kernel_rfl) rfl #[.agg #[.slice A1_0 l1_0.length c1_0, .slice A1_1 l1_1.length c1_1]] rfl px_dn ?_; (with_reducible refine (laws_toDict.calls k _ _ l1_0 _ _ l1_1 t278 t281 _ ?side1 ?side2 ?side3 ?side4 A23.out).mono ?_); (case side1 => exact Kd.C_below HR1_0.out (px_h3 HB.out GE254.out GE255.out GE277.out)); (case side2 => exact HC1_0.out); (case side3 => exact Kd.C_below HR1_1.out (px_h3 HB.out GE254.out GE255.out GE277.out)); (case side4 => exact HC1_1.out); rintro e w178 ⟨v279, v282, rfl, ho0, ho1, hb⟩; refine ⟨_, rfl, ?_⟩; have n0_ := aM (Kd.R_elder' (by (with_reducible repeat (first | apply Kd.R_alloc | apply Kd.R_drewN | apply Kd.R_drew)); exact (Kd.R_mono (Kd.R_far (p := ⟨gb277, 1, none⟩) (Kd.R_far (p := ⟨gb277, 0, none⟩) (Kd.R_types HO260.out BK277.out (by decide)) (fun _ hk => hk.2) (.slice Ao172 t271.length co172)) (fun _ hk => hk.2) (.slice Ao176 t274.length co176)) (fun _ h_ => h_.1))) (Kd.R_base ho0) hb); have n1_ := aM (Kd.R_elder' (by (with_reducible repeat (first | apply Kd.R_alloc | apply Kd.R_drewN | apply Kd.R_drew)); exact (Kd.R_mono (Kd.R_far (p := ⟨gb277, 1, none⟩) (Kd.R_far (p := ⟨gb277, 0, none⟩) (Kd.R_types HO263.out BK277.out (by decide)) (fun _ hk => hk.2) (.slice Ao172 t271.length co172)) (fun _ hk => hk.2) (.slice Ao176 t274.length co176)) (fun _ h_ => h_.1))) (Kd.R_base ho1) hb); have n2_ := aM (Kd.R_elder' (by (with_reducible repeat (first | apply Kd.R_alloc | apply Kd.R_drewN | apply Kd.R_drew)); exact (Kd.R_mono (Kd.R_far (p := ⟨gb277, 1, none⟩) (Kd.R_far (p := ⟨gb277, 0, none⟩) (Kd.R_types HO266.out BK277.out (by decide)) (fun _ hk => hk.2) (.slice Ao172 t271.length co172)) (fun _ hk => hk.2) (.slice Ao176 t274.length co176)) (fun _ h_ => h_.1))) (Kd.R_base ho0) hb); have n3_ := aM (Kd.R_elder' (by (with_reducible repeat (first | apply Kd.R_alloc | apply Kd.R_drewN | apply Kd.R_drew)); exact (Kd.R_mono (Kd.R_far (p := ⟨gb277, 1, none⟩) (Kd.R_far (p := ⟨gb277, 0, none⟩) (Kd.R_types HO269.out BK277.out (by decide)) (fun _ hk => hk.2) (.slice Ao172 t271.length co172)) (fun _ hk => hk.2) (.slice Ao176 t274.length co176)) (fun _ h_ => h_.1))) (Kd.R_base ho1) hb); have n4_ := aM (Kd.R_elder' (by (with_reducible repeat (first | apply Kd.R_alloc | apply Kd.R_drewN | apply Kd.R_drew)); exact (Kd.R_mono (Kd.R_far (p := ⟨gb277, 1, none⟩) (Kd.R_far (p := ⟨gb277, 0, none⟩) (Kd.R_types HO273.out BK277.out (by decide)) (fun _ hk => hk.2) (.slice Ao172 t271.length co172)) (fun _ hk => hk.2) (.slice Ao176 t274.length co176)) (fun _ h_ => h_.1))) (Kd.R_base ho0) hb); have n5_ := aM (Kd.R_elder' (by (with_reducible repeat (first | apply Kd.R_alloc | apply Kd.R_drewN | apply Kd.R_drew)); exact (Kd.R_mono (Kd.R_far (p := ⟨gb277, 1, none⟩) (Kd.R_far (p := ⟨gb277, 0, none⟩) (Kd.R_types HO276.out BK277.out (by decide)) (fun _ hk => hk.2) (.slice Ao172 t271.length co172)) (fun _ hk => hk.2) (.slice Ao176 t274.length co176)) (fun _ h_ => h_.1))) (Kd.R_base ho1) hb); have n6_ := aM (Kd.R_lower (Kd.R_new' (Kd.R_new' (Kd.R_new' ho0 (Kd.R_lt (by (with_reducible repeat (first | apply Kd.R_alloc | apply Kd.R_drewN | apply Kd.R_drew)); exact (Kd.R_mono (Kd.R_far (p := ⟨gb277, 1, none⟩) (Kd.R_far (p := ⟨gb277, 0, none⟩) (Kd.R_types HO260.out BK277.out (by decide)) (fun _ hk => hk.2) (.slice Ao172 t271.length co172)) (fun _ hk => hk.2) (.slice Ao176 t274.length co176)) (fun _ h_ => h_.1))))) (Kd.R_lt (by (with_reducible repeat (first | apply Kd.R_alloc | apply Kd.R_drewN | apply Kd.R_drew)); exact (Kd.R_mono (Kd.R_far (p := ⟨gb277, 1, none⟩) (Kd.R_far (p := ⟨gb277, 0, none⟩) (Kd.R_types HO266.out BK277.out (by decide)) (fun _ hk => hk.2) (.slice Ao172 t271.length co172)) (fun _ hk => hk.2) (.slice Ao176 t274.length co176)) (fun _ h_ => h_.1))))) (Kd.R_lt (by (with_reducible repeat (first | apply Kd.R_alloc | apply Kd.R_drewN | apply Kd.R_drew)); exact (Kd.R_mono (Kd.R_far (p := ⟨gb277, 1, none⟩) (Kd.R_far (p := ⟨gb277, 0, none⟩) (Kd.R_types HO273.out BK277.out (by decide)) (fun _ hk => hk.2) (.slice Ao172 t271.length co172)) (fun _ hk => hk.2) (.slice Ao176 t274.length co176)) (fun _ h_ => h_.1))))) (below_size (px_h3 HB.out GE254.out GE255.out GE277.out))); have n7_ := aM (Kd.R_lower (Kd.R_new' (Kd.R_new' (Kd.R_new' ho1 (Kd.R_lt (by (with_reducible repeat (first | apply Kd.R_alloc | apply Kd.R_drewN | apply Kd.R_drew)); exact (Kd.R_mono (Kd.R_far (p := ⟨gb277, 1, none⟩) (Kd.R_far (p := ⟨gb277, 0, none⟩) (Kd.R_types HO263.out BK277.out (by decide)) (fun _ hk => hk.2) (.slice Ao172 t271.length co172)) (fun _ hk => hk.2) (.slice Ao176 t274.length co176)) (fun _ h_ => h_.1))))) (Kd.R_lt (by (with_reducible repeat (first | apply Kd.R_alloc | apply Kd.R_drewN | apply Kd.R_drew)); exact (Kd.R_mono (Kd.R_far (p := ⟨gb277, 1, none⟩) (Kd.R_far (p := ⟨gb277, 0, none⟩) (Kd.R_types HO269.out BK277.out (by decide)) (fun _ hk => hk.2) (.slice Ao172 t271.length co172)) (fun _ hk => hk.2) (.slice Ao176 t274.length co176)) (fun _ h_ => h_.1))))) (Kd.R_lt (by (with_reducible repeat (first | apply Kd.R_alloc | apply Kd.R_drewN | apply Kd.R_drew)); exact (Kd.R_mono (Kd.R_far (p := ⟨gb277, 1, none⟩) (Kd.R_far (p := ⟨gb277, 0, none⟩) (Kd.R_types HO276.out BK277.out (by decide)) (fun _ hk => hk.2) (.slice Ao172 t271.length co172)) (fun _ hk => hk.2) (.slice Ao176 t274.length co176)) (fun _ h_ => h_.1))))) (below_size (px_h3 HB.out GE254.out GE255.out GE277.out))); have n8_ := aM (blk_below (g := gb254) (o := .cells #[.slice A0_0 l0_0.length c0_0, .slice A0_1 l0_1.length c0_1] 25 (0, 0)) (by (with_reducible repeat (first | refine blk_drewN ?_ _ | refine blk_drew ?_ | refine blk_alloc ?_ _)); refine blk_far ?_ NB254_277.out _; (with_reducible repeat (first | refine blk_drewN ?_ _ | refine blk_drew ?_ | refine blk_alloc ?_ _)); refine blk_far ?_ NB254_277.out _; (with_reducible repeat (first | refine blk_drewN ?_ _ | refine blk_drew ?_ | refine blk_alloc ?_ _)); exact BK254.out) hb); have n9_ := aM (blk_below (g := gb255) (o := .cells #[.slice A1_0 l1_0.length c1_0, .slice A1_1 l1_1.length c1_1] 25 (0, 0)) (by (with_reducible repeat (first | refine blk_drewN ?_ _ | refine blk_drew ?_ | refine blk_alloc ?_ _)); refine blk_far ?_ NB255_277.out _; (with_reducible repeat (first | refine blk_drewN ?_ _ | refine blk_drew ?_ | refine blk_alloc ?_ _)); refine blk_far ?_ NB255_277.out _; (with_reducible repeat (first | refine blk_drewN ?_ _ | refine blk_drew ?_ | refine blk_alloc ?_ _)); exact BK255.out) hb); have n10_ := aM (blk_below (g := gb277) (o := .cells #[.slice Ao172 t271.length co172, .slice Ao176 t274.length co176] 30 (0, 0)) (by (with_reducible repeat (first | refine blk_drewN ?_ _ | refine blk_drew ?_ | refine blk_alloc ?_ _)); refine blk_put (cs := #[.slice Ao172 t271.length co172, .slice none 0 0]) ?_ 1 _ rfl; (with_reducible repeat (first | refine blk_drewN ?_ _ | refine blk_drew ?_ | refine blk_alloc ?_ _)); refine blk_put (cs := #[.slice none 0 0, .slice none 0 0]) ?_ 0 _ rfl; (with_reducible repeat (first | refine blk_drewN ?_ _ | refine blk_drew ?_ | refine blk_alloc ?_ _)); exact BK277.out) hb); have n11_ := aM (below_step (px_h3 HB.out GE254.out GE255.out GE277.out) hb); clear HO260; clear HO263; clear HO266; clear HO269; clear HO273; clear HO276; clear BK254; clear BK255; clear BK277; clear HB; have HO260 := n0_; have HO263 := n1_; have HO266 := n2_; have HO269 := n3_; have HO273 := n4_; have HO276 := n5_; have HO280 := n6_; have HO283 := n7_; have BK254 := n8_; have BK255 := n9_; have BK277 := n10_; have HB := n11_; clear n0_ n1_ n2_ n3_ n4_ n5_ n6_ n7_ n8_ n9_ n10_ n11_; (try clear hb); (try clear hb2); (try clear hk); (try clear hi); (try clear ho0); (try clear ho1)) | ((with_reducible refine gate_dst (N := 8) rfl ?_); refine box_event ?hg (N := 8) ?hd (cs := #[.slice none 0 0, .slice none 0 0]) (t := 30) ?hr ?_; (case hd => rfl); (case hg => rfl); (case hr => first | (go_simp; done) | (go_simp; rfl)); intro gb284 hg w179 hbox hb; have n0_ := aM (Kd.R_below (px_rV HO260.out) hb); have n1_ := aM (Kd.R_below (px_rV HO263.out) hb); have n2_ := aM (Kd.R_below (px_rV HO266.out) hb); have n3_ := aM (Kd.R_below (px_rV HO269.out) hb); have n4_ := aM (Kd.R_below (px_rV HO273.out) hb); have n5_ := aM (Kd.R_below (px_rV HO276.out) hb); have n6_ := aM (Kd.R_below (px_rV HO280.out) hb); have n7_ := aM (Kd.R_below (px_rV HO283.out) hb); have n8_ := aM (blk_below (g := gb254) (o := .cells #[.slice A0_0 l0_0.length c0_0, .slice A0_1 l0_1.length c0_1] 25 (0, 0)) (px_bV BK254.out) hb); have n9_ := aM (blk_below (g := gb255) (o := .cells #[.slice A1_0 l1_0.length c1_0, .slice A1_1 l1_1.length c1_1] 25 (0, 0)) (px_bV BK255.out) hb); have n10_ := aM (blk_below (g := gb277) (o := .cells #[.slice Ao172 t271.length co172, .slice Ao176 t274.length co176] 30 (0, 0)) (px_bV BK277.out) hb); have n11_ := aM (below_step (px_h3 HB.out GE254.out GE255.out GE277.out) hb); have n12_ := aM (hbox); have n13_ := aM ((by rw [hg]; exact (below_size (px_h3 HB.out GE254.out GE255.out GE277.out)) : w.heap.size ≤ gb284)); have n14_ := aM ((by rw [hg]; exact (below_size (px_h3 HB.out GE254.out GE255.out GE277.out)) : w.heap.size ≤ gb284)); have n15_ := aM ((by rw [hg]; exact Nat.ne_of_lt (blk_lt (g := gb254) (o := .cells #[.slice A0_0 l0_0.length c0_0, .slice A0_1 l0_1.length c0_1] 25 (0, 0)) (px_bV BK254.out)) : gb254 ≠ gb284)); have n16_ := aM ((by rw [hg]; exact Nat.ne_of_gt (blk_lt (g := gb254) (o := .cells #[.slice A0_0 l0_0.length c0_0, .slice A0_1 l0_1.length c0_1] 25 (0, 0)) (px_bV BK254.out)) : gb284 ≠ gb254)); have n17_ := aM ((by rw [hg]; exact Nat.ne_of_lt (blk_lt (g := gb255) (o := .cells #[.slice A1_0 l1_0.length c1_0, .slice A1_1 l1_1.length c1_1] 25 (0, 0)) (px_bV BK255.out)) : gb255 ≠ gb284)); have n18_ := aM ((by rw [hg]; exact Nat.ne_of_gt (blk_lt (g := gb255) (o := .cells #[.slice A1_0 l1_0.length c1_0, .slice A1_1 l1_1.length c1_1] 25 (0, 0)) (px_bV BK255.out)) : gb284 ≠ gb255)); have n19_ := aM ((by rw [hg]; exact Nat.ne_of_lt (blk_lt (g := gb277) (o := .cells #[.slice Ao172 t271.length co172, .slice Ao176 t274.length co176] 30 (0, 0)) (px_bV BK277.out)) : gb277 ≠ gb284)); have n20_ := aM ((by rw [hg]; exact Nat.ne_of_gt (blk_lt (g := gb277) (o := .cells #[.slice Ao172 t271.length co172, .slice Ao176 t274.length co176] 30 (0, 0)) (px_bV BK277.out)) : gb284 ≠ gb277)); clear HO260; clear HO263; clear HO266; clear HO269; clear HO273; clear HO276; clear HO280; clear HO283; clear BK254; clear BK255; clear BK277; clear HB; have HO260 := n0_; have HO263 := n1_; have HO266 := n2_; have HO269 := n3_; have HO273 := n4_; have HO276 := n5_; have HO280 := n6_; have HO283 := n7_; have BK254 := n8_; have BK255 := n9_; have BK277 := n10_; have HB := n11_; have BK284 := n12_; have GW284 := n13_; have GE284 := n14_; have NB254_284 := n15_; have NB284_254 := n16_; have NB255_284 := n17_; have NB284_255 := n18_; have NB277_284 := n19_; have NB284_277 := n20_; clear n0_ n1_ n2_ n3_ n4_ n5_ n6_ n7_ n8_ n9_ n10_ n11_ n12_ n13_ n14_ n15_ n16_ n17_ n18_ n19_ n20_; clear hb hbox hg; obtain ⟨Ao180, co180, eo180⟩ := Kd.R_slice HO280.out; subst eo180; have hnb181 := NB284_254.out; have hnc181 := NB254_284.out; have hnb182 := NB284_255.out; have hnc182 := NB255_284.out; have hnb183 := NB284_277.out; have hnc183 := NB277_284.out; have hcz184_0 : w179.cell? ⟨gb284, 0, none⟩ = some (.slice none 0 0) := (blk_cell BK284.out 0).trans rfl; have hcz184_1 : w179.cell? ⟨gb284, 1, none⟩ = some (.slice none 0 0) := (blk_cell BK284.out 1).trans rfl; have hfz184_0 := blk_frozen BK284.out 0; have hfz184_1 := blk_frozen BK284.out 1; obtain ⟨Ao185, co185, eo185⟩ := Kd.R_slice HO283.out; subst eo185; have hcz186_0 : w179.cell? ⟨gb277, 0, none⟩ = some (.slice Ao172 t271.length co172) := (blk_cell BK277.out 0).trans rfl; have hcz186_1 : w179.cell? ⟨gb277, 1, none⟩ = some (.slice Ao176 t274.length co176) := (blk_cell BK277.out 1).trans rfl; have hfz186_0 := blk_frozen BK277.out 0; have hfz186_1 := blk_frozen BK277.out 1) | ((with_reducible refine gate_callee (f := 7) rfl ?_); refine goesL_ (some 31) rfl rfl Try.func7 (by kernel_rfl) rfl #[.agg #[.slice Ao172 t271.length co172, .slice Ao176 t274.length co176], .agg #[.slice Ao180 t278.length co180, .slice Ao185 t281.length co185]] rfl px_dn ?_; (with_reducible refine (impl_DictSame.calls k _ _ t271 _ _ t274 _ _ t278 _ _ t281 t285 _ ?side1 ?side2 ?side3 ?side4 ?side5 ?side6 ?side7 ?side8 A24.out).mono ?_); (case side1 => refine (Kd.R_reads' (e := 3) (base := w.heap.size) (ok := fun k_ => (((True ∧ some k_ ≠ (.slice Ao164 t258.length co164 : Value).ownBlock) ∧ some k_ ≠ (.slice Ao166 t264.length co166 : Value).ownBlock) ∧ some k_ ≠ (.slice Ao180 t278.length co180 : Value).ownBlock)) (n := t271.length) (c := co172) ?_).2.2; exact (by (with_reducible repeat (first | apply Kd.R_alloc | apply Kd.R_drewN | apply Kd.R_drew)); exact (Kd.R_mono (Kd.R_far (p := ⟨gb284, 1, none⟩) (Kd.R_far (p := ⟨gb284, 0, none⟩) (Kd.R_types HO273.out BK284.out (by decide)) (fun _ hk => hk.2) (.slice Ao180 t278.length co180)) (fun _ hk => hk.2) (.slice Ao185 t281.length co185)) (fun _ h_ => h_.1)))); (case side2 => exact (Kd.R_reads' HO273.out).2.1); (case side3 => refine (Kd.R_reads' (e := 38) (base := w.heap.size) (ok := fun k_ => (((True ∧ some k_ ≠ (.slice Ao165 t261.length co165 : Value).ownBlock) ∧ some k_ ≠ (.slice Ao167 t267.length co167 : Value).ownBlock) ∧ some k_ ≠ (.slice Ao185 t281.length co185 : Value).ownBlock)) (n := t274.length) (c := co176) ?_).2.2; exact (by (with_reducible repeat (first | apply Kd.R_alloc | apply Kd.R_drewN | apply Kd.R_drew)); exact (Kd.R_mono (Kd.R_far (p := ⟨gb284, 1, none⟩) (Kd.R_far (p := ⟨gb284, 0, none⟩) (Kd.R_types HO276.out BK284.out (by decide)) (fun _ hk => hk.2) (.slice Ao180 t278.length co180)) (fun _ hk => hk.2) (.slice Ao185 t281.length co185)) (fun _ h_ => h_.1)))); (case side4 => exact (Kd.R_reads' HO276.out).2.1); (case side5 => refine (Kd.R_reads' (e := 3) (base := w.heap.size) (ok := fun k_ => (((True ∧ some k_ ≠ (.slice Ao164 t258.length co164 : Value).ownBlock) ∧ some k_ ≠ (.slice Ao166 t264.length co166 : Value).ownBlock) ∧ some k_ ≠ (.slice Ao172 t271.length co172 : Value).ownBlock)) (n := t278.length) (c := co180) ?_).2.2; exact (by (with_reducible repeat (first | apply Kd.R_alloc | apply Kd.R_drewN | apply Kd.R_drew)); exact (Kd.R_mono (Kd.R_far (p := ⟨gb284, 1, none⟩) (Kd.R_far (p := ⟨gb284, 0, none⟩) (Kd.R_types HO280.out BK284.out (by decide)) (fun _ hk => hk.2) (.slice Ao180 t278.length co180)) (fun _ hk => hk.2) (.slice Ao185 t281.length co185)) (fun _ h_ => h_.1)))); (case side6 => exact (Kd.R_reads' HO280.out).2.1); (case side7 => refine (Kd.R_reads' (e := 38) (base := w.heap.size) (ok := fun k_ => (((True ∧ some k_ ≠ (.slice Ao165 t261.length co165 : Value).ownBlock) ∧ some k_ ≠ (.slice Ao167 t267.length co167 : Value).ownBlock) ∧ some k_ ≠ (.slice Ao176 t274.length co176 : Value).ownBlock)) (n := t281.length) (c := co185) ?_).2.2; exact (by (with_reducible repeat (first | apply Kd.R_alloc | apply Kd.R_drewN | apply Kd.R_drew)); exact (Kd.R_mono (Kd.R_far (p := ⟨gb284, 1, none⟩) (Kd.R_far (p := ⟨gb284, 0, none⟩) (Kd.R_types HO283.out BK284.out (by decide)) (fun _ hk => hk.2) (.slice Ao180 t278.length co180)) (fun _ hk => hk.2) (.slice Ao185 t281.length co185)) (fun _ h_ => h_.1)))); (case side8 => exact (Kd.R_reads' HO283.out).2.1); rintro e w187 ⟨rfl, hb⟩; refine ⟨_, rfl, ?_⟩; have n0_ := aM (Kd.R_below (by (with_reducible repeat (first | apply Kd.R_alloc | apply Kd.R_drewN | apply Kd.R_drew)); exact (Kd.R_mono (Kd.R_far (p := ⟨gb284, 1, none⟩) (Kd.R_far (p := ⟨gb284, 0, none⟩) (Kd.R_types HO260.out BK284.out (by decide)) (fun _ hk => hk.2) (.slice Ao180 t278.length co180)) (fun _ hk => hk.2) (.slice Ao185 t281.length co185)) (fun _ h_ => h_.1))) hb); have n1_ := aM (Kd.R_below (by (with_reducible repeat (first | apply Kd.R_alloc | apply Kd.R_drewN | apply Kd.R_drew)); exact (Kd.R_mono (Kd.R_far (p := ⟨gb284, 1, none⟩) (Kd.R_far (p := ⟨gb284, 0, none⟩) (Kd.R_types HO263.out BK284.out (by decide)) (fun _ hk => hk.2) (.slice Ao180 t278.length co180)) (fun _ hk => hk.2) (.slice Ao185 t281.length co185)) (fun _ h_ => h_.1))) hb); have n2_ := aM (Kd.R_below (by (with_reducible repeat (first | apply Kd.R_alloc | apply Kd.R_drewN | apply Kd.R_drew)); exact (Kd.R_mono (Kd.R_far (p := ⟨gb284, 1, none⟩) (Kd.R_far (p := ⟨gb284, 0, none⟩) (Kd.R_types HO266.out BK284.out (by decide)) (fun _ hk => hk.2) (.slice Ao180 t278.length co180)) (fun _ hk => hk.2) (.slice Ao185 t281.length co185)) (fun _ h_ => h_.1))) hb); have n3_ := aM (Kd.R_below (by (with_reducible repeat (first | apply Kd.R_alloc | apply Kd.R_drewN | apply Kd.R_drew)); exact (Kd.R_mono (Kd.R_far (p := ⟨gb284, 1, none⟩) (Kd.R_far (p := ⟨gb284, 0, none⟩) (Kd.R_types HO269.out BK284.out (by decide)) (fun _ hk => hk.2) (.slice Ao180 t278.length co180)) (fun _ hk => hk.2) (.slice Ao185 t281.length co185)) (fun _ h_ => h_.1))) hb); have n4_ := aM (Kd.R_below (by (with_reducible repeat (first | apply Kd.R_alloc | apply Kd.R_drewN | apply Kd.R_drew)); exact (Kd.R_mono (Kd.R_far (p := ⟨gb284, 1, none⟩) (Kd.R_far (p := ⟨gb284, 0, none⟩) (Kd.R_types HO273.out BK284.out (by decide)) (fun _ hk => hk.2) (.slice Ao180 t278.length co180)) (fun _ hk => hk.2) (.slice Ao185 t281.length co185)) (fun _ h_ => h_.1))) hb); have n5_ := aM (Kd.R_below (by (with_reducible repeat (first | apply Kd.R_alloc | apply Kd.R_drewN | apply Kd.R_drew)); exact (Kd.R_mono (Kd.R_far (p := ⟨gb284, 1, none⟩) (Kd.R_far (p := ⟨gb284, 0, none⟩) (Kd.R_types HO276.out BK284.out (by decide)) (fun _ hk => hk.2) (.slice Ao180 t278.length co180)) (fun _ hk => hk.2) (.slice Ao185 t281.length co185)) (fun _ h_ => h_.1))) hb); have n6_ := aM (Kd.R_below (by (with_reducible repeat (first | apply Kd.R_alloc | apply Kd.R_drewN | apply Kd.R_drew)); exact (Kd.R_mono (Kd.R_far (p := ⟨gb284, 1, none⟩) (Kd.R_far (p := ⟨gb284, 0, none⟩) (Kd.R_types HO280.out BK284.out (by decide)) (fun _ hk => hk.2) (.slice Ao180 t278.length co180)) (fun _ hk => hk.2) (.slice Ao185 t281.length co185)) (fun _ h_ => h_.1))) hb); have n7_ := aM (Kd.R_below (by (with_reducible repeat (first | apply Kd.R_alloc | apply Kd.R_drewN | apply Kd.R_drew)); exact (Kd.R_mono (Kd.R_far (p := ⟨gb284, 1, none⟩) (Kd.R_far (p := ⟨gb284, 0, none⟩) (Kd.R_types HO283.out BK284.out (by decide)) (fun _ hk => hk.2) (.slice Ao180 t278.length co180)) (fun _ hk => hk.2) (.slice Ao185 t281.length co185)) (fun _ h_ => h_.1))) hb); have n8_ := aM (blk_below (g := gb254) (o := .cells #[.slice A0_0 l0_0.length c0_0, .slice A0_1 l0_1.length c0_1] 25 (0, 0)) (by (with_reducible repeat (first | refine blk_drewN ?_ _ | refine blk_drew ?_ | refine blk_alloc ?_ _)); refine blk_far ?_ NB254_284.out _; (with_reducible repeat (first | refine blk_drewN ?_ _ | refine blk_drew ?_ | refine blk_alloc ?_ _)); refine blk_far ?_ NB254_284.out _; (with_reducible repeat (first | refine blk_drewN ?_ _ | refine blk_drew ?_ | refine blk_alloc ?_ _)); exact BK254.out) hb); have n9_ := aM (blk_below (g := gb255) (o := .cells #[.slice A1_0 l1_0.length c1_0, .slice A1_1 l1_1.length c1_1] 25 (0, 0)) (by (with_reducible repeat (first | refine blk_drewN ?_ _ | refine blk_drew ?_ | refine blk_alloc ?_ _)); refine blk_far ?_ NB255_284.out _; (with_reducible repeat (first | refine blk_drewN ?_ _ | refine blk_drew ?_ | refine blk_alloc ?_ _)); refine blk_far ?_ NB255_284.out _; (with_reducible repeat (first | refine blk_drewN ?_ _ | refine blk_drew ?_ | refine blk_alloc ?_ _)); exact BK255.out) hb); have n10_ := aM (blk_below (g := gb277) (o := .cells #[.slice Ao172 t271.length co172, .slice Ao176 t274.length co176] 30 (0, 0)) (by (with_reducible repeat (first | refine blk_drewN ?_ _ | refine blk_drew ?_ | refine blk_alloc ?_ _)); refine blk_far ?_ NB277_284.out _; (with_reducible repeat (first | refine blk_drewN ?_ _ | refine blk_drew ?_ | refine blk_alloc ?_ _)); refine blk_far ?_ NB277_284.out _; (with_reducible repeat (first | refine blk_drewN ?_ _ | refine blk_drew ?_ | refine blk_alloc ?_ _)); exact BK277.out) hb); have n11_ := aM (blk_below (g := gb284) (o := .cells #[.slice Ao180 t278.length co180, .slice Ao185 t281.length co185] 30 (0, 0)) (by (with_reducible repeat (first | refine blk_drewN ?_ _ | refine blk_drew ?_ | refine blk_alloc ?_ _)); refine blk_put (cs := #[.slice Ao180 t278.length co180, .slice none 0 0]) ?_ 1 _ rfl; (with_reducible repeat (first | refine blk_drewN ?_ _ | refine blk_drew ?_ | refine blk_alloc ?_ _)); refine blk_put (cs := #[.slice none 0 0, .slice none 0 0]) ?_ 0 _ rfl; (with_reducible repeat (first | refine blk_drewN ?_ _ | refine blk_drew ?_ | refine blk_alloc ?_ _)); exact BK284.out) hb); have n12_ := aM (below_step (px_h4 HB.out GE254.out GE255.out GE277.out GE284.out) hb); clear HO260; clear HO263; clear HO266; clear HO269; clear HO273; clear HO276; clear HO280; clear HO283; clear BK254; clear BK255; clear BK277; clear BK284; clear HB; have HO260 := n0_; have HO263 := n1_; have HO266 := n2_; have HO269 := n3_; have HO273 := n4_; have HO276 := n5_; have HO280 := n6_; have HO283 := n7_; have BK254 := n8_; have BK255 := n9_; have BK277 := n10_; have BK284 := n11_; have HB := n12_; clear n0_ n1_ n2_ n3_ n4_ n5_ n6_ n7_ n8_ n9_ n10_ n11_ n12_; (try clear hb); (try clear hb2); (try clear hk); (try clear hi)))
     have n0_ := aM (Kd.R_drew HO260.out)
     have n1_ := aM (Kd.R_drew HO263.out)
     have n2_ := aM (Kd.R_drew HO266.out)
     have n3_ := aM (Kd.R_drew HO269.out)
     have n4_ := aM (Kd.R_drew HO273.out)
     have n5_ := aM (Kd.R_drew HO276.out)
     have n6_ := aM (Kd.R_drew HO280.out)
     have n7_ := aM (Kd.R_drew HO283.out)
     have n8_ := aM (blk_drew BK254.out)
     have n9_ := aM (blk_drew BK255.out)
     have n10_ := aM (blk_drew BK277.out)
     have n11_ := aM (blk_drew BK284.out)
     have n12_ := aM (below_drew1 HB.out)
     clear HO260
     clear HO263
     clear HO266
     clear HO269
     clear HO273
     clear HO276
     clear HO280
     clear HO283
     clear BK254
     clear BK255
     clear BK277
     clear BK284
     clear HB
     have HO260 := n0_
     have HO263 := n1_
     have HO266 := n2_
     have HO269 := n3_
     have HO273 := n4_
     have HO276 := n5_
     have HO280 := n6_
     have HO283 := n7_
     have BK254 := n8_
     have BK255 := n9_
     have BK277 := n10_
     have BK284 := n11_
     have HB := n12_
     clear n0_ n1_ n2_ n3_ n4_ n5_ n6_ n7_ n8_ n9_ n10_ n11_ n12_
     refine start_ (n := 5) (S := fun w' => w'.cell? ⟨gb277, 0, none⟩ = some (.slice Ao172 t271.length co172) ∧ w'.cell? ⟨gb277, 1, none⟩ = some (.slice Ao176 t274.length co176) ∧ w'.cell? ⟨gb254, 0, none⟩ = some (.slice A0_0 l0_0.length c0_0) ∧ w'.cell? ⟨gb254, 1, none⟩ = some (.slice A0_1 l0_1.length c0_1)) (ds := []) (px_l 0 5) (by kernel_rfl) rfl rfl ⟨(blk_cell BK277.out 0).trans rfl, (blk_cell BK277.out 1).trans rfl, (blk_cell BK254.out 0).trans rfl, (blk_cell BK254.out 1).trans rfl⟩ (fun hHeld => ?_)
     generalize w187.drew = w188 at HO260 HO263 HO266 HO269 HO273 HO276 HO280 HO283 BK254 BK255 BK277 BK284 HB hHeld ⊢
     refine take_ (i := 0) (N := some 35) (v := ?_) (a' := ?_) (px_l 1 4) rfl rfl (by kernel_rfl) (fun _ _ _ h => h) (Or.inl ⟨by rfl, ?_⟩) hHeld ?_ ?_
     rotate_left
     ·rintro w' ⟨s0, s1, s2, s3⟩
      go_simp
      with_reducible rfl
     rotate_left
     ·simp only [px_q]
      rfl
     refine take_ (i := 1) (N := some 36) (v := ?_) (a' := ?_) (px_l 2 3) rfl rfl (by kernel_rfl) (fun _ _ _ h => h) (Or.inl ⟨by rfl, ?_⟩) hHeld ?_ ?_
     rotate_left
     ·rintro w' ⟨s0, s1, s2, s3⟩
      go_simp
      with_reducible rfl
     rotate_left
     ·simp only [px_q]
      rfl
     refine one_ (i := 2) (N := some 37) (px_l 3 2) rfl rfl (by kernel_rfl) (by decide) (fun K hK => ?_)
     refine goes_ Try.func6 (by kernel_rfl) rfl #[.agg #[.slice A0_0 l0_0.length c0_0, .slice A0_1 l0_1.length c0_1]] (by rfl) rfl rfl px_dn ?_
     with_reducible refine (laws_toDict.calls k _ _ l0_0 _ _ l0_1 t286 t289 _ ?side1 ?side2 ?side3 ?side4 A60.out).mono ?_
     (case side1 => exact px_cV ((Kd.C_below HR0_0.out HB.out)))
     (case side2 => exact HC0_0.out)
     (case side3 => exact px_cV ((Kd.C_below HR0_1.out HB.out)))
     (case side4 => exact HC0_1.out)
     rintro e w189 ⟨v287, v290, rfl, ho0, ho1, hb⟩
     refine ⟨_, rfl, ?_⟩
     have n0_ := aM (Kd.R_elder' (px_rV HO260.out) (Kd.R_base ho0) hb)
     have n1_ := aM (Kd.R_elder' (px_rV HO263.out) (Kd.R_base ho1) hb)
     have n2_ := aM (Kd.R_elder' (px_rV HO266.out) (Kd.R_base ho0) hb)
     have n3_ := aM (Kd.R_elder' (px_rV HO269.out) (Kd.R_base ho1) hb)
     have n4_ := aM (Kd.R_elder' (px_rV HO273.out) (Kd.R_base ho0) hb)
     have n5_ := aM (Kd.R_elder' (px_rV HO276.out) (Kd.R_base ho1) hb)
     have n6_ := aM (Kd.R_elder' (px_rV HO280.out) (Kd.R_base ho0) hb)
     have n7_ := aM (Kd.R_elder' (px_rV HO283.out) (Kd.R_base ho1) hb)
     have n8_ := aM (Kd.R_lower (Kd.R_new' (Kd.R_new' (Kd.R_new' (Kd.R_new' ho0 (Kd.R_lt (px_rV HO260.out))) (Kd.R_lt (px_rV HO266.out))) (Kd.R_lt (px_rV HO273.out))) (Kd.R_lt (px_rV HO280.out))) (below_size (px_h4 HB.out GE254.out GE255.out GE277.out GE284.out)))
     have n9_ := aM (Kd.R_lower (Kd.R_new' (Kd.R_new' (Kd.R_new' (Kd.R_new' ho1 (Kd.R_lt (px_rV HO263.out))) (Kd.R_lt (px_rV HO269.out))) (Kd.R_lt (px_rV HO276.out))) (Kd.R_lt (px_rV HO283.out))) (below_size (px_h4 HB.out GE254.out GE255.out GE277.out GE284.out)))
     have n10_ := aM (blk_below (g := gb254) (o := .cells #[.slice A0_0 l0_0.length c0_0, .slice A0_1 l0_1.length c0_1] 25 (0, 0)) (px_bV BK254.out) hb)
     have n11_ := aM (blk_below (g := gb255) (o := .cells #[.slice A1_0 l1_0.length c1_0, .slice A1_1 l1_1.length c1_1] 25 (0, 0)) (px_bV BK255.out) hb)
     have n12_ := aM (blk_below (g := gb277) (o := .cells #[.slice Ao172 t271.length co172, .slice Ao176 t274.length co176] 30 (0, 0)) (px_bV BK277.out) hb)
     have n13_ := aM (blk_below (g := gb284) (o := .cells #[.slice Ao180 t278.length co180, .slice Ao185 t281.length co185] 30 (0, 0)) (px_bV BK284.out) hb)
     have n14_ := aM (below_step (px_h4 HB.out GE254.out GE255.out GE277.out GE284.out) hb)
     clear HO260
     clear HO263
     clear HO266
     clear HO269
     clear HO273
     clear HO276
     clear HO280
     clear HO283
     clear BK254
     clear BK255
     clear BK277
     clear BK284
     clear HB
     have HO260 := n0_
     have HO263 := n1_
     have HO266 := n2_
     have HO269 := n3_
     have HO273 := n4_
     have HO276 := n5_
     have HO280 := n6_
     have HO283 := n7_
     have HO288 := n8_
     have HO291 := n9_
     have BK254 := n10_
     have BK255 := n11_
     have BK277 := n12_
     have BK284 := n13_
     have HB := n14_
     clear n0_ n1_ n2_ n3_ n4_ n5_ n6_ n7_ n8_ n9_ n10_ n11_ n12_ n13_ n14_
     (try clear hb)
     (try clear hb2)
     (try clear hk)
     (try clear hi)
     (try clear ho0)
     (try clear ho1)
     obtain ⟨Ao190, co190, eo190⟩ := Kd.R_slice HO288.out
     (first | subst eo190 | (injection eo190 with f1_ f2_ f3_; have f4_ := f1_.symm; have f5_ := f3_.symm; clear f1_ f2_ f3_; subst f4_; subst f5_))
     obtain ⟨Ao191, co191, eo191⟩ := Kd.R_slice HO291.out
     (first | subst eo191 | (injection eo191 with f1_ f2_ f3_; have f4_ := f1_.symm; have f5_ := f3_.symm; clear f1_ f2_ f3_; subst f4_; subst f5_))
     refine hK.out _ _ ⟨(blk_cell BK277.out 0).trans rfl, (blk_cell BK277.out 1).trans rfl, (blk_cell BK254.out 0).trans rfl, (blk_cell BK254.out 1).trans rfl⟩ (fun hHeld => ?_)
     clear hK K
     refine norm_ (a' := ?_) ?_ ?_
     rotate_left
     ·show Act.put _ (some 37) _ = _
      simp only [px_q]
      rfl
     refine one_ (i := 3) (N := some 38) (px_l 4 1) rfl rfl (by kernel_rfl) (by decide) (fun K hK => ?_)
     refine goes_ Try.func8 (by kernel_rfl) rfl #[.agg #[.slice Ao172 t271.length co172, .slice Ao176 t274.length co176], .agg #[.slice Ao190 t286.length co190, .slice Ao191 t289.length co191]] (by rfl) rfl rfl px_dn ?_
     with_reducible refine (laws_eqDict.calls k _ _ t271 _ _ t274 _ _ t286 _ _ t289 false _ ?side1 ?side2 ?side3 ?side4 ?side5 ?side6 ?side7 ?side8 A61.out).mono ?_
     (case side1 => exact px_cV ((Kd.R_reads' HO273.out).2.2))
     (case side2 => exact (Kd.R_reads' HO273.out).2.1)
     (case side3 => exact px_cV ((Kd.R_reads' HO276.out).2.2))
     (case side4 => exact (Kd.R_reads' HO276.out).2.1)
     (case side5 => exact px_cV ((Kd.R_reads' HO288.out).2.2))
     (case side6 => exact (Kd.R_reads' HO288.out).2.1)
     (case side7 => exact px_cV ((Kd.R_reads' HO291.out).2.2))
     (case side8 => exact (Kd.R_reads' HO291.out).2.1)
     rintro e w192 ⟨rfl, hb⟩
     refine ⟨_, rfl, ?_⟩
     have n0_ := aM (Kd.R_below (px_rV HO260.out) hb)
     have n1_ := aM (Kd.R_below (px_rV HO263.out) hb)
     have n2_ := aM (Kd.R_below (px_rV HO266.out) hb)
     have n3_ := aM (Kd.R_below (px_rV HO269.out) hb)
     have n4_ := aM (Kd.R_below (px_rV HO273.out) hb)
     have n5_ := aM (Kd.R_below (px_rV HO276.out) hb)
     have n6_ := aM (Kd.R_below (px_rV HO280.out) hb)
     have n7_ := aM (Kd.R_below (px_rV HO283.out) hb)
     have n8_ := aM (Kd.R_below (px_rV HO288.out) hb)
     have n9_ := aM (Kd.R_below (px_rV HO291.out) hb)
     have n10_ := aM (blk_below (g := gb254) (o := .cells #[.slice A0_0 l0_0.length c0_0, .slice A0_1 l0_1.length c0_1] 25 (0, 0)) (px_bV BK254.out) hb)
     have n11_ := aM (blk_below (g := gb255) (o := .cells #[.slice A1_0 l1_0.length c1_0, .slice A1_1 l1_1.length c1_1] 25 (0, 0)) (px_bV BK255.out) hb)
     have n12_ := aM (blk_below (g := gb277) (o := .cells #[.slice Ao172 t271.length co172, .slice Ao176 t274.length co176] 30 (0, 0)) (px_bV BK277.out) hb)
     have n13_ := aM (blk_below (g := gb284) (o := .cells #[.slice Ao180 t278.length co180, .slice Ao185 t281.length co185] 30 (0, 0)) (px_bV BK284.out) hb)
     have n14_ := aM (below_step (px_h4 HB.out GE254.out GE255.out GE277.out GE284.out) hb)
     clear HO260
     clear HO263
     clear HO266
     clear HO269
     clear HO273
     clear HO276
     clear HO280
     clear HO283
     clear HO288
     clear HO291
     clear BK254
     clear BK255
     clear BK277
     clear BK284
     clear HB
     have HO260 := n0_
     have HO263 := n1_
     have HO266 := n2_
     have HO269 := n3_
     have HO273 := n4_
     have HO276 := n5_
     have HO280 := n6_
     have HO283 := n7_
     have HO288 := n8_
     have HO291 := n9_
     have BK254 := n10_
     have BK255 := n11_
     have BK277 := n12_
     have BK284 := n13_
     have HB := n14_
     clear n0_ n1_ n2_ n3_ n4_ n5_ n6_ n7_ n8_ n9_ n10_ n11_ n12_ n13_ n14_
     (try clear hb)
     (try clear hb2)
     (try clear hk)
     (try clear hi)
     refine hK.out _ _ ⟨(blk_cell BK277.out 0).trans rfl, (blk_cell BK277.out 1).trans rfl, (blk_cell BK254.out 0).trans rfl, (blk_cell BK254.out 1).trans rfl⟩ (fun hHeld => ?_)
     clear hK K
     refine norm_ (a' := ?_) ?_ ?_
     rotate_left
     ·show Act.put _ (some 38) _ = _
      simp only [px_q]
      rfl
     refine pure_ (i := 4) (N := some 39) (v := ?_) (a' := ?_) (px_l 5 0) rfl rfl (by kernel_rfl) (fun _ _ _ h => h) (Or.inl ⟨by rfl, ?_⟩) ?_ ?_
     rotate_left
     ·intro w'
      go_simp
      with_reducible rfl
     rotate_left
     ·simp only [px_q]
      rfl
     refine done_ (by kernel_rfl) ?_
     try go_wp2
     go_ret
     exact ⟨by first | rfl | (simp [errW_none, errW_some] <;> rfl) | (simp [*, errW_none, errW_some] <;> rfl), px_h4 HB.out GE254.out GE255.out GE277.out GE284.out⟩

end Go.Proofs.Ythocdlaajncmpaa.Q
