/- Cuts: what the program and the reference reckon of them. -/
import Derived.Test.YtbojiadjeggkhaaLsBase
import Derived.Test.YtbojiadjeggkhaaLcMath
import Derived.Test.YtbojiadjeggkhaaQ2
import Derived.Test.YtbojiadjeggkhaaQ3
import Derived.Test.YtbojiadjeggkhaaQ4
set_option linter.unusedSimpArgs false
set_option linter.unusedVariables false
namespace Go.Proofs.Ytbojiadjeggkhaa.GE
open Go.RowKit Go.Proofs.Ytbojiadjeggkhaa.Q Go.Proofs.YtbojiadjeggkhaaW.PrintWords Go.Proofs.YtbojiadjeggkhaaW.PrintMore Go.Proofs.GR Go.Proofs.LC

/-- Valid cuts. -/
def vcut (c0 c1 s : Int) (a b : Bool) : Bool := decide ((-1000000 ≤ c0 ∧ c0 ≤ 1000000) ∧ (-1000000 ≤ c1 ∧ c1 ≤ 1000000) ∧ (-1000000 ≤ s ∧ s ≤ 1000000) ∧ s ≠ 0 ∧ (a = true ∨ c0 = 0) ∧ (b = true ∨ c1 = 0))
theorem vcut_iff {c0 c1 s : Int} {a b : Bool} : vcut c0 c1 s a b = true ↔ ((-1000000 ≤ c0 ∧ c0 ≤ 1000000) ∧ (-1000000 ≤ c1 ∧ c1 ≤ 1000000) ∧ (-1000000 ≤ s ∧ s ≤ 1000000) ∧ s ≠ 0 ∧ (a = true ∨ c0 = 0) ∧ (b = true ∨ c1 = 0)) := by unfold vcut; rw [decide_eq_true_eq]
theorem CutOk_eq (c0 c1 s : Int) (a b : Bool) : impl_CutOk.f c0 c1 s a b = some (vcut c0 c1 s a b) := by
  unfold impl_CutOk.f vcut
  simp only [within_eq, Option.bind_some]
  by_cases h0 : -1000000 ≤ c0 ∧ c0 ≤ 1000000 <;> by_cases h1 : -1000000 ≤ c1 ∧ c1 ≤ 1000000 <;> by_cases h2 : -1000000 ≤ s ∧ s ≤ 1000000 <;> by_cases h3 : s = 0 <;> cases a <;> cases b <;> by_cases h4 : c0 = 0 <;> by_cases h5 : c1 = 0 <;> simp [h0, h1, h2, h3, h4, h5]
theorem validCut_eq (c0 c1 s : Int) (a b : Bool) : spec_validCut.f c0 c1 s a b = some (vcut c0 c1 s a b) := by
  unfold spec_validCut.f vcut
  simp only [inRange_eq, Option.bind_some]
  by_cases h0 : -1000000 ≤ c0 ∧ c0 ≤ 1000000 <;> by_cases h1 : -1000000 ≤ c1 ∧ c1 ≤ 1000000 <;> by_cases h2 : -1000000 ≤ s ∧ s ≤ 1000000 <;> by_cases h3 : s = 0 <;> cases a <;> cases b <;> by_cases h4 : c0 = 0 <;> by_cases h5 : c1 = 0 <;> simp [h0, h1, h2, h3, h4, h5]
theorem CutRange_eq (n c0 c1 s : Int) (a b : Bool) (h0 : 0 ≤ n) (h1 : n ≤ 1000000) (hv : vcut c0 c1 s a b = true) : impl_CutRange.f n c0 c1 s a b = some (cutRange n c0 c1 s a b) := by
  unfold impl_CutRange.f
  rw [within_eq, decide_eq_true ⟨h0, h1⟩, CutOk_eq, hv]
  rfl
theorem bound_has (n low high given missing : Int) (hl : low ≤ high) : low ≤ cutBound n low high true given missing ∧ cutBound n low high true given missing ≤ high := by
  unfold cutBound
  simp only [if_true]
  constructor <;> (repeat' split) <;> omega
/-- How a cut's places lie. -/
theorem cutRange_ok {n c0 c1 s : Int} {a b : Bool} (h0 : 0 ≤ n) (h1 : n ≤ 1000000) (hs : s ≠ 0) (h2 : -1000000 ≤ s) (h3 : s ≤ 1000000) :
    0 ≤ (cutRange n c0 c1 s a b).2 ∧ (cutRange n c0 c1 s a b).2 ≤ n ∧ -1 ≤ (cutRange n c0 c1 s a b).1 ∧ (cutRange n c0 c1 s a b).1 ≤ n ∧ Lies n (cutRange n c0 c1 s a b).1 s (cutRange n c0 c1 s a b).2.toNat := by
  rcases Int.lt_or_lt_of_ne hs with hn | hp
  · have hf : -1 ≤ cutBound n (-1) (n - 1) a c0 (n - 1) ∧ cutBound n (-1) (n - 1) a c0 (n - 1) ≤ n - 1 := by
      cases a with
      | true => exact bound_has _ _ _ _ _ (by omega)
      | false => simp [cutBound]; omega
    have ht : -1 ≤ cutBound n (-1) (n - 1) b c1 (-1) ∧ cutBound n (-1) (n - 1) b c1 (-1) ≤ n - 1 := by
      cases b with
      | true => exact bound_has _ _ _ _ _ (by omega)
      | false => simp [cutBound]; omega
    simp only [cutRange, if_pos hn, if_neg (show ¬ s > 0 by omega)]
    generalize cutBound n (-1) (n - 1) a c0 (n - 1) = f at *
    generalize cutBound n (-1) (n - 1) b c1 (-1) = t at *
    by_cases hft : f > t
    · rw [if_pos hft]
      have e0 : 0 ≤ (f - t - 1) / (-s) := Int.ediv_nonneg (by omega) (by omega)
      have e1 : (f - t - 1) / (-s) ≤ f - t - 1 := Int.ediv_le_self _ (by omega)
      refine ⟨by omega, by omega, by omega, by omega, hs, fun i hi => ?_⟩
      have hi' : (i : Int) ≤ (f - t - 1) / (-s) := by omega
      have hm : (i : Int) * (-s) ≤ f - t - 1 := (Int.le_ediv_iff_mul_le (by omega)).1 hi'
      have hz : 0 ≤ (i : Int) * (-s) := Int.mul_nonneg (by omega) (by omega)
      rw [Int.mul_neg] at hm hz
      omega
    · rw [if_neg hft]
      exact ⟨by omega, by omega, by omega, by omega, hs, fun i hi => by simp at hi⟩
  · have hf : 0 ≤ cutBound n 0 n a c0 0 ∧ cutBound n 0 n a c0 0 ≤ n := by
      cases a with
      | true => exact bound_has _ _ _ _ _ (by omega)
      | false => simp [cutBound]; omega
    have ht : 0 ≤ cutBound n 0 n b c1 n ∧ cutBound n 0 n b c1 n ≤ n := by
      cases b with
      | true => exact bound_has _ _ _ _ _ (by omega)
      | false => simp [cutBound]; omega
    simp only [cutRange, if_neg (show ¬ s < 0 by omega), if_pos (show s > 0 by omega)]
    generalize cutBound n 0 n a c0 0 = f at *
    generalize cutBound n 0 n b c1 n = t at *
    by_cases hft : f < t
    · rw [if_pos hft]
      have e0 : 0 ≤ (t - f - 1) / s := Int.ediv_nonneg (by omega) (by omega)
      have e1 : (t - f - 1) / s ≤ t - f - 1 := Int.ediv_le_self _ (by omega)
      refine ⟨by omega, by omega, by omega, by omega, hs, fun i hi => ?_⟩
      have hi' : (i : Int) ≤ (t - f - 1) / s := by omega
      have hm : (i : Int) * s ≤ t - f - 1 := (Int.le_ediv_iff_mul_le hp).1 hi'
      have hz : 0 ≤ (i : Int) * s := Int.mul_nonneg (by omega) (by omega)
      omega
    · rw [if_neg hft]
      exact ⟨by omega, by omega, by omega, by omega, hs, fun i hi => by simp at hi⟩
theorem clamped_eq {i n low high m : Int} (h0 : 0 ≤ n) (h1 : n ≤ 1000000) (h2 : -1000000 ≤ i) (h3 : i ≤ 1000000) (hl : low ≤ high) : spec_clamped.f i n low high = some (cutBound n low high true i m) := by
  unfold spec_clamped.f cutBound
  simp only [if_true]
  have key : ∀ x : Int, mx low (mn high x) = (if high < (if x < low then low else x) then high else (if x < low then low else x)) := by
    intro x; unfold mx mn; (repeat' split) <;> omega
  by_cases hi : i < 0
  · rw [if_pos hi, w64 (by omega) (by omega), key, if_pos hi]
  · rw [if_neg hi, key, if_neg hi]
/-- The reference reckons what the program does. -/
theorem cutOf_ev (n c0 c1 s : Int) (a b : Bool) (h0 : 0 ≤ n) (h1 : n ≤ 1000000) (hv : vcut c0 c1 s a b = true) : Ev (fun k => spec_cutOf.f k n c0 c1 s a b) (cutRange n c0 c1 s a b) := by
  obtain ⟨⟨g0, g1⟩, ⟨g2, g3⟩, ⟨g4, g5⟩, hs, -, -⟩ := vcut_iff.1 hv
  have miss : ∀ (n low high given m : Int), cutBound n low high false given m = m := fun _ _ _ _ _ => rfl
  unfold spec_cutOf.f
  -- from the bounds on, for whatever starts
  have j1 : ∀ low high x8 x9 : Int, low ≤ high → -1 ≤ low → low ≤ 0 → -1 ≤ high → high ≤ n → -1 ≤ x8 → x8 ≤ n → -1 ≤ x9 → x9 ≤ n →
      Ev (fun k => spec_cutOf.j1 k n low high x8 x9 c0 c1 s a b) (cutBound n low high a c0 x8, if s > 0 then (if cutBound n low high a c0 x8 < cutBound n low high b c1 x9 then (cutBound n low high b c1 x9 - cutBound n low high a c0 x8 - 1) / s + 1 else 0) else (if cutBound n low high a c0 x8 > cutBound n low high b c1 x9 then (cutBound n low high a c0 x8 - cutBound n low high b c1 x9 - 1) / (-s) + 1 else 0)) := by
    intro low high x8 x9 hlh l0 l1 l2 l3 l4 l5 l6 l7
    have B1 := cutBound_range n low high c0 x8 a h0 h1 l0 l1 l2 (by omega) l4 (by omega) g0 g1
    have B2 := cutBound_range n low high c1 x9 b h0 h1 l0 l1 l2 (by omega) l6 (by omega) g2 g3
    have j3 : ∀ f t : Int, -1 ≤ f → f ≤ 1000000 → -1 ≤ t → t ≤ 1000000 → Ev (fun k => spec_cutOf.j3 k f t c0 c1 s a b) (f, if s > 0 then (if f < t then (t - f - 1) / s + 1 else 0) else (if f > t then (f - t - 1) / (-s) + 1 else 0)) := by
      intro f t f0 f1 t0 t1
      refine Ev.step (fun k => spec_cutOf.j3.eq_2 ..) ?_
      by_cases hp : s > 0
      · simp only [if_pos hp]
        refine Ev.step (fun k => spec_cutOf.j4.eq_2 ..) ?_
        by_cases hft : f < t
        · simp only [decide_eq_true (show t > f from hft), if_true, if_neg hs, if_neg (show ¬ s < 0 by omega), if_pos hft]
          have e0 : 0 ≤ (t - f - 1) / s := Int.ediv_nonneg (by omega) (by omega)
          have e1 : (t - f - 1) / s ≤ t - f - 1 := Int.ediv_le_self _ (by omega)
          rw [w64 (x := t - f) (by omega) (by omega), w64 (x := t - f - 1) (by omega) (by omega), Int.tdiv_eq_ediv_of_nonneg (by omega), w64 (x := (t - f - 1) / s) (by omega) (by omega), w64 (by omega) (by omega)]
          exact Ev.now _
        · simp only [decide_eq_false (show ¬ t > f from hft), Bool.false_eq_true, if_false, if_neg (show ¬ s < 0 by omega), if_neg hft]
          exact Ev.now _
      · simp only [if_neg hp]
        refine Ev.step (fun k => spec_cutOf.j4.eq_2 ..) ?_
        simp only [Bool.false_eq_true, if_false, if_pos (show s < 0 by omega)]
        by_cases hft : f > t
        · simp only [if_pos hft]
          have e0 : 0 ≤ (f - t - 1) / (-s) := Int.ediv_nonneg (by omega) (by omega)
          have e1 : (f - t - 1) / (-s) ≤ f - t - 1 := Int.ediv_le_self _ (by omega)
          rw [w64 (x := -s) (by omega) (by omega), if_neg (show ¬ -s = 0 by omega), w64 (x := f - t) (by omega) (by omega), w64 (x := f - t - 1) (by omega) (by omega), Int.tdiv_eq_ediv_of_nonneg (by omega), w64 (x := (f - t - 1) / (-s)) (by omega) (by omega), w64 (by omega) (by omega)]
          exact Ev.now _
        · simp only [if_neg hft]
          exact Ev.now _
    have j2 : ∀ f : Int, -1 ≤ f → f ≤ 1000000 → Ev (fun k => spec_cutOf.j2 k n low high f x9 c0 c1 s a b) (f, if s > 0 then (if f < cutBound n low high b c1 x9 then (cutBound n low high b c1 x9 - f - 1) / s + 1 else 0) else (if f > cutBound n low high b c1 x9 then (f - cutBound n low high b c1 x9 - 1) / (-s) + 1 else 0)) := by
      intro f f0 f1
      refine Ev.step (fun k => spec_cutOf.j2.eq_2 ..) ?_
      cases b with
      | true =>
        simp only [if_true]
        rw [clamped_eq (m := x9) h0 h1 g2 g3 hlh]
        exact j3 _ _ f0 f1 B2.1 B2.2
      | false =>
        simp only [Bool.false_eq_true, if_false]
        exact j3 _ _ f0 f1 (by omega) (by omega)
    refine Ev.step (fun k => spec_cutOf.j1.eq_2 ..) ?_
    cases a with
    | true =>
      simp only [if_true]
      rw [clamped_eq (m := x8) h0 h1 g0 g1 hlh]
      exact j2 _ B1.1 B1.2
    | false =>
      simp only [Bool.false_eq_true, if_false]
      exact j2 _ (by omega) (by omega)
  by_cases hn : s < 0
  · simp only [if_pos hn]
    refine Ev.step (fun k => spec_cutOf.j0.eq_2 ..) ?_
    simp only [if_pos hn]
    rw [w64 (by omega) (by omega)]
    have := j1 (-1) (n - 1) (n - 1) (-1) (by omega) (by omega) (by omega) (by omega) (by omega) (by omega) (by omega) (by omega) (by omega)
    have e : cutRange n c0 c1 s a b = (cutBound n (-1) (n - 1) a c0 (n - 1), if s > 0 then (if cutBound n (-1) (n - 1) a c0 (n - 1) < cutBound n (-1) (n - 1) b c1 (-1) then (cutBound n (-1) (n - 1) b c1 (-1) - cutBound n (-1) (n - 1) a c0 (n - 1) - 1) / s + 1 else 0) else (if cutBound n (-1) (n - 1) a c0 (n - 1) > cutBound n (-1) (n - 1) b c1 (-1) then (cutBound n (-1) (n - 1) a c0 (n - 1) - cutBound n (-1) (n - 1) b c1 (-1) - 1) / (-s) + 1 else 0)) := by
      simp only [cutRange, if_pos hn]
    rw [e]
    exact this
  · simp only [if_neg hn]
    refine Ev.step (fun k => spec_cutOf.j0.eq_2 ..) ?_
    simp only [if_neg hn]
    have := j1 0 n 0 n (by omega) (by omega) (by omega) (by omega) (by omega) (by omega) (by omega) (by omega) (by omega)
    have e : cutRange n c0 c1 s a b = (cutBound n 0 n a c0 0, if s > 0 then (if cutBound n 0 n a c0 0 < cutBound n 0 n b c1 n then (cutBound n 0 n b c1 n - cutBound n 0 n a c0 0 - 1) / s + 1 else 0) else (if cutBound n 0 n a c0 0 > cutBound n 0 n b c1 n then (cutBound n 0 n a c0 0 - cutBound n 0 n b c1 n - 1) / (-s) + 1 else 0)) := by
      simp only [cutRange, if_neg hn]
    rw [e]
    exact this
end Go.Proofs.Ytbojiadjeggkhaa.GE
