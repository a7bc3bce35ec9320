/- What the program's comparison of integers comes to, and the reference's. -/
import Derived.Test.YtccdaiagameobaaIntEv6p
import Derived.Test.YtccdaiagameobaaQ28
import Derived.Test.YtccdaiagameobaaQ29
set_option linter.unusedSimpArgs false
set_option linter.unusedVariables false
namespace Go.Proofs.Ytccdaiagameobaa.IE
open Go.RowKit Go.Proofs.Ytccdaiagameobaa.Q Go.Proofs.YtccdaiagameobaaW.PrintWords Go.Proofs.IM

/-- What the comparisons answer. -/
def cmpR (a b : List UInt8) : Int := if okInt a = true ∧ okInt b = true then cmp (numOf a) (numOf b) else -2
theorem impl_IntCmp_ev (a b : List UInt8) (ha : a.length ≤ 1000000000000000) (hb : b.length ≤ 1000000000000000) : Ev (fun k => impl_IntCmp.f k (mkS a) (mkS b)) (cmpR a b) := by
  unfold impl_IntCmp.f cmpR
  by_cases h : okInt a = true ∧ okInt b = true
  · rw [if_pos h]
    refine Ev.bind (impl_two_ev a b ha hb h) ?_
    simp only [if_true]
    have l1 := ok_len h.1
    have l2 := ok_len h.2
    refine Ev.bind (impl_minus_ev _ (by omega)) ?_
    refine Ev.bind (impl_plus_ev _ _ (by omega) (by rw [Int.natAbs_neg]; omega)) ?_
    rw [← Int.sub_eq_add_neg]
    generalize numOf a = x at *
    generalize numOf b = y at *
    by_cases e : x - y = 0
    · have e1 : ((dig (x - y).natAbs).length : Int) = 0 := by rw [e]; simp [dig_zero]
      simp only [if_pos e1]
      unfold cmp
      rw [if_neg (by omega), if_pos (by omega)]
      exact Ev.now _
    · have e1 : ¬ ((dig (x - y).natAbs).length : Int) = 0 := by
        intro q
        have : dig (x - y).natAbs = [] := List.length_eq_zero_iff.1 (by omega)
        have := dig_nil.1 this
        omega
      simp only [if_neg e1]
      unfold cmp
      by_cases c : x - y < 0
      · simp only [decide_eq_true c, if_true]
        rw [if_pos (by omega)]
        exact Ev.now _
      · simp only [decide_eq_false c, Bool.false_eq_true, if_false]
        rw [if_neg (by omega), if_neg (by omega)]
        exact Ev.now _
  · rw [if_neg h]
    obtain ⟨r, hr, he⟩ := impl_two_no a b ha hb h
    exact Ev.bind he (two_false hr (Ev.now _))
theorem spec_IntCmp_ev (a b : List UInt8) (ha : a.length ≤ 1000000000000000) (hb : b.length ≤ 1000000000000000) : Ev (fun k => spec_IntCmp.f k (mkS a) (mkS b)) (cmpR a b) := by
  unfold spec_IntCmp.f cmpR
  refine Ev.bind (spec_valid_ev a ha) ?_
  by_cases h1 : okInt a = true
  · simp only [if_pos h1]
    refine Ev.bind (spec_valid_ev b hb) ?_
    by_cases h2 : okInt b = true
    · simp only [if_pos h2]
      rw [if_pos ⟨h1, h2⟩]
      refine Ev.bind ?_ (Ev.now _)
      unfold spec_cmpInts.f
      have l1 := ok_len h1
      have l2 := ok_len h2
      refine Ev.bind (spec_digits_ev a h1) (Ev.bind (spec_digits_ev b h2) ?_)
      generalize numOf a = x at *
      generalize numOf b = y at *
      by_cases c1 : x < 0 <;> by_cases c2 : y < 0
      · simp only [decide_eq_true c1, decide_eq_true c2, bne_self_eq_false, Bool.false_eq_true, if_false, if_true]
        refine Ev.bind (spec_compare_ev _ _ (by omega) (by omega)) ?_
        have : cmp (y.natAbs : Int) x.natAbs = cmp x y := by unfold cmp; split <;> split <;> (try split) <;> (try split) <;> omega
        rw [this]
        exact Ev.now _
      · simp only [decide_eq_true c1, decide_eq_false c2, show (true != false) = true from rfl, if_true]
        unfold cmp
        rw [if_pos (by omega)]
        exact Ev.now _
      · simp only [decide_eq_false c1, decide_eq_true c2, show (false != true) = true from rfl, if_true, Bool.false_eq_true, if_false]
        unfold cmp
        rw [if_neg (by omega), if_neg (by omega)]
        exact Ev.now _
      · simp only [decide_eq_false c1, decide_eq_false c2, bne_self_eq_false, Bool.false_eq_true, if_false]
        refine Ev.bind (spec_compare_ev _ _ (by omega) (by omega)) ?_
        have : cmp (x.natAbs : Int) y.natAbs = cmp x y := by unfold cmp; split <;> split <;> (try split) <;> (try split) <;> omega
        rw [this]
        exact Ev.now _
    · simp only [if_neg h2]
      rw [if_neg (fun h => h2 h.2)]
      exact Ev.now _
  · simp only [if_neg h1]
    rw [if_neg (fun h => h1 h.1)]
    exact Ev.now _
end Go.Proofs.Ytccdaiagameobaa.IE
