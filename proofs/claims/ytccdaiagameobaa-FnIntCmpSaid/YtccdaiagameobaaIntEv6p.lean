/- What the program's sums and differences of integers come to. -/
import Derived.Test.YtccdaiagameobaaIntEv6
import Derived.Test.YtccdaiagameobaaIntEv2
import Derived.Test.YtccdaiagameobaaQ7
import Derived.Test.YtccdaiagameobaaQ15
import Derived.Test.YtccdaiagameobaaQ16
import Derived.Test.YtccdaiagameobaaQ20
set_option linter.unusedSimpArgs false
set_option linter.unusedVariables false
namespace Go.Proofs.Ytccdaiagameobaa.IE
open Go.RowKit Go.Proofs.Ytccdaiagameobaa.Q Go.Proofs.YtccdaiagameobaaW.PrintWords Go.Proofs.IM
theorem impl_plus_ev (n m : Int) (hn : (dig n.natAbs).length ≤ 40000) (hm : (dig m.natAbs).length ≤ 40000) :
    Ev (fun k => impl_number_plus.f k (decide (n < 0)) (dig n.natAbs) (decide (m < 0)) (dig m.natAbs)) (decide (n + m < 0), dig (n + m).natAbs) := by
  unfold impl_number_plus.f
  by_cases hs : (decide (n < 0) == decide (m < 0)) = true
  · simp only [if_pos hs]
    have hs' : (n < 0 ↔ m < 0) := by simpa using hs
    obtain ⟨R, hR, hll, hv, he⟩ := impl_add_ev n.natAbs m.natAbs (by omega) (by omega)
    refine Ev.bind he ?_
    exact Ev.bind (impl_tidy_ev _ R hR (by omega) (n + m) (by omega) (fun h => by congr 1; rw [eq_iff_iff]; omega)) (Ev.now _)
  · simp only [if_neg hs]
    have hs' : ¬ (n < 0 ↔ m < 0) := by simpa using hs
    refine Ev.bind (impl_compare_ev n.natAbs m.natAbs (by omega) (by omega)) ?_
    by_cases hc : m.natAbs ≤ n.natAbs
    · have h1 : cmp (n.natAbs : Int) m.natAbs ≥ 0 := by unfold cmp; rw [if_neg (by omega)]; split <;> decide
      simp only [if_pos h1]
      refine Ev.bind (impl_sub_ev n.natAbs m.natAbs hc (by omega)) ?_
      have hl : (dig (n.natAbs - m.natAbs)).length ≤ 1000000 := by
        have : (dig (n.natAbs - m.natAbs)).length ≤ (dig n.natAbs).length := dig_length_le.2 (Nat.lt_of_le_of_lt (Nat.sub_le _ _) (dig_lt_pow _))
        omega
      exact Ev.bind (impl_tidy_ev _ _ (dig_Dig _) hl (n + m) (by rw [val_dig]; omega) (fun h => by congr 1; rw [eq_iff_iff]; omega)) (Ev.now _)
    · have h1 : ¬ cmp (n.natAbs : Int) m.natAbs ≥ 0 := by unfold cmp; rw [if_pos (by omega)]; decide
      simp only [if_neg h1]
      refine Ev.bind (impl_sub_ev m.natAbs n.natAbs (by omega) (by omega)) ?_
      have hl : (dig (m.natAbs - n.natAbs)).length ≤ 1000000 := by
        have : (dig (m.natAbs - n.natAbs)).length ≤ (dig m.natAbs).length := dig_length_le.2 (Nat.lt_of_le_of_lt (Nat.sub_le _ _) (dig_lt_pow _))
        omega
      exact Ev.bind (impl_tidy_ev _ _ (dig_Dig _) hl (n + m) (by rw [val_dig]; omega) (fun h => by congr 1; rw [eq_iff_iff]; omega)) (Ev.now _)
theorem impl_minus_ev (n : Int) (hn : (dig n.natAbs).length ≤ 40000) : Ev (fun k => impl_number_minus.f k (decide (n < 0)) (dig n.natAbs)) (decide (-n < 0), dig (-n).natAbs) := by
  unfold impl_number_minus.f
  exact Ev.bind (impl_tidy_ev _ _ (dig_Dig _) (by omega) (-n) (by rw [val_dig]; omega) (fun h => by rw [← decide_not]; congr 1; rw [eq_iff_iff]; omega)) (Ev.now _)

theorem impl_IntAdd_ev (a b : List UInt8) (ha : a.length ≤ 1000000000000000) (hb : b.length ≤ 1000000000000000) : Ev (fun k => impl_IntAdd.f k (mkS a) (mkS b)) (res2 (· + ·) a b) := by
  unfold impl_IntAdd.f res2
  by_cases h : okInt a = true ∧ okInt b = true
  · rw [if_pos h]
    refine Ev.bind (impl_two_ev a b ha hb h) ?_
    simp only [if_true]
    have l1 := ok_len h.1
    have l2 := ok_len h.2
    refine Ev.bind (impl_plus_ev _ _ (by omega) (by omega)) ?_
    simp only [impl_text_eq, Option.bind_some]
    exact Ev.now _
  · rw [if_neg h]
    obtain ⟨r, hr, he⟩ := impl_two_no a b ha hb h
    exact Ev.bind he (two_false hr (Ev.now _))
theorem impl_IntSub_ev (a b : List UInt8) (ha : a.length ≤ 1000000000000000) (hb : b.length ≤ 1000000000000000) : Ev (fun k => impl_IntSub.f k (mkS a) (mkS b)) (res2 (· - ·) a b) := by
  unfold impl_IntSub.f res2
  by_cases h : okInt a = true ∧ okInt b = true
  · rw [if_pos h]
    refine Ev.bind (impl_two_ev a b ha hb h) ?_
    simp only [if_true]
    have l1 := ok_len h.1
    have l2 := ok_len h.2
    refine Ev.bind (impl_minus_ev _ (by omega)) ?_
    refine Ev.bind (impl_plus_ev _ _ (by omega) (by rw [Int.natAbs_neg]; omega)) ?_
    simp only [impl_text_eq, Option.bind_some]
    rw [← Int.sub_eq_add_neg]
    exact Ev.now _
  · rw [if_neg h]
    obtain ⟨r, hr, he⟩ := impl_two_no a b ha hb h
    exact Ev.bind he (two_false hr (Ev.now _))

end Go.Proofs.Ytccdaiagameobaa.IE
