/- What the program's products, quotients and rests of integers come to, and the reference's. -/
import Derived.Test.YtccdaiagameobaaIntEv6
import Derived.Test.YtccdaiagameobaaIntEv3
import Derived.Test.YtccdaiagameobaaQ19
set_option linter.unusedSimpArgs false
set_option linter.unusedVariables false
namespace Go.Proofs.Ytccdaiagameobaa.IE
open Go.RowKit Go.Proofs.Ytccdaiagameobaa.Q Go.Proofs.YtccdaiagameobaaW.PrintWords Go.Proofs.IM

theorem mul_len_gen {a b K L : Nat} (ha : (dig a).length ≤ K) (hb : (dig b).length ≤ L) : (dig (a * b)).length ≤ K + L := by
  refine dig_length_le.2 ?_
  rw [Nat.pow_add]
  exact Nat.mul_lt_mul'' (dig_length_le.1 ha) (dig_length_le.1 hb)
theorem mul_len {a b : Nat} (ha : (dig a).length ≤ 400) (hb : (dig b).length ≤ 400) : (dig (a * b)).length ≤ 800 := mul_len_gen ha hb
theorem mul_neg_iff {n m : Int} (h : n * m ≠ 0) : decide (n * m < 0) = (decide (n < 0) != decide (m < 0)) := by
  have hn : n ≠ 0 := fun e => h (by rw [e, Int.zero_mul])
  have hm : m ≠ 0 := fun e => h (by rw [e, Int.mul_zero])
  by_cases h1 : n < 0
  · by_cases h2 : m < 0
    · have := Int.mul_pos_of_neg_of_neg h1 h2
      simp [h1, h2]; omega
    · have := Int.mul_neg_of_neg_of_pos h1 (by omega : 0 < m)
      simp [h1, h2]; omega
  · by_cases h2 : m < 0
    · have := Int.mul_neg_of_pos_of_neg (by omega : 0 < n) h2
      simp [h1, h2]; omega
    · have := Int.mul_pos (by omega : 0 < n) (by omega : 0 < m)
      simp [h1, h2]; omega
theorem impl_times_ev (n m : Int) (hn : (dig n.natAbs).length ≤ 400) (hm : (dig m.natAbs).length ≤ 400) :
    Ev (fun k => impl_number_times.f k (decide (n < 0)) (dig n.natAbs) (decide (m < 0)) (dig m.natAbs)) (decide (n * m < 0), dig (n * m).natAbs) := by
  unfold impl_number_times.f
  refine Ev.bind (impl_mul_ev n.natAbs m.natAbs (by omega) (by omega)) ?_
  have hl := mul_len hn hm
  exact Ev.bind (impl_tidy_ev _ _ (dig_Dig _) (by omega) (n * m) (by rw [val_dig, Int.natAbs_mul]) (fun h => (mul_neg_iff h).symm)) (Ev.now _)
theorem impl_IntMul_ev (a b : List UInt8) (ha : a.length ≤ 1000000000000000) (hb : b.length ≤ 1000000000000000) : Ev (fun k => impl_IntMul.f k (mkS a) (mkS b)) (res2 (· * ·) a b) := by
  unfold impl_IntMul.f res2
  by_cases h : okInt a = true ∧ okInt b = true
  · rw [if_pos h]
    refine Ev.bind (impl_two_ev a b ha hb h) ?_
    simp only [if_true]
    have l1 := ok_len h.1
    have l2 := ok_len h.2
    refine Ev.bind (impl_times_ev _ _ (by omega) (by omega)) ?_
    simp only [impl_text_eq, Option.bind_some]
    exact Ev.now _
  · rw [if_neg h]
    obtain ⟨r, hr, he⟩ := impl_two_no a b ha hb h
    exact Ev.bind he (two_false hr (Ev.now _))
end Go.Proofs.Ytccdaiagameobaa.IE
