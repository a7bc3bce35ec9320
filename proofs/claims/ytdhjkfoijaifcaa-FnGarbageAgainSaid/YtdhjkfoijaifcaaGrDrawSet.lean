/- The reference's drawing of a set of objects: it always answers, with a small one. -/
import Derived.Test.YtdhjkfoijaifcaaRndOdd
import Derived.Test.YtdhjkfoijaifcaaQ19
set_option linter.unusedSimpArgs false
set_option linter.unusedVariables false
namespace Go.Proofs.Ytdhjkfoijaifcaa.RD
open Go.RowKit Go.Proofs.Ytdhjkfoijaifcaa.Q Go.Proofs.YtdhjkfoijaifcaaW.PrintWords

theorem set_l0 {d : List Int} (hd : Bytes d) (n : Int) : ∀ (e : Nat) (i c : Int) (l : List Int), n - i ≤ e → e ≤ 1000 → 0 ≤ i → i + e ≤ 10000 → 0 ≤ c → c + e ≤ 1000000 → l.length + e ≤ 10000 →
    ∃ r c', Ev (fun k => spec_rnd_set.l0 k n l i d c) (r, c') ∧ r.length ≤ l.length + e + 1 ∧ c ≤ c' ∧ c' ≤ c + e + 2 := by
  intro e
  have stop : ∀ (e : Nat) (i c : Int) (l : List Int), ¬ i < n → 0 ≤ c → c ≤ 1000000 → l.length ≤ 10000 → ∃ r c', Ev (fun k => spec_rnd_set.l0 k n l i d c) (r, c') ∧ r.length ≤ l.length + e + 1 ∧ c ≤ c' ∧ c' ≤ c + e + 2 := by
    intro e i c l hi hc hc2 hl
    obtain ⟨v, c1, hv, g0, g1, g2, g3⟩ := pick_ok hd (n := 14) hc (by omega)
    obtain ⟨m, c2, hm, k2, k3⟩ := odd_ok hd (c := c1) (by omega) (by omega)
    by_cases h : v = 0
    · refine ⟨l ++ [m], c2, Ev.step (fun k => spec_rnd_set.l0.eq_2 ..) ?_, by rw [List.length_append, List.length_singleton]; omega, by omega, by omega⟩
      simp only [if_neg hi, hv, Option.bind_some, if_pos h, hm, if_pos (show l.length < 17592186044416 by omega)]
      exact Ev.now _
    · refine ⟨l, c1, Ev.step (fun k => spec_rnd_set.l0.eq_2 ..) ?_, by omega, by omega, by omega⟩
      simp only [if_neg hi, hv, Option.bind_some, if_neg h]
      exact Ev.now _
  induction e with
  | zero => intro i c l hm he hi hi2 hc hc2 hl; exact stop 0 i c l (by omega) hc (by omega) (by omega)
  | succ e ih =>
    intro i c l hm he hi hi2 hc hc2 hl
    by_cases h : i < n
    · obtain ⟨v, c1, hv, g0, g1, g2, g3⟩ := pick_ok hd (n := 3) hc (by omega)
      have hw : wrap64 (i + 1) = i + 1 := wr (by omega) (by omega)
      by_cases hz : v > 0
      · obtain ⟨r, c', hr, q1, q2, q3⟩ := ih (i + 1) c1 (l ++ [i]) (by omega) (by omega) (by omega) (by omega) (by omega) (by omega) (by rw [List.length_append, List.length_singleton]; omega)
        rw [List.length_append, List.length_singleton] at q1
        refine ⟨r, c', Ev.step (fun k => spec_rnd_set.l0.eq_2 ..) ?_, by omega, by omega, by omega⟩
        simp only [if_pos h, hv, Option.bind_some, if_pos hz, if_pos (show l.length < 17592186044416 by omega), hw]
        exact hr
      · obtain ⟨r, c', hr, q1, q2, q3⟩ := ih (i + 1) c1 l (by omega) (by omega) (by omega) (by omega) (by omega) (by omega) (by omega)
        refine ⟨r, c', Ev.step (fun k => spec_rnd_set.l0.eq_2 ..) ?_, by omega, by omega, by omega⟩
        simp only [if_pos h, hv, Option.bind_some, if_neg hz, hw]
        exact hr
    · exact stop (e + 1) i c l h hc (by omega) (by omega)
theorem set_ev {d : List Int} (hd : Bytes d) (n : Nat) (hn : n ≤ 1000) {c : Int} (h0 : 0 ≤ c) (h1 : c ≤ 100000) : ∃ r c', Ev (fun k => spec_rnd_set.f k d c n) (r, c') ∧ r.length ≤ n + 1 ∧ c ≤ c' ∧ c' ≤ c + 2000 := by
  obtain ⟨r, c', hr, q1, q2, q3⟩ := set_l0 hd n n 0 c [] (by omega) (by omega) (by omega) (by omega) h0 (by omega) (by simp; omega)
  refine ⟨r, c', ?_, by simp at q1; omega, q2, by omega⟩
  unfold spec_rnd_set.f
  exact hr
end Go.Proofs.Ytdhjkfoijaifcaa.RD
