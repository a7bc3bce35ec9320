/- Drawn lists and cuts: the drawing always answers, the lists are short. -/
import Derived.Test.YtpilehndngclhaaRnd
import Derived.Test.YtpilehndngclhaaLsBase
import Derived.Test.YtpilehndngclhaaQ1
set_option linter.unusedSimpArgs false
set_option linter.unusedVariables false
namespace Go.Proofs.Ytpilehndngclhaa.RD
open Go.RowKit Go.Proofs.Ytpilehndngclhaa.Q Go.Proofs.YtpilehndngclhaaW.PrintWords

theorem numbers_l {d : List Int} (hd : Bytes d) (m : Int) : ∀ (e : Nat) (x c : Int) (l : List Int), x ≤ e → e ≤ 1000 → 0 ≤ c → c + e ≤ 10000000 → l.length + e ≤ 10000 →
    ∃ r c', Ev (fun k => spec_rnd_numbers.l0 k m l x d c) (r, c') ∧ r.length ≤ l.length + e ∧ c ≤ c' ∧ c' ≤ c + e := by
  intro e
  induction e with
  | zero =>
    intro x c l hx he hc hc2 hl
    refine ⟨l, c, Ev.step (fun k => spec_rnd_numbers.l0.eq_2 ..) ?_, by omega, by omega, by omega⟩
    simp only [if_neg (show ¬ x > 0 by omega)]
    exact Ev.now _
  | succ e ih =>
    intro x c l hx he hc hc2 hl
    by_cases h : x > 0
    · obtain ⟨v, c1, hv, g0, g1, g2, g3⟩ := pick_ok hd (n := m) hc (by omega)
      obtain ⟨r, c', hr, hrl, k2, k3⟩ := ih (x - 1) c1 (l ++ [v]) (by omega) (by omega) (by omega) (by omega) (by rw [List.length_append, List.length_singleton]; omega)
      rw [List.length_append, List.length_singleton] at hrl
      refine ⟨r, c', Ev.step (fun k => spec_rnd_numbers.l0.eq_2 ..) ?_, by omega, by omega, by omega⟩
      simp only [if_pos h, hv, Option.bind_some, if_pos (show l.length < 17592186044416 by omega), wr (x := x - 1) (by omega) (by omega)]
      exact hr
    · refine ⟨l, c, Ev.step (fun k => spec_rnd_numbers.l0.eq_2 ..) ?_, by omega, by omega, by omega⟩
      simp only [if_neg h]
      exact Ev.now _
theorem numbers_ev {d : List Int} (hd : Bytes d) (n m : Int) (hn0 : 0 ≤ n) (hn : n ≤ 100) {c : Int} (h0 : 0 ≤ c) (h1 : c ≤ 1000000) : ∃ r c', Ev (fun k => spec_rnd_numbers.f k d c n m) (r, c') ∧ r.length ≤ n ∧ c ≤ c' ∧ c' ≤ c + 200 := by
  obtain ⟨v, c1, hv, g0, g1, g2, g3⟩ := pick_ok hd (n := n + 1) h0 (by omega)
  have g1 := g1 (by omega)
  obtain ⟨r, c', hr, hrl, k2, k3⟩ := numbers_l hd m v.toNat v c1 [] (by omega) (by omega) (by omega) (by omega) (by simp; omega)
  refine ⟨r, c', ?_, by simp at hrl; omega, by omega, by omega⟩
  unfold spec_rnd_numbers.f
  have e4 : wrap64 (n + 1) = n + 1 := wr (x := n + 1) (by omega) (by omega)
  simp only [e4, hv, Option.bind_some]
  exact hr
end Go.Proofs.Ytpilehndngclhaa.RD
