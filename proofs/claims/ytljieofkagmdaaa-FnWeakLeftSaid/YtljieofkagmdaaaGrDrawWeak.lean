/- The reference's drawing of weak references: it always answers, with few. -/
import Derived.Test.YtljieofkagmdaaaGrDraw
import Derived.Test.YtljieofkagmdaaaRndOften
import Derived.Test.YtljieofkagmdaaaQ22
set_option linter.unusedSimpArgs false
set_option linter.unusedVariables false
namespace Go.Proofs.Ytljieofkagmdaaa.RD
open Go.RowKit Go.Proofs.Ytljieofkagmdaaa.Q Go.Proofs.YtljieofkagmdaaaW.PrintWords Go.Proofs.GR Go.Proofs.Ytljieofkagmdaaa.GE

theorem weak_l0 {d : List Int} (hd : Bytes d) (g : List (List Int)) (hg : g.length ≤ 1000) (r : List Int) : ∀ (e : Nat) (x c : Int) (l : List Int), x ≤ e → e ≤ 1000 → 0 ≤ c → c + 5 * e ≤ 100000 → l.length + e ≤ 10000 →
    ∃ w, Ev (fun k => spec_DrawWeakLeft.l0 k g r l x d c) (g, r, w) ∧ w.length ≤ l.length + e := by
  intro e
  induction e with
  | zero =>
    intro x c l hx he hc hc2 hl
    refine ⟨l, Ev.step (fun k => spec_DrawWeakLeft.l0.eq_2 ..) ?_, by omega⟩
    simp only [if_neg (show ¬ x > 0 by omega)]
    exact Ev.now _
  | succ e ih =>
    intro x c l hx he hc hc2 hl
    by_cases h : x > 0
    · have hw : wrap64 ((g.length : Int) + 1) = (g.length : Int) + 1 := wr (by omega) (by omega)
      obtain ⟨v, c1, hv, g0, g1, g2, g3⟩ := pick_ok hd (n := (g.length : Int) + 1) hc (by omega)
      have g1 := g1 (by omega)
      obtain ⟨m, c2, hm, k2, k3⟩ := often_ok hd (c := c1) (by omega) (by omega) (wrap64 (v - 1))
      obtain ⟨w, hw2, hwl⟩ := ih (x - 1) c2 (l ++ [m]) (by omega) (by omega) (by omega) (by omega) (by rw [List.length_append, List.length_singleton]; omega)
      rw [List.length_append, List.length_singleton] at hwl
      refine ⟨w, Ev.step (fun k => spec_DrawWeakLeft.l0.eq_2 ..) ?_, by omega⟩
      simp only [if_pos h, hw, hv, Option.bind_some, hm, if_pos (show l.length < 17592186044416 by omega), wr (x := x - 1) (by omega) (by omega)]
      exact hw2
    · refine ⟨l, Ev.step (fun k => spec_DrawWeakLeft.l0.eq_2 ..) ?_, by omega⟩
      simp only [if_neg h]
      exact Ev.now _
theorem DrawWeakLeft_ev {l : List Int} (hB : Bytes l) : ∃ g r w, Ev (fun k => spec_DrawWeakLeft.f k l) (g, r, w) ∧ Small g ∧ r.length ≤ 200 ∧ w.length ≤ 100 := by
  obtain ⟨d, hn, hd, -⟩ := newRnd_ok hB
  obtain ⟨g, r, c1, hgr, hsm, hrl, p0, p1⟩ := graph_ev hd
  obtain ⟨v, c2, hv, g0, g1, g2, g3⟩ := pick_ok hd (n := 5) (c := c1) p0 (by omega)
  have g1 := g1 (by omega)
  obtain ⟨w, hw, hwl⟩ := weak_l0 hd g (by have := hsm.1; omega) r 5 v c2 [] (by omega) (by omega) (by omega) (by omega) (by simp)
  refine ⟨g, r, w, ?_, hsm, hrl, by simp at hwl; omega⟩
  unfold spec_DrawWeakLeft.f
  simp only [hn, Option.bind_some]
  refine Ev.bind hgr ?_
  simp only [hv, Option.bind_some]
  exact hw
end Go.Proofs.Ytljieofkagmdaaa.RD
