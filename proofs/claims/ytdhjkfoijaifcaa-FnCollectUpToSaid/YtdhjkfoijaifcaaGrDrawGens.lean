/- Drawn graphs with generations: the drawing always answers. -/
import Derived.Test.YtdhjkfoijaifcaaGrDraw
import Derived.Test.YtdhjkfoijaifcaaRndOften
import Derived.Test.YtdhjkfoijaifcaaQ6
import Derived.Test.YtdhjkfoijaifcaaQ14
set_option linter.unusedSimpArgs false
set_option linter.unusedVariables false
namespace Go.Proofs.Ytdhjkfoijaifcaa.RD
open Go.RowKit Go.Proofs.Ytdhjkfoijaifcaa.Q Go.Proofs.YtdhjkfoijaifcaaW.PrintWords Go.Proofs.GR

theorem gens_l0 {d : List Int} (hd : Bytes d) (g : List (List Int)) (r : List Int) (hg : g.length ≤ 100) : ∀ (e : Nat) (i c : Int) (l : List Int), (g.length : Int) - i = e → 0 ≤ i → 0 ≤ c → c + e ≤ 10000 → l.length + e ≤ 1000 →
    ∃ gens top, Ev (fun k => spec_DrawCollectUpTo.l0 k g r l i d c) (g, r, gens, top) ∧ gens.length ≤ 1001 := by
  intro e
  induction e with
  | zero =>
    intro i c l hi h0 hc hc2 hl
    obtain ⟨v, c1, hv, g0, g1, g2, g3⟩ := pick_ok hd (n := 14) hc (by omega)
    by_cases hz : v = 0
    · obtain ⟨o, c2, ho, p0, p1⟩ := odd_ok hd (c := c1) (by omega) (by omega)
      obtain ⟨v3, c3, hv3, q0, q1, q2, q3⟩ := pick_ok hd (n := 3) (c := c2) (by omega) (by omega)
      obtain ⟨t, c4, ht, r0, r1⟩ := often_ok hd (c := c3) (by omega) (by omega) v3
      refine ⟨l ++ [o], t, Ev.step (fun k => spec_DrawCollectUpTo.l0.eq_2 ..) ?_, by simp; omega⟩
      simp only [if_neg (show ¬ i < (g.length : Int) by omega), hv, Option.bind_some, if_pos hz, ho, if_pos (show l.length < 17592186044416 by omega), hv3, ht]
      exact Ev.now _
    · obtain ⟨v3, c3, hv3, q0, q1, q2, q3⟩ := pick_ok hd (n := 3) (c := c1) (by omega) (by omega)
      obtain ⟨t, c4, ht, r0, r1⟩ := often_ok hd (c := c3) (by omega) (by omega) v3
      refine ⟨l, t, Ev.step (fun k => spec_DrawCollectUpTo.l0.eq_2 ..) ?_, by omega⟩
      simp only [if_neg (show ¬ i < (g.length : Int) by omega), hv, Option.bind_some, if_neg hz, hv3, ht]
      exact Ev.now _
  | succ e ih =>
    intro i c l hi h0 hc hc2 hl
    obtain ⟨v, c1, hv, g0, g1, g2, g3⟩ := pick_ok hd (n := 3) hc (by omega)
    obtain ⟨gens, top, hh, hle⟩ := ih (i + 1) c1 (l ++ [v]) (by omega) (by omega) (by omega) (by omega) (by simp; omega)
    refine ⟨gens, top, Ev.step (fun k => spec_DrawCollectUpTo.l0.eq_2 ..) ?_, hle⟩
    simp only [if_pos (show i < (g.length : Int) by omega), hv, Option.bind_some, if_pos (show l.length < 17592186044416 by omega), wr (x := i + 1) (by omega) (by omega)]
    exact hh
theorem drawCollect_ev {l d : List Int} (hn : spec_newRnd.f l = some (d, 0)) (hd : Bytes d) : ∃ g r gens top, Ev (fun k => spec_DrawCollectUpTo.f k l) (g, r, gens, top) ∧ Small g ∧ r.length ≤ 200 ∧ gens.length ≤ 1001 := by
  obtain ⟨g, r, c1, hgr, hsm, hrl, p0, p1⟩ := graph_ev hd
  have hgl := hsm.1
  obtain ⟨gens, top, hh, hle⟩ := gens_l0 hd g r (by omega) g.length 0 c1 [] (by omega) (by omega) p0 (by omega) (by simp; omega)
  refine ⟨g, r, gens, top, ?_, hsm, hrl, hle⟩
  unfold spec_DrawCollectUpTo.f
  simp only [hn, Option.bind_some]
  exact Ev.bind hgr hh
end Go.Proofs.Ytdhjkfoijaifcaa.RD
