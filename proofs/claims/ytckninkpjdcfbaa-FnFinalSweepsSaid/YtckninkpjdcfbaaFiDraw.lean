/- Drawn graphs with finalizers: the drawing always answers. -/
import Derived.Test.YtckninkpjdcfbaaGrDraw
import Derived.Test.YtckninkpjdcfbaaRndOften
import Derived.Test.YtckninkpjdcfbaaQ0
import Derived.Test.YtckninkpjdcfbaaQ6
import Derived.Test.YtckninkpjdcfbaaQ23
set_option linter.unusedSimpArgs false
set_option linter.unusedVariables false
namespace Go.Proofs.Ytckninkpjdcfbaa.RD
open Go.RowKit Go.Proofs.Ytckninkpjdcfbaa.Q Go.Proofs.YtckninkpjdcfbaaW.PrintWords Go.Proofs.GR
theorem some_bind {α β : Type} (a : α) (f : α → Option β) : (some a).bind f = f a := by
  have h : ∀ o : Option α, o = some a → o.bind f = f a := by intro o e; rw [e, Option.bind_some]
  exact h _ rfl
theorem fins_l0 {d : List Int} (hd : Bytes d) (g : List (List Int)) (r : List Int) (hg : g.length ≤ 100) : ∀ (e : Nat) (i c : Int) (l : List S64), (g.length : Int) - i = e → 0 ≤ i → 0 ≤ c → c + 5 * e ≤ 10000 → l.length + e ≤ 1000 →
    ∃ l', Ev (fun k => spec_DrawFinalSweeps.l0 k g r l i d c) (g, r, l') ∧ l'.length ≤ l.length + e := by
  intro e
  induction e with
  | zero =>
    intro i c l hi h0 hc hc2 hl
    refine ⟨l, Ev.step (fun k => spec_DrawFinalSweeps.l0.eq_2 ..) ?_, by omega⟩
    simp only [if_neg (show ¬ i < (g.length : Int) by omega)]
    exact Ev.now _
  | succ e ih =>
    intro i c l hi h0 hc hc2 hl
    obtain ⟨v, c1, hv, g0, g1, g2, g3⟩ := pick_ok hd (n := 2) hc (by omega)
    by_cases hz : v = 0
    · obtain ⟨a, c2, ha, p0, p1⟩ := often_ok hd (c := c1) (by omega) (by omega) i
      obtain ⟨b, c3, hb, q0, q1, q2, q3⟩ := pick_ok hd (n := wrap64 ((g.length : Int) + 1)) (c := c2) (by omega) (by omega)
      obtain ⟨f, c4, hf, r0, r1, r2, r3⟩ := pick_ok hd (n := 4) (c := c3) (by omega) (by omega)
      obtain ⟨l', h1, h2⟩ := ih (i + 1) c4 (l ++ [(⟨a, wrap64 (b - 1), (f == 0)⟩ : S64)]) (by omega) (by omega) (by omega) (by omega) (by rw [List.length_append, List.length_singleton]; omega)
      have h3 : (l ++ [(⟨a, wrap64 (b - 1), (f == 0)⟩ : S64)]).length = l.length + 1 := by rw [List.length_append]; rfl
      refine ⟨l', Ev.step (fun k => spec_DrawFinalSweeps.l0.eq_2 ..) ?_, by omega⟩
      simp only [if_pos (show i < (g.length : Int) by omega), hv, some_bind, if_pos hz, ha, hb, hf, if_pos (show l.length < 5864062014805 by omega), wr (x := i + 1) (by omega) (by omega)]
      exact h1
    · obtain ⟨l', h1, h2⟩ := ih (i + 1) c1 l (by omega) (by omega) (by omega) (by omega) (by omega)
      refine ⟨l', Ev.step (fun k => spec_DrawFinalSweeps.l0.eq_2 ..) ?_, by omega⟩
      simp only [if_pos (show i < (g.length : Int) by omega), hv, some_bind, if_neg hz, wr (x := i + 1) (by omega) (by omega)]
      exact h1
theorem drawFins_ev {l d : List Int} (hn : spec_newRnd.f l = some (d, 0)) (hd : Bytes d) : ∃ g r fs, Ev (fun k => spec_DrawFinalSweeps.f k l) (g, r, fs) ∧ Small g ∧ r.length ≤ 200 ∧ fs.length ≤ 100 := by
  obtain ⟨g, r, c1, hgr, hsm, hrl, p0, p1⟩ := graph_ev hd
  have hgl := hsm.1
  obtain ⟨fs, hh, hle⟩ := fins_l0 hd g r (by omega) g.length 0 c1 [] (by omega) (by omega) p0 (by omega) (by simp; omega)
  refine ⟨g, r, fs, ?_, hsm, hrl, by simp at hle; omega⟩
  unfold spec_DrawFinalSweeps.f
  simp only [hn, Option.bind_some]
  exact Ev.bind hgr hh
end Go.Proofs.Ytckninkpjdcfbaa.RD
