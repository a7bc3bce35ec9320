/- The reference's drawing of two integers: it always answers, in few bytes. -/
import Derived.Test.YtccdaiagameobaaIntDraw
import Derived.Test.YtccdaiagameobaaIntEv4
import Derived.Test.YtccdaiagameobaaQ18
set_option linter.unusedSimpArgs false
set_option linter.unusedVariables false
namespace Go.Proofs.Ytccdaiagameobaa.RD
open Go.RowKit Go.Proofs.Ytccdaiagameobaa.Q Go.Proofs.YtccdaiagameobaaW.PrintWords Go.Proofs.Ytccdaiagameobaa.IE

theorem DrawIntAdd_ev {l : List Int} (h : Bytes l) : ∃ a b : List UInt8, Ev (fun k => spec_DrawIntAdd.f k l) (mkS a, mkS b) ∧ a.length ≤ 1000000000000000 ∧ b.length ≤ 1000000000000000 := by
  obtain ⟨d, hn, hd, -⟩ := newRnd_ok h
  obtain ⟨t, c1, ht, hl, q2, q3⟩ := integer_ev hd (c := 0) (by omega) (by omega)
  obtain ⟨v, c2, hv, g0, g1, g2, g3⟩ := pick_ok hd (n := 6) (c := c1) (by omega) (by omega)
  obtain ⟨u, c3, hu, hl2, k2, k3⟩ := integer_ev hd (c := c2) (by omega) (by omega)
  obtain ⟨a, rfl, la⟩ := toL (s := t) (by omega)
  obtain ⟨b, rfl, lb⟩ := toL (s := u) (by omega)
  unfold spec_DrawIntAdd.f
  simp only [hn, Option.bind_some]
  by_cases c : v = 0
  · refine ⟨a, a, Ev.bind ht ?_, la, la⟩
    simp only [hv, Option.bind_some, if_pos c]
    exact Ev.now _
  · refine ⟨a, b, Ev.bind ht ?_, la, lb⟩
    simp only [hv, Option.bind_some, if_neg c]
    exact Ev.bind hu (Ev.now _)
end Go.Proofs.Ytccdaiagameobaa.RD
