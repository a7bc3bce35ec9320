/- Drawn graphs with a root to drop: the drawing always answers. -/
import Derived.Test.YtljieofkagmdaaaGrDraw
import Derived.Test.YtljieofkagmdaaaRndOften
import Derived.Test.YtljieofkagmdaaaQ2
import Derived.Test.YtljieofkagmdaaaQ17
set_option linter.unusedSimpArgs false
set_option linter.unusedVariables false
namespace Go.Proofs.Ytljieofkagmdaaa.RD
open Go.RowKit Go.Proofs.Ytljieofkagmdaaa.Q Go.Proofs.YtljieofkagmdaaaW.PrintWords Go.Proofs.GR

theorem drawDrop_ev {l d : List Int} (hn : spec_newRnd.f l = some (d, 0)) (hd : Bytes d) : ∃ g r at_, Ev (fun k => spec_DrawDropRoot.f k l) (g, r, at_) ∧ Small g ∧ r.length ≤ 200 := by
  obtain ⟨g, r, c1, hgr, hsm, hrl, p0, p1⟩ := graph_ev hd
  obtain ⟨v, c2, hv, g0, g1, g2, g3⟩ := pick_ok hd (n := mx 1 (r.length : Int)) (c := c1) p0 (by omega)
  obtain ⟨t, c3, ht, r0, r1⟩ := often_ok hd (c := c2) (by omega) (by omega) v
  refine ⟨g, r, t, ?_, hsm, hrl⟩
  unfold spec_DrawDropRoot.f
  simp only [hn, Option.bind_some]
  refine Ev.bind hgr ?_
  simp only [hv, Option.bind_some, ht]
  exact Ev.now _
end Go.Proofs.Ytljieofkagmdaaa.RD
