/- Proved: the program's IntRoot answers as the reference's, for all texts; no condition beyond the statement's. -/
import Derived.Test.YtccdaiagameobaaIntEv8
import Derived.Test.YtccdaiagameobaaQ35
set_option linter.unusedSimpArgs false
set_option linter.unusedVariables false
namespace Go.Proofs.Ytccdaiagameobaa.Pure
open Go.RowKit Go.Proofs.Ytccdaiagameobaa.Q Go.Proofs.YtccdaiagameobaaW.PrintWords Go.Proofs.YtccdaiagameobaaW.PrintLast Go.Proofs.IM Go.Proofs.Ytccdaiagameobaa.IE

theorem FnExactIntRoot : laws_FnExactIntRoot.Pure := by
  intro a0 h0
  obtain ⟨a, rfl, l0⟩ := toL h0
  refine Ev.rounds (g := fun k => laws_FnExactIntRoot.f k (mkS a)) ?_
  unfold laws_FnExactIntRoot.f
  by_cases c0 : ((mkS a).size : Int) > 1048576
  · simp only [if_pos c0]; exact Ev.now _
  · simp only [if_neg c0]
    obtain ⟨r, hi, hs⟩ := roots a l0
    refine Ev.bind hs (Ev.bind hi ?_)
    simp
    exact Ev.now _

end Go.Proofs.Ytccdaiagameobaa.Pure
