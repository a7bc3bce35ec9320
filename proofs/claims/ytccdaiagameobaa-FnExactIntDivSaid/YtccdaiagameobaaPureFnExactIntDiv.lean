/- Proved: the program's IntDiv answers as the reference's, for all texts; no condition beyond the statement's. -/
import Derived.Test.YtccdaiagameobaaIntEv7b
import Derived.Test.YtccdaiagameobaaQ32
set_option linter.unusedSimpArgs false
set_option linter.unusedVariables false
namespace Go.Proofs.Ytccdaiagameobaa.Pure
open Go.RowKit Go.Proofs.Ytccdaiagameobaa.Q Go.Proofs.YtccdaiagameobaaW.PrintWords Go.Proofs.YtccdaiagameobaaW.PrintLast Go.Proofs.IM Go.Proofs.Ytccdaiagameobaa.IE

theorem FnExactIntDiv : laws_FnExactIntDiv.Pure := by
  intro a0 a1 h0 h1
  obtain ⟨a, rfl, l0⟩ := toL h0
  obtain ⟨b, rfl, l1⟩ := toL h1
  refine Ev.rounds (g := fun k => laws_FnExactIntDiv.f k (mkS a) (mkS b)) ?_
  unfold laws_FnExactIntDiv.f
  by_cases c0 : ((mkS a).size : Int) > 1048576
  · simp only [if_pos c0]; exact Ev.now _
  · simp only [if_neg c0]
    by_cases c1 : ((mkS b).size : Int) > 1048576
    · simp only [if_pos c1]; exact Ev.now _
    · simp only [if_neg c1]
      refine Ev.bind (spec_IntDiv_ev a b l0 l1) (Ev.bind (impl_IntDiv_ev a b l0 l1) ?_)
      simp
      exact Ev.now _

end Go.Proofs.Ytccdaiagameobaa.Pure
