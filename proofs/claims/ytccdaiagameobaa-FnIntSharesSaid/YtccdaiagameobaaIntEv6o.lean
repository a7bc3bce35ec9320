/- What is an integer, for the program and for the reference. -/
import Derived.Test.YtccdaiagameobaaIntEv5
import Derived.Test.YtccdaiagameobaaQ21
set_option linter.unusedSimpArgs false
set_option linter.unusedVariables false
namespace Go.Proofs.Ytccdaiagameobaa.IE
open Go.RowKit Go.Proofs.Ytccdaiagameobaa.Q Go.Proofs.YtccdaiagameobaaW.PrintWords Go.Proofs.IM
theorem impl_IntOk_ev (a : List UInt8) (ha : a.length ≤ 1000000000000000) : Ev (fun k => impl_IntOk.f k (mkS a)) (okInt a) := by
  unfold impl_IntOk.f
  have h := impl_parse_ev a ha
  unfold parsed at h
  refine Ev.bind h ?_
  by_cases e : okInt a = true
  · rw [if_pos e, e]; exact Ev.now _
  · rw [if_neg e]
    have : okInt a = false := by simpa using e
    rw [this]; exact Ev.now _
theorem spec_IntOk_ev (a : List UInt8) (ha : a.length ≤ 1000000000000000) : Ev (fun k => spec_IntOk.f k (mkS a)) (okInt a) := by
  unfold spec_IntOk.f
  exact Ev.bind (spec_valid_ev a ha) (Ev.now _)

end Go.Proofs.Ytccdaiagameobaa.IE
