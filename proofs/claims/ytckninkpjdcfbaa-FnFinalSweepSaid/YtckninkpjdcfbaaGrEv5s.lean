/- What is reached from roots, for the reference. -/
import Derived.Test.YtckninkpjdcfbaaGrEv5
import Derived.Test.YtckninkpjdcfbaaQ15
set_option linter.unusedSimpArgs false
set_option linter.unusedVariables false
namespace Go.Proofs.Ytckninkpjdcfbaa.GE
open Go.RowKit Go.Proofs.Ytckninkpjdcfbaa.Q Go.Proofs.YtckninkpjdcfbaaW.PrintWords Go.Proofs.GR
theorem spec_ReachedFrom_ev (g : List (List Int)) (hz : Sz g) (r : List Int) (hr : r.length ≤ 2000000) : Ev (fun k => spec_ReachedFrom.f k g r) (reachedR g r) := by
  have hgl := hz.len
  unfold spec_ReachedFrom.f
  have fail : (okG g && okR g r) = false → Ev (fun k => spec_ReachedFrom.j0 k g r true) (reachedR g r) := by
    intro h
    unfold reachedR
    rw [h]
    refine Ev.step (fun k => spec_ReachedFrom.j0.eq_2 ..) ?_
    simp only [if_true, Bool.false_eq_true, if_false]
    exact Ev.now _
  refine Ev.bind (spec_validGraph_ev g hz) ?_
  cases h1 : okG g with
  | false => simp only [Bool.false_eq_true, if_false]; exact fail (by rw [h1]; rfl)
  | true =>
    simp only [if_true]
    refine Ev.bind (spec_validRoots_ev r g.length hr (by omega)) ?_
    have e2 : (idx g.length r && decide (r.length ≤ 12)) = okR g r := rfl
    rw [e2]
    cases h2 : okR g r with
    | false => simp only [Bool.not_false]; exact fail (by rw [h1, h2]; rfl)
    | true =>
      have h : (okG g && okR g r) = true := by rw [h1, h2]; rfl
      obtain ⟨q1, q2, q3, q4⟩ := okGR h
      unfold reachedR
      rw [if_pos h]
      refine Ev.step (fun k => spec_ReachedFrom.j0.eq_2 ..) ?_
      simp only [Bool.not_true, Bool.false_eq_true, if_false]
      refine Ev.bind (spec_marked_ev g (Gr.of q1) r q2 hr) (Ev.bind (spec_indices_ev _ true ?_) (Ev.now _))
      rw [flags_length]; omega
end Go.Proofs.Ytckninkpjdcfbaa.GE
