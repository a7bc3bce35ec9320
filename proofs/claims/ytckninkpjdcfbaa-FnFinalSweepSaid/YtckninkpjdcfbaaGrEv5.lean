/- What is reached from roots, for the program. -/
import Derived.Test.YtckninkpjdcfbaaGrEv2
import Derived.Test.YtckninkpjdcfbaaGrIdxs
import Derived.Test.YtckninkpjdcfbaaQ10
set_option linter.unusedSimpArgs false
set_option linter.unusedVariables false
namespace Go.Proofs.Ytckninkpjdcfbaa.GE
open Go.RowKit Go.Proofs.Ytckninkpjdcfbaa.Q Go.Proofs.YtckninkpjdcfbaaW.PrintWords Go.Proofs.GR

noncomputable def reachedR (g : List (List Int)) (r : List Int) : List Int := if (okG g && okR g r) = true then idxs (flags g r) true else []
theorem okGR {g : List (List Int)} {r : List Int} (h : (okG g && okR g r) = true) : okG g = true ∧ (∀ x ∈ r, 0 ≤ x ∧ x < (g.length : Int)) ∧ r.length ≤ 12 ∧ g.length ≤ 12 := by
  simp only [okR, Bool.and_eq_true, decide_eq_true_eq] at h
  exact ⟨h.1, idx_iff.1 h.2.1, h.2.2, (okG_iff.1 h.1).2⟩
theorem impl_ReachedFrom_ev (g : List (List Int)) (hz : Sz g) (r : List Int) (hr : r.length ≤ 2000000) : Ev (fun k => impl_ReachedFrom.f k g r) (reachedR g r) := by
  unfold impl_ReachedFrom.f reachedR
  refine Ev.bind (impl_GraphOk_ev g hz r hr) ?_
  by_cases h : (okG g && okR g r) = true
  · rw [if_pos h]
    obtain ⟨h1, h2, h3, h4⟩ := okGR h
    simp only [h, if_true]
    refine Ev.bind (impl_reached_ev g (Gr.of h1) r h2 hr) (Ev.bind (impl_marked_ev _ true ?_) (Ev.now _))
    rw [flags_length]; omega
  · rw [if_neg h]
    simp only [h, Bool.false_eq_true, if_false]
    exact Ev.now _
theorem reachedR_len (g : List (List Int)) (r : List Int) : (reachedR g r).length ≤ g.length := by
  unfold reachedR
  split
  · have := idxsTo_len (flags g r) true (flags g r).length
    rw [idxsTo_all, flags_length] at this
    exact this
  · simp
end Go.Proofs.Ytckninkpjdcfbaa.GE
