/- Proved: a class is below just those of its order; no condition beyond the statement's. -/
import Derived.Test.YtdlobdhpledbfaaClDraw
import Derived.Test.YtdlobdhpledbfaaQ21
set_option linter.unusedSimpArgs false
set_option linter.unusedVariables false
namespace Go.Proofs.Ytdlobdhpledbfaa.Pure
open Go.RowKit Go.Proofs.Ytdlobdhpledbfaa.Q Go.Proofs.YtdlobdhpledbfaaW.PrintWords Go.Proofs.GR Go.Proofs.Ytdlobdhpledbfaa.GE Go.Proofs.Ytdlobdhpledbfaa.RD Go.Proofs.Ytdlobdhpledbfaa.CL
theorem FnMroSubs : laws_FnMroSubs.Pure := by
  intro code _ _ hw
  refine Ev.rounds (?_ : Ev (fun k => laws_FnMroSubs.f k code) true)
  unfold laws_FnMroSubs.f
  by_cases h : (code.length : Int) > 1048576
  · simp only [if_pos h]; exact Ev.now _
  simp only [if_neg h]
  obtain ⟨g, a, d, e1, hs⟩ := draw_sub h hw
  refine Ev.bind e1 ?_
  obtain ⟨r, q1, q2, q3, q4, q5, q6⟩ := subs g hs a d
  refine Ev.bind q5 (Ev.bind q6 ?_)
  simp only [bne_self_eq_false, Bool.false_eq_true, if_false]
  obtain ⟨b, b1, b2, b3⟩ := bases g hs
  refine Ev.bind q1 (Ev.bind b1 ?_)
  cases b with
  | false => simp only [Bool.false_eq_true, if_false]; exact Ev.now _
  | true =>
    cases hr : r.2 with
    | false => simp only [if_true, Bool.false_eq_true, if_false]; exact Ev.now _
    | true =>
      obtain ⟨k1, k2, k3, k4⟩ := q4 hr
      have := fct_len k4 k3 k1
      simp only [if_true, Bool.true_and]
      by_cases c1 : d < 0
      · simp only [if_pos c1]; exact Ev.now _
      by_cases c2 : d ≥ (g.length : Int)
      · simp only [if_neg c1, if_pos c2]; exact Ev.now _
      simp only [if_neg c1, if_neg c2]
      refine Ev.bind (HasInt_ev r.1 d (by omega)) ?_
      simp only [beq_self_eq_true, if_true]
      exact Ev.now _
end Go.Proofs.Ytdlobdhpledbfaa.Pure
