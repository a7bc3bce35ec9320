/- Proved: orders of bases are parts of orders; no condition beyond the statement's. -/
import Derived.Test.YtdlobdhpledbfaaClDraw
import Derived.Test.YtdlobdhpledbfaaClWithin
import Derived.Test.YtdlobdhpledbfaaGrSame
import Derived.Test.YtdlobdhpledbfaaQ20
set_option linter.unusedSimpArgs false
set_option linter.unusedVariables false
namespace Go.Proofs.Ytdlobdhpledbfaa.Pure
open Go.RowKit Go.Proofs.Ytdlobdhpledbfaa.Q Go.Proofs.YtdlobdhpledbfaaW.PrintWords Go.Proofs.GR Go.Proofs.Ytdlobdhpledbfaa.GE Go.Proofs.Ytdlobdhpledbfaa.RD Go.Proofs.Ytdlobdhpledbfaa.CL
theorem FnMroBelow : laws_FnMroBelow.Pure := by
  intro code _ _ hw
  refine Ev.rounds (?_ : Ev (fun k => laws_FnMroBelow.f k code) true)
  unfold laws_FnMroBelow.f
  by_cases h : (code.length : Int) > 1048576
  · simp only [if_pos h]; exact Ev.now _
  simp only [if_neg h]
  obtain ⟨g, a, e1, hs⟩ := draw_mro h hw
  refine Ev.bind e1 ?_
  obtain ⟨r, q1, q2, q3, q4, q5⟩ := mros g hs a
  refine Ev.bind q1 (Ev.bind q2 ?_)
  have hl : r.1.length ≤ 1000 := by
    cases hr : r.2 with
    | false => rw [q3 hr]; simp
    | true => have := fct_len (q4 hr).2.2.2 (q4 hr).2.2.1 (q4 hr).1; omega
  simp only [bne_self_eq_false, Bool.false_eq_true, if_false]
  refine Ev.bind (SameInts_ev r.1 r.1 (by omega)) ?_
  simp only [decide_true, if_true]
  cases hr : r.2 with
  | false =>
    refine Ev.step (fun k => laws_FnMroBelow.j0.eq_2 ..) ?_
    simp only [Bool.not_false, if_true, beq_self_eq_true]
    refine Ev.bind (SameInts_ev r.1 r.1 (by omega)) ?_
    simp only [decide_true]
    exact Ev.now _
  | true =>
    obtain ⟨hv, h0, ha, hF⟩ := q4 hr
    refine Ev.step (fun k => laws_FnMroBelow.j0.eq_2 ..) ?_
    simp only [Bool.not_true, Bool.false_eq_true, if_false]
    have key : ∀ (e n : Nat), r.1.length - n = e → n ≤ r.1.length → Ev (fun k => laws_FnMroBelow.l0 k g r.1 (n : Int)) true := by
      intro e
      induction e with
      | zero =>
        intro n h1 h2
        obtain rfl : n = r.1.length := by omega
        refine Ev.step (fun k => laws_FnMroBelow.l0.eq_2 ..) ?_
        simp only [if_neg (show ¬ (r.1.length : Int) < (r.1.length : Int) by omega)]
        exact Ev.now _
      | succ e ih =>
        intro n h1 h2
        have hn : n < r.1.length := by omega
        obtain ⟨ld, k1, k2, k3, k4⟩ := below_mro hs hv ha hF (getD_mem (d := 0) hn)
        refine Ev.step (fun k => laws_FnMroBelow.l0.eq_2 ..) ?_
        simp only [if_pos (show (n : Int) < (r.1.length : Int) by omega), if_pos (show (0 : Int) ≤ (n : Int) by omega), rd_nat r.1 n _ rfl]
        refine Ev.bind k1 ?_
        simp only [if_true]
        refine Ev.bind (within_ev ld r.1 (by have := k3.length_le; omega) hl k3) ?_
        simp only [if_true, wr2 (show n ≤ 100000000 by omega)]
        exact ih (n + 1) (by omega) (by omega)
    exact key _ 0 rfl (by omega)
end Go.Proofs.Ytdlobdhpledbfaa.Pure
