/- Proved: what is left of a list when a cut is dropped is in order; no condition beyond the statement's. -/
import Derived.Test.YtcndhakeagmloaaLcEv3
import Derived.Test.YtcndhakeagmloaaLsSame
import Derived.Test.YtcndhakeagmloaaLcDraw
import Derived.Test.YtcndhakeagmloaaQ6
import Derived.Test.YtcndhakeagmloaaQ14
set_option linter.unusedSimpArgs false
set_option linter.unusedVariables false
namespace Go.Proofs.Ytcndhakeagmloaa.Pure
open Go.RowKit Go.Proofs.Ytcndhakeagmloaa.Q Go.Proofs.YtcndhakeagmloaaW.PrintWords Go.Proofs.YtcndhakeagmloaaW.PrintLast Go.Proofs.GR Go.Proofs.LC Go.Proofs.Ytcndhakeagmloaa.GE Go.Proofs.Ytcndhakeagmloaa.RD

theorem FnListDropCut : laws_FnListDropCut.Pure := by
  intro l h0 h1 hw
  refine Ev.rounds (g := fun k => laws_FnListDropCut.f k l) ?_
  unfold laws_FnListDropCut.f
  by_cases c0 : (l.length : Int) > 1048576
  · simp only [if_pos c0]; exact Ev.now _
  · simp only [if_neg c0]
    obtain ⟨d, hn, hd, -⟩ := newRnd_ok (Bytes.of c0 hw)
    obtain ⟨r, c1, hr, hrl, p0, p1⟩ := numbers_ev hd 12 50 (by omega) (by omega) (c := 0) (by omega) (by omega)
    obtain ⟨f, t, s, a, b, c2, hc, q0, q1⟩ := cut_ev hd (c := c1) (by omega) (by omega)
    have hdr : Ev (fun k => spec_DrawListDropCut.f k l) (r, f, t, s, a, b) := by
      unfold spec_DrawListDropCut.f
      simp only [hn, Option.bind_some]
      exact Ev.bind hr (Ev.bind hc (Ev.now _))
    refine Ev.bind hdr (Ev.bind (impl_Drop_ev r f t s a b) (Ev.bind (spec_Drop_ev r f t s a b) ?_))
    have hl : (dropR r f t s a b).length ≤ 1000000 := by
      unfold dropR dropL
      split
      · rw [List.length_map]
        have := left_le (cutP r.length f t s a b) r.length
        omega
      · simp
    refine Ev.bind (SameInts_ev _ _ hl) ?_
    simp only [decide_true, if_true]
    refine Ev.step (fun k => laws_FnListDropCut.j0.eq_2 ..) ?_
    cases hz : ((dropR r f t s a b).length : Int) == 0 with
    | true => simp only [if_true]; exact Ev.now _
    | false =>
      simp only [Bool.false_eq_true, if_false]
      refine Ev.bind (impl_Drop_ev r 0 0 1 false false) (Ev.bind (impl_Cut_ev r f t s a b) ?_)
      have hv : (decide (r.length ≤ 60) && vcut f t s a b) = true := by
        cases hq : (decide (r.length ≤ 60) && vcut f t s a b) with
        | true => rfl
        | false => unfold dropR at hz; rw [hq] at hz; simp at hz
      have hvc : vcut f t s a b = true := by
        rw [Bool.and_eq_true] at hv; exact hv.2
      have hfull : dropR r 0 0 1 false false = [] := by
        have hv1 : vcut 0 0 1 false false = true := by decide
        unfold dropR
        rw [hv1, decide_eq_true (show r.length ≤ 60 by omega)]
        simp only [Bool.and_self, if_true]
        have h3 := (cutP_len r.length 0 0 1 false false (by omega) hv1).2.2
        have h4 : (cutP r.length 0 0 1 false false).length = r.length := by
          unfold cutP
          rw [places_length]
          simp [cutRange, cutBound]
          split
          · omega
          · omega
        unfold dropL
        rw [List.eq_nil_of_length_eq_zero (show (left (cutP r.length 0 0 1 false false) r.length).length = 0 by omega)]
        rfl
      rw [hfull]
      simp only [List.length_nil, Int.natCast_zero, if_true]
      have h3 := (cutP_len r.length f t s a b (by omega) hvc).2.2
      have e1 : (dropR r f t s a b).length = (left (cutP r.length f t s a b) r.length).length := by unfold dropR dropL; rw [hv]; simp
      have e2 : (cutR r f t s a b).length = (cutP r.length f t s a b).length := by unfold cutR cutL; rw [hv]; simp
      rw [e1, e2, w64 (by omega) (by omega)]
      simp only [if_pos (show (((left (cutP r.length f t s a b) r.length).length : Int) + ((cutP r.length f t s a b).length : Int)) = (r.length : Int) by omega)]
      exact Ev.now _
end Go.Proofs.Ytcndhakeagmloaa.Pure
