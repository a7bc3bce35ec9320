/- Proved: arguments given by name or by place are bound alike; no condition beyond the statement's. -/
import Derived.Test.YtpilehndngclhaaBiLaw
import Derived.Test.YtpilehndngclhaaBiDraw
import Derived.Test.YtpilehndngclhaaLsSame
import Derived.Test.YtpilehndngclhaaQ8
set_option linter.unusedSimpArgs false
set_option linter.unusedVariables false
namespace Go.Proofs.Ytpilehndngclhaa.Pure
open Go.RowKit Go.Proofs.Ytpilehndngclhaa.Q Go.Proofs.YtpilehndngclhaaW.PrintWords Go.Proofs.YtpilehndngclhaaW.PrintLast Go.Proofs.GR Go.Proofs.BI Go.Proofs.Ytpilehndngclhaa.MO Go.Proofs.Ytpilehndngclhaa.BE Go.Proofs.Ytpilehndngclhaa.RD Go.Proofs.Ytpilehndngclhaa.GE

theorem FnBindArgs : laws_FnBindArgs.Pure := by
  intro l h0 h1 hw
  refine Ev.rounds (g := fun k => laws_FnBindArgs.f k l) ?_
  unfold laws_FnBindArgs.f
  by_cases c0 : (l.length : Int) > 1048576
  · simp only [if_pos c0]; exact Ev.now _
  · simp only [if_neg c0]
    obtain ⟨d, hn, hd, -⟩ := newRnd_ok (Bytes.of c0 hw)
    obtain ⟨P, D, A, N, hdr, hP, hD, hA, hN⟩ := DrawBind_ev hn hd
    have hPl : P.length ≤ maxLen := by have := hP.1; unfold maxLen; omega
    have hNl : N.length ≤ maxLen := by unfold maxLen; omega
    have hPs : ∀ x ∈ P, x.size ≤ maxLen := fun x hx => by have := hP.2 x hx; unfold maxLen; omega
    refine Ev.bind hdr (Ev.bind (impl_Bind_ev P D A N hPl hNl hPs) (Ev.bind (spec_Bind_ev P D A N hPl hNl hPs) ?_))
    have hout := bindA_len (P := P) (D := D) (A := A) (N := N) (by have := hP.1; omega)
    refine Ev.bind (SameInts_ev _ _ (by omega)) ?_
    simp only [decide_true, if_true]
    refine Ev.step (fun k => laws_FnBindArgs.j0.eq_2 ..) ?_
    simp only [if_true]
    refine Ev.step (fun k => laws_FnBindArgs.j1.eq_2 ..) ?_
    by_cases hz : (bindA P D A N).2 = 0
    · rw [hz]
      simp only [bne_self_eq_false, Bool.false_eq_true, if_false]
      obtain ⟨hk, he⟩ := bindA_fine hz
      obtain ⟨k1, k2, k3, k4, k5, k6⟩ := okB_iff.1 hk
      have hlen : (bindA P D A N).1.length = P.length := by rw [he] at hz ⊢; exact bindR_length k6 hz
      generalize (bindA P D A N).1 = X at *
      have hd : difB P = true := difB_iff.2 (chkL_pairwise k1)
      have a1 : bindA P [] X P = (X, 0) := by
        unfold bindA
        rw [if_pos (okB_iff.2 ⟨k1, k2, by simp, by omega, hd, by omega⟩), bindR_own k1 hlen]
      have a2 : bindA P D X [] = (X, 0) := by
        unfold bindA
        rw [if_pos (okB_iff.2 ⟨k1, k2, k3, by omega, rfl, by simp⟩), bindR_plain hlen]
      refine Ev.bind (impl_Bind_ev P [] X P hPl hPl hPs) (Ev.bind (impl_Bind_ev P D X [] hPl (by simp) hPs) ?_)
      rw [a1, a2]
      simp only [if_true]
      refine Ev.bind (SameInts_ev _ _ (by omega)) ?_
      simp only [decide_true, if_true]
      refine Ev.bind (SameInts_ev _ _ (by omega)) ?_
      simp only [decide_true, if_true, if_pos (show (X.length : Int) = (P.length : Int) by omega)]
      exact Ev.now _
    · rw [show ((bindA P D A N).2 != 0) = true from bne_iff_ne.2 hz]
      simp only [if_true]
      exact Ev.now _
end Go.Proofs.Ytpilehndngclhaa.Pure
