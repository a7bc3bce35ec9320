/- Proved: collections with finalizers end; no condition beyond the statement's. -/
import Derived.Test.YtckninkpjdcfbaaFiSweep
import Derived.Test.YtckninkpjdcfbaaFiDraw
import Derived.Test.YtckninkpjdcfbaaQ23
set_option linter.unusedSimpArgs false
set_option linter.unusedVariables false
namespace Go.Proofs.Ytckninkpjdcfbaa.Pure
open Go.RowKit Go.Proofs.Ytckninkpjdcfbaa.Q Go.Proofs.YtckninkpjdcfbaaW.PrintWords Go.Proofs.YtckninkpjdcfbaaW.PrintLast Go.Proofs.GR Go.Proofs.Ytckninkpjdcfbaa.GE Go.Proofs.Ytckninkpjdcfbaa.RD Go.Proofs.Ytckninkpjdcfbaa.FI
theorem FnFinalSweeps : laws_FnFinalSweeps.Pure := by
  intro l h0 h1 hw
  refine Ev.rounds (g := fun k => laws_FnFinalSweeps.f k l) ?_
  unfold laws_FnFinalSweeps.f
  by_cases c0 : (l.length : Int) > 1048576
  · simp only [if_pos c0]; exact Ev.now _
  simp only [if_neg c0]
  have hB := Bytes.of c0 hw
  obtain ⟨d, hn, hd, -⟩ := newRnd_ok hB
  obtain ⟨g, r, fs, hdr, hsm, hrl, hfl⟩ := drawFins_ev hn hd
  have hz := hsm.sz
  have hg1 := hsm.1
  obtain ⟨m, m1, m2, m3⟩ := finalSweeps g hz (by omega) r (by omega) fs (by omega)
  refine Ev.bind hdr (Ev.bind m1 (Ev.bind m2 ?_))
  simp only [if_true]
  rcases m3 with rfl | ⟨hv, n, rfl, n1, n2, n3⟩
  · simp only [if_pos (show (-1 : Int) < 0 by omega)]
    exact Ev.now _
  · simp only [if_neg (show ¬ (n : Int) < 0 by omega)]
    refine Ev.bind (sweep_impl hz hv) ?_
    have hul : undone fs ≤ fs.length := List.length_filter_le ..
    have hw1 : wrap64 ((fs.length : Int) + 1) = (fs.length : Int) + 1 := by unfold wrap64; omega
    simp only [if_pos (show (n : Int) ≥ 1 by omega), hw1, if_pos (show (n : Int) ≤ (fs.length : Int) + 1 by omega)]
    have he : (((n : Int) == 1) == (((sweep g r fs).1.length : Int) == 0)) = true := by
      by_cases h : n = 1
      · have := n3.1 h
        rw [h, this]; rfl
      · have h2 : ¬ (sweep g r fs).1.length = 0 := fun e => h (n3.2 e)
        rw [show ((n : Int) == 1) = false from beq_eq_false_iff_ne.2 (by omega), show (((sweep g r fs).1.length : Int) == 0) = false from beq_eq_false_iff_ne.2 (by omega)]
        rfl
    simp only [he, if_true]
    exact Ev.now _
end Go.Proofs.Ytckninkpjdcfbaa.Pure
