/- ImportCircle of the program answers as the reference's. -/
import Derived.Test.YtkanefpoibgknaaMoCirc
import Derived.Test.YtkanefpoibgknaaMoFits
import Derived.Test.YtkanefpoibgknaaQ0
import Derived.Test.YtkanefpoibgknaaQ17
set_option linter.unusedVariables false
namespace Go.Proofs.Ytkanefpoibgknaa.Pure
open Go.RowKit Go.Proofs.Ytkanefpoibgknaa.Q Go.Proofs.YtkanefpoibgknaaW.PrintWords Go.Proofs.Ytkanefpoibgknaa.MO
theorem FnExactImportCircle (l : List S48) (a : Int) (h : Ready l) (ha : -9223372036854775808 ≤ a ∧ a ≤ 9223372036854775807) : ∃ k, laws_FnExactImportCircle.f k l a = some true := by
  refine Ev.rounds (g := fun k => laws_FnExactImportCircle.f k l a) ?_
  obtain ⟨r, h1, h2⟩ := szModS_ev l h.1 h.fits
  unfold laws_FnExactImportCircle.f
  refine Ev.bind h1 ?_
  by_cases hr : r < 0
  · simp only [if_pos hr]
    exact Ev.now _
  simp only [if_neg hr]
  obtain ⟨-, hl, hm⟩ := h2.resolve_left hr
  have hb := bnd_conv h.fits h.1
  have ht := toModS_ev l hl hm
  refine Ev.bind ht (Ev.bind (spec_circ _ hb a ha.1 ha.2) (Ev.bind ht (Ev.bind (impl_circ _ hb a) ?_)))
  simp only [bne_self_eq_false, Bool.false_eq_true, if_false]
  refine Ev.bind ht (Ev.bind (eqModS_ev _ hb.len fun m hm => (hb.steps m hm).1) ?_)
  simp only [if_true]
  exact Ev.now _
end Go.Proofs.Ytkanefpoibgknaa.Pure
