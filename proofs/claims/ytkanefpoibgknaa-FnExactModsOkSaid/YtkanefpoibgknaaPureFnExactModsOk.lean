/- ModsOk of the program answers as the reference's. -/
import Derived.Test.YtkanefpoibgknaaMoValid
import Derived.Test.YtkanefpoibgknaaQ0
import Derived.Test.YtkanefpoibgknaaQ13
set_option linter.unusedVariables false
namespace Go.Proofs.Ytkanefpoibgknaa.MO
open Go.RowKit Go.Proofs.Ytkanefpoibgknaa.Q Go.Proofs.YtkanefpoibgknaaW.PrintWords
def Ready (l : List S48) : Prop := l.length ≤ maxLen ∧ ∀ m ∈ l, m.f0.length ≤ maxLen ∧ ∀ s ∈ m.f0, (-9223372036854775808 ≤ s.f0 ∧ s.f0 ≤ 9223372036854775807) ∧ (-9223372036854775808 ≤ s.f1 ∧ s.f1 ≤ 9223372036854775807) ∧ s.f2.size ≤ maxLen
theorem Ready.fits {l : List S48} (h : Ready l) : ∀ m ∈ l, Fits m := fun m hm => ⟨(h.2 m hm).1, fun s hs => ((h.2 m hm).2 s hs).2.2⟩
theorem bnd_conv {l : List S48} (h : ∀ m ∈ l, Fits m) (hl : l.length ≤ maxLen) : Bnd (l.map convM) := by
  refine ⟨by rw [List.length_map]; exact hl, fun m hm => ?_⟩
  obtain ⟨m', h1, rfl⟩ := List.mem_map.1 hm
  refine ⟨by unfold convM; rw [List.length_map]; exact (h m' h1).len, fun s hs => ?_⟩
  obtain ⟨s', h2, rfl⟩ := List.mem_map.1 hs
  exact (h m' h1).txt s' h2
end Go.Proofs.Ytkanefpoibgknaa.MO
namespace Go.Proofs.Ytkanefpoibgknaa.Pure
open Go.RowKit Go.Proofs.Ytkanefpoibgknaa.Q Go.Proofs.YtkanefpoibgknaaW.PrintWords Go.Proofs.Ytkanefpoibgknaa.MO
theorem FnExactModsOk (l : List S48) (h : Ready l) : ∃ k, laws_FnExactModsOk.f k l = some true := by
  refine Ev.rounds (g := fun k => laws_FnExactModsOk.f k l) ?_
  obtain ⟨r, h1, h2⟩ := szModS_ev l h.1 h.fits
  unfold laws_FnExactModsOk.f
  refine Ev.bind h1 ?_
  by_cases hr : r < 0
  · simp only [if_pos hr]
    exact Ev.now _
  simp only [if_neg hr]
  obtain ⟨-, hl, hm⟩ := h2.resolve_left hr
  have hb := bnd_conv h.fits h.1
  have ht := toModS_ev l hl hm
  refine Ev.bind ht (Ev.bind (ModsOk_spec _ hb) (Ev.bind ht (Ev.bind (ModsOk_impl _ hb) ?_)))
  simp only [bne_self_eq_false, Bool.false_eq_true, if_false]
  refine Ev.bind ht (Ev.bind (eqModS_ev _ hb.len fun m hm => (hb.steps m hm).1) ?_)
  simp only [if_true]
  exact Ev.now _
end Go.Proofs.Ytkanefpoibgknaa.Pure
