/- Modules that come in: of what size. -/
import Derived.Test.YtkanefpoibgknaaMoValid
import Derived.Test.YtkanefpoibgknaaQ0
set_option linter.unusedVariables false
namespace Go.Proofs.Ytkanefpoibgknaa.MO
open Go.RowKit Go.Proofs.Ytkanefpoibgknaa.Q Go.Proofs.YtkanefpoibgknaaW.PrintWords
def Ready (l : List S48) : Prop := l.length ≤ maxLen ∧ ∀ m ∈ l, m.f0.length ≤ maxLen ∧ ∀ s ∈ m.f0, (-9223372036854775808 ≤ s.f0 ∧ s.f0 ≤ 9223372036854775807) ∧ (-9223372036854775808 ≤ s.f1 ∧ s.f1 ≤ 9223372036854775807) ∧ s.f2.size ≤ maxLen
theorem Ready.fits {l : List S48} (h : Ready l) : ∀ m ∈ l, Fits m := fun m hm => ⟨(h.2 m hm).1, fun s hs => ((h.2 m hm).2 s hs).2.2⟩
theorem bnd_conv {l : List S48} (h : ∀ m ∈ l, Fits m) (hl : l.length ≤ maxLen) : Bnd (l.map convM) := by
  refine ⟨by rw [List.length_map]; exact hl, fun m hm => ?_⟩
  obtain ⟨m', h1, rfl⟩ := List.mem_map.1 hm
  refine ⟨by unfold convM; rw [List.length_map]; exact (h m' h1).len, fun s hs => ?_⟩
  obtain ⟨s', h2, rfl⟩ := List.mem_map.1 hs
  exact (h m' h1).txt s' h2
end Go.Proofs.Ytkanefpoibgknaa.MO
