/- Dictionaries that come in: of what size. -/
import Derived.Test.YtcfjoidkfopboaaDiFits
namespace Go.Proofs.Ytcfjoidkfopboaa.DI
open Go.RowKit Go.Proofs.Ytcfjoidkfopboaa.Q Go.Proofs.YtcfjoidkfopboaaW.PrintWords
def Ready (I : List Int) (E : List S58) : Prop := I.length ≤ maxLen ∧ E.length ≤ maxLen ∧ ∀ s ∈ E, s.f0.size ≤ maxLen
theorem conv_fits {E : List S58} (h : ∀ s ∈ E, s.f0.size ≤ maxLen) : ∀ e ∈ E.map conv, e.f0.size ≤ maxLen := by
  intro e he
  obtain ⟨s, h1, rfl⟩ := List.mem_map.1 he
  exact h s h1
end Go.Proofs.Ytcfjoidkfopboaa.DI
