/- Dictionaries that come in: of what size. -/
import Derived.Test.YthocdlaajncmpaaDiFits
namespace Go.Proofs.Ythocdlaajncmpaa.DI
open Go.RowKit Go.Proofs.Ythocdlaajncmpaa.Q Go.Proofs.YthocdlaajncmpaaW.PrintWords
def Ready (I : List Int) (E : List S47) : Prop := I.length ≤ maxLen ∧ E.length ≤ maxLen ∧ ∀ s ∈ E, s.f0.size ≤ maxLen
theorem conv_fits {E : List S47} (h : ∀ s ∈ E, s.f0.size ≤ maxLen) : ∀ e ∈ E.map conv, e.f0.size ≤ maxLen := by
  intro e he
  obtain ⟨s, h1, rfl⟩ := List.mem_map.1 he
  exact h s h1
end Go.Proofs.Ythocdlaajncmpaa.DI
