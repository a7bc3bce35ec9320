/- Half of the bytes. -/
import Derived.Test.YtccdaiagameobaaRnd
import Derived.Test.YtccdaiagameobaaQ13
set_option linter.unusedSimpArgs false
set_option linter.unusedVariables false
namespace Go.Proofs.Ytccdaiagameobaa.RD
open Go.RowKit Go.Proofs.Ytccdaiagameobaa.Q Go.Proofs.YtccdaiagameobaaW.PrintWords
theorem Half_ok {l : List Int} (h : Bytes l) : ∃ d, spec_Half.f l = some d ∧ Bytes d := by
  unfold spec_Half.f
  have hl := h.1
  rw [wr (x := (l.length : Int) / 2) (by omega) (by omega), if_pos (by omega), if_pos (by omega)]
  exact ⟨_, rfl, h.drop _⟩
end Go.Proofs.Ytccdaiagameobaa.RD
