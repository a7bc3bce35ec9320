/- Answers of the powers, in a form that laws use. -/
import Derived.Test.YtccdaiagameobaaIntLaw
import Derived.Test.YtccdaiagameobaaIntEv9
set_option linter.unusedSimpArgs false
set_option linter.unusedVariables false
namespace Go.Proofs.Ytccdaiagameobaa.IE
open Go.RowKit Go.Proofs.Ytccdaiagameobaa.Q Go.Proofs.YtccdaiagameobaaW.PrintWords Go.Proofs.IM
theorem powR_form (a : List UInt8) (n : Int) : ∃ c ok, powR a n = (mkS c, ok) ∧ c.length ≤ 41 ∧ (ok = true ↔ okInt a = true ∧ (0 ≤ n ∧ n ≤ 200) ∧ (numOf a ^ n.toNat).natAbs < 10 ^ 40) ∧ (ok = true → okInt c = true ∧ numOf c = numOf a ^ n.toNat) := by
  unfold powR
  by_cases h : okInt a = true ∧ 0 ≤ n ∧ n ≤ 200
  · rw [if_pos h]
    obtain ⟨c, ok, h1, h2, h3, h4⟩ := fit_form (numOf a ^ n.toNat)
    refine ⟨c, ok, h1, h2, ?_, h4⟩
    rw [h3]
    exact ⟨fun q => ⟨h.1, h.2, q⟩, fun q => q.2.2⟩
  · rw [if_neg h]
    exact ⟨[], false, rfl, by simp, ⟨fun q => by simp at q, fun q => absurd ⟨q.1, q.2.1⟩ h⟩, fun q => by simp at q⟩
end Go.Proofs.Ytccdaiagameobaa.IE
