/- Answers of the integers' operations, in a form that laws use. -/
import Derived.Test.YtccdaiagameobaaIntEv6
set_option linter.unusedSimpArgs false
set_option linter.unusedVariables false
namespace Go.Proofs.Ytccdaiagameobaa.IE
open Go.RowKit Go.Proofs.Ytccdaiagameobaa.Q Go.Proofs.YtccdaiagameobaaW.PrintWords Go.Proofs.IM

theorem okInt_len {l : List UInt8} (h : okInt l = true) : l.length ≤ 41 := by
  have h0 := h
  unfold okInt lastOk at h0
  simp only [Bool.and_eq_true, decide_eq_true_eq] at h0
  have h1 := h0.2.1.2
  cases e : isNeg l with
  | true => rw [neg_split e, List.length_cons]; omega
  | false => rw [pos_split e] at h1; omega
theorem ok_inj {a b : List UInt8} (h1 : okInt a = true) (h2 : okInt b = true) (h : numOf a = numOf b) : a = b := by
  rw [(ok_txt h1).1, (ok_txt h2).1, h]
theorem fit_form (n : Int) : ∃ c ok, fit n = (mkS c, ok) ∧ c.length ≤ 41 ∧ (ok = true ↔ n.natAbs < 10 ^ 40) ∧ (ok = true → okInt c = true ∧ numOf c = n) := by
  unfold fit
  by_cases h : n.natAbs < 10 ^ 40
  · rw [if_pos h]
    have ht := txt_ok n h
    exact ⟨txtL n, true, rfl, okInt_len ht.1, by simp [h], fun _ => ht⟩
  · rw [if_neg h]
    exact ⟨[], false, rfl, by simp, by simp [h], fun q => by simp at q⟩
theorem res2_form (op : Int → Int → Int) (a b : List UInt8) : ∃ c ok, res2 op a b = (mkS c, ok) ∧ c.length ≤ 41 ∧ (ok = true ↔ okInt a = true ∧ okInt b = true ∧ (op (numOf a) (numOf b)).natAbs < 10 ^ 40) ∧ (ok = true → okInt c = true ∧ numOf c = op (numOf a) (numOf b)) := by
  unfold res2
  by_cases h : okInt a = true ∧ okInt b = true
  · rw [if_pos h]
    obtain ⟨c, ok, h1, h2, h3, h4⟩ := fit_form (op (numOf a) (numOf b))
    refine ⟨c, ok, h1, h2, ?_, h4⟩
    rw [h3]
    exact ⟨fun q => ⟨h.1, h.2, q⟩, fun q => q.2.2⟩
  · rw [if_neg h]
    exact ⟨[], false, rfl, by simp, ⟨fun q => by simp at q, fun q => absurd ⟨q.1, q.2.1⟩ h⟩, fun q => by simp at q⟩
end Go.Proofs.Ytccdaiagameobaa.IE
