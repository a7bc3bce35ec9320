/- Small words on whole numbers and lists, for the list laws. -/
import Derived.Test.YtpilehndngclhaaGrMath
import Derived.Test.YtpilehndngclhaaQ4
set_option linter.unusedSimpArgs false
set_option linter.unusedVariables false
namespace Go.Proofs.Ytpilehndngclhaa.GE
open Go.RowKit Go.Proofs.Ytpilehndngclhaa.Q Go.Proofs.YtpilehndngclhaaW.PrintWords Go.Proofs.GR

theorem w64 {x : Int} (h0 : -1000000000000000000 ≤ x) (h1 : x ≤ 1000000000000000000) : wrap64 x = x := by unfold wrap64; omega
theorem rd_nat (l : List Int) (n : Nat) (i : Int) (h : i = n) : rd l i = l.getD n 0 := by unfold rd; subst h; simp
theorem rdB_nat (l : List Bool) (n : Nat) (i : Int) (h : i = n) : rdOf false l i = l.getD n false := by unfold rdOf; subst h; simp
theorem inRange_eq (x a b : Int) : spec_inRange.f x a b = some (decide (a ≤ x ∧ x ≤ b)) := by
  unfold spec_inRange.f
  by_cases h : x ≥ a
  · rw [if_pos h]
    congr 1
    rw [Bool.eq_iff_iff, decide_eq_true_eq, decide_eq_true_eq]
    omega
  · rw [if_neg h, decide_eq_false (by omega)]
end Go.Proofs.Ytpilehndngclhaa.GE
