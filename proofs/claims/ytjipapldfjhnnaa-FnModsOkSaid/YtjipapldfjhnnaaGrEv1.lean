/- Valid graphs, for the reference and for the program. -/
import Derived.Test.YtjipapldfjhnnaaGrMath
import Derived.Test.YtjipapldfjhnnaaQ0
import Derived.Test.YtjipapldfjhnnaaQ4
set_option linter.unusedSimpArgs false
set_option linter.unusedVariables false
namespace Go.Proofs.Ytjipapldfjhnnaa.GE
open Go.RowKit Go.Proofs.Ytjipapldfjhnnaa.Q Go.Proofs.YtjipapldfjhnnaaW.PrintWords Go.Proofs.GR

theorem w64 {x : Int} (h0 : -1000000000000000000 ≤ x) (h1 : x ≤ 1000000000000000000) : wrap64 x = x := by unfold wrap64; omega
theorem rd_nat (l : List Int) (n : Nat) (i : Int) (h : i = n) : rd l i = l.getD n 0 := by unfold rd; subst h; simp
theorem rd_row (g : List (List Int)) (x : Int) : rd_L6 g x = row g x := rfl
/-- Graphs of bounded size, valid or not. -/
structure Sz (g : List (List Int)) : Prop where
  len : g.length ≤ 100000
  row_len : ∀ x, (row g x).length ≤ 100000
theorem inRange_eq (x a b : Int) : spec_inRange.f x a b = some (decide (a ≤ x ∧ x ≤ b)) := by
  unfold spec_inRange.f
  by_cases h : x ≥ a
  · rw [if_pos h]
    congr 1
    rw [Bool.eq_iff_iff, decide_eq_true_eq, decide_eq_true_eq]
    omega
  · rw [if_neg h, decide_eq_false (by omega)]

end Go.Proofs.Ytjipapldfjhnnaa.GE
