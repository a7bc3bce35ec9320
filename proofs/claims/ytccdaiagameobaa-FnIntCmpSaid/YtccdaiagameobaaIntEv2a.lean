/- Values of tails of rows of digits. -/
import Derived.Test.YtccdaiagameobaaIntEv1
set_option linter.unusedSimpArgs false
set_option linter.unusedVariables false
namespace Go.Proofs.Ytccdaiagameobaa.IE
open Go.RowKit Go.Proofs.Ytccdaiagameobaa.Q Go.Proofs.YtccdaiagameobaaW.PrintWords Go.Proofs.IM

theorem val_drop_lt {l : List Int} {n : Nat} (h : n < l.length) : val (l.drop n) = l.getD n 0 + 10 * val (l.drop (n + 1)) := by rw [drop_getD h]; rfl
theorem val_drop_ge {l : List Int} {n : Nat} (h : l.length ≤ n) : val (l.drop n) = 0 := by rw [List.drop_of_length_le h]; rfl
theorem tmod10 {s : Int} (h : 0 ≤ s) : Int.tmod s 10 = s % 10 := Int.tmod_eq_emod_of_nonneg h
theorem tdiv10 {s : Int} (h : 0 ≤ s) : Int.tdiv s 10 = s / 10 := Int.tdiv_eq_ediv_of_nonneg h

end Go.Proofs.Ytccdaiagameobaa.IE
