/- Dropping a root: what is freed, for the program and the reference. -/
import Derived.Test.YtckninkpjdcfbaaGrFree2
import Derived.Test.YtckninkpjdcfbaaGrEv3
import Derived.Test.YtckninkpjdcfbaaGrEv5
import Derived.Test.YtckninkpjdcfbaaQ0
set_option linter.unusedSimpArgs false
set_option linter.unusedVariables false
namespace Go.Proofs.Ytckninkpjdcfbaa.GE
open Go.RowKit Go.Proofs.Ytckninkpjdcfbaa.Q Go.Proofs.YtckninkpjdcfbaaW.PrintWords Go.Proofs.GR

/-- The roots without one. -/
def without (r : List Int) (n : Nat) : List Int := r.take n ++ r.drop (n + 1)
theorem count_without {r : List Int} {n : Nat} (h : n < r.length) (x : Int) : r.count x = (without r n).count x + (if r.getD n 0 = x then 1 else 0) := by
  have e : r = r.take n ++ r.getD n 0 :: r.drop (n + 1) := by rw [← drop_cons h, List.take_append_drop]
  conv => lhs; rw [e]
  unfold without
  rw [List.count_append, List.count_cons, List.count_append]
  by_cases c : r.getD n 0 = x
  · rw [if_pos c, if_pos (by simpa using c)]; omega
  · rw [if_neg c, if_neg (by simpa using c)]; omega
theorem without_sub {r : List Int} {n : Nat} {x : Int} (h : x ∈ without r n) : x ∈ r := by
  rcases List.mem_append.1 h with q | q
  · exact List.mem_of_mem_take q
  · exact List.mem_of_mem_drop q
theorem without_len (r : List Int) (n : Nat) : (without r n).length ≤ r.length := by
  unfold without
  rw [List.length_append, List.length_take, List.length_drop]
  omega
theorem refs_count (g : List (List Int)) (r : List Int) (x : Int) : (refs g r).count x = r.count x + g.flatten.count x := by simp [refs, List.count_append]
/-- A valid drop. -/
def okD (g : List (List Int)) (r : List Int) (at_ : Int) : Prop := (okG g && okR g r) = true ∧ 0 ≤ at_ ∧ at_ < (r.length : Int)
end Go.Proofs.Ytckninkpjdcfbaa.GE
