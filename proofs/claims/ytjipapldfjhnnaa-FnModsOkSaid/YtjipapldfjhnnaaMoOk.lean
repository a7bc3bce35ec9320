/- Modules: what the reference and the program take for valid; copies and sizes. -/
import Derived.Test.YtjipapldfjhnnaaMoName
import Derived.Test.YtjipapldfjhnnaaQ0
set_option linter.unusedSimpArgs false
set_option linter.unusedVariables false
namespace Go.Proofs.Ytjipapldfjhnnaa.MO
open Go.RowKit Go.Proofs.Ytjipapldfjhnnaa.Q Go.Proofs.YtjipapldfjhnnaaW.PrintWords

theorem rd54 (l : List S46) (i : Nat) : rd_T46 l (i : Int) = l.getD i z46 := by unfold rd_T46; simp
theorem rd51 (l : List S44) (i : Nat) : rd_T44 l (i : Int) = l.getD i z44 := by unfold rd_T44; simp
end Go.Proofs.Ytjipapldfjhnnaa.MO
