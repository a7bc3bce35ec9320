/- The reference's drawing of a number, at times an odd one: it always answers. -/
import Derived.Test.YtmchcbpjgkgejaaRndOdd
import Derived.Test.YtmchcbpjgkgejaaQ1
set_option linter.unusedSimpArgs false
set_option linter.unusedVariables false
namespace Go.Proofs.Ytmchcbpjgkgejaa.RD
open Go.RowKit Go.Proofs.Ytmchcbpjgkgejaa.Q Go.Proofs.YtmchcbpjgkgejaaW.PrintWords
theorem often_ok {d : List Int} (hd : Bytes d) {c : Int} (h0 : 0 ≤ c) (h1 : c ≤ 1000000) (x : Int) : ∃ v c', spec_rnd_often.f d c x = some (v, c') ∧ c ≤ c' ∧ c' ≤ c + 2 := by
  obtain ⟨v, c1, hv, g0, g1, g2, g3⟩ := pick_ok hd (n := 16) h0 (by omega)
  obtain ⟨m, c2, hm, k2, k3⟩ := odd_ok hd (c := c1) (by omega) (by omega)
  unfold spec_rnd_often.f
  rw [hv]
  simp only [Option.bind_some]
  by_cases e : v = 0
  · rw [if_pos e, hm]
    exact ⟨m, c2, rfl, by omega, by omega⟩
  · rw [if_neg e]
    exact ⟨x, c1, rfl, by omega, by omega⟩
end Go.Proofs.Ytmchcbpjgkgejaa.RD
