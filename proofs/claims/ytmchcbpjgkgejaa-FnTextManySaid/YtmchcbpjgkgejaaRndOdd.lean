/- The reference's drawing of an odd number: it always answers. -/
import Derived.Test.YtmchcbpjgkgejaaRndOne
import Derived.Test.YtmchcbpjgkgejaaQ1
set_option linter.unusedSimpArgs false
set_option linter.unusedVariables false
namespace Go.Proofs.Ytmchcbpjgkgejaa.RD
open Go.RowKit Go.Proofs.Ytmchcbpjgkgejaa.Q Go.Proofs.YtmchcbpjgkgejaaW.PrintWords
theorem odd_ok {d : List Int} (hd : Bytes d) {c : Int} (h0 : 0 ≤ c) (h1 : c ≤ 10000000) : ∃ v c', spec_rnd_odd.f d c = some (v, c') ∧ c ≤ c' ∧ c' ≤ c + 1 := by
  obtain ⟨m, c2, hm, hp, k2, k3⟩ := one_ok hd (c := c) (by omega) (by omega) [(-1), 4611686018427387904, (-4611686018427387904), 1001, 7, 1000001, (-9223372036854775808), 9223372036854775807] (by simp) (by simp) (fun _ => True) (by simp)
  refine ⟨m, c2, ?_, k2, k3⟩
  unfold spec_rnd_odd.f
  simp only [hm, Option.bind_some]
end Go.Proofs.Ytmchcbpjgkgejaa.RD
