/- The reference's drawing of one of a row of numbers: it always answers. -/
import Derived.Test.YtmchcbpjgkgejaaRnd
import Derived.Test.YtmchcbpjgkgejaaQ1
set_option linter.unusedSimpArgs false
set_option linter.unusedVariables false
namespace Go.Proofs.Ytmchcbpjgkgejaa.RD
open Go.RowKit Go.Proofs.Ytmchcbpjgkgejaa.Q Go.Proofs.YtmchcbpjgkgejaaW.PrintWords
theorem one_ok {d : List Int} (hd : Bytes d) {c : Int} (h0 : 0 ≤ c) (h1 : c ≤ 100000000000000) (l : List Int) (hl : 1 ≤ l.length) (hl2 : l.length ≤ 1000000) (P : Int → Prop) (hP : ∀ x ∈ l, P x) :
    ∃ v c', spec_rnd_one.f d c l = some (v, c') ∧ P v ∧ c ≤ c' ∧ c' ≤ c + 1 := by
  obtain ⟨v, c', e, g0, g1, g2, g3⟩ := pick_ok hd (n := (l.length : Int)) h0 h1
  unfold spec_rnd_one.f
  rw [e]
  simp only [Option.bind_some]
  have g1 := g1 (by omega)
  rw [if_pos g0, if_pos g1]
  refine ⟨_, _, rfl, ?_, g2, g3⟩
  refine hP _ ?_
  unfold rd
  have : v.toNat < l.length := by omega
  rw [List.getD_eq_getElem?_getD, List.getElem?_eq_getElem this]
  exact List.getElem_mem this
end Go.Proofs.Ytmchcbpjgkgejaa.RD
