/- Proved: modules import each other; no condition beyond the statement's. -/
import Derived.Test.YtjipapldfjhnnaaMoNeeds
import Derived.Test.YtjipapldfjhnnaaQ4
import Derived.Test.YtjipapldfjhnnaaQ9
set_option linter.unusedSimpArgs false
set_option linter.unusedVariables false
namespace Go.Proofs.Ytjipapldfjhnnaa.Pure
open Go.RowKit Go.Proofs.Ytjipapldfjhnnaa.Q Go.Proofs.YtjipapldfjhnnaaW.PrintWords Go.Proofs.GR Go.Proofs.Ytjipapldfjhnnaa.GE Go.Proofs.Ytjipapldfjhnnaa.RD Go.Proofs.Ytjipapldfjhnnaa.MO
theorem FnModsOk : laws_FnModsOk.Pure := by
  intro code _ _ hw
  refine Ev.rounds (?_ : Ev (fun k => laws_FnModsOk.f k code) true)
  unfold laws_FnModsOk.f
  by_cases h : (code.length : Int) > 1048576
  · simp only [if_pos h]; exact Ev.now _
  simp only [if_neg h]
  obtain ⟨d, l, c, a0, c2, a, c3, e1, e2, hb, e3, e4, ha⟩ := drawn h hw
  have hdr : Ev (fun k => spec_DrawModsOk.f k code) l := by
    unfold spec_DrawModsOk.f
    simp only [e1, Option.bind_some]
    refine Ev.bind e2 ?_
    exact Ev.now _
  refine Ev.bind hdr (Ev.bind (ModsOk_impl l hb) (Ev.bind (ModsOk_spec l hb) ?_))
  simp only [beq_self_eq_true, if_true]
  cases hm : modsOk l with
  | false => simp only [Bool.false_eq_true, if_false]; exact Ev.now _
  | true =>
    have hll := (few_of hm).len
    have hi : Ev (fun k => impl_ImportRun.f k l ([] : List Int)) (([] : List Int), ([] : List Int), ([] : List Int), ([] : List ByteArray), List.replicate l.length (0 : Int)) := by
      unfold impl_ImportRun.f
      have hq : ([] : List Int) = [] ∧ l.length ≤ 1000 := ⟨rfl, by omega⟩
      rw [show (fun k => if ([] : List Int) = [] ∧ l.length ≤ 1000 then (impl_ModsOk.f k l).bind fun t => (if t = true then (some (([] : List Int), ([] : List Int), ([] : List Int), ([] : List ByteArray), List.replicate l.length (0 : Int))) else none) else none) = (fun k => (impl_ModsOk.f k l).bind fun t => (if t = true then (some (([] : List Int), ([] : List Int), ([] : List Int), ([] : List ByteArray), List.replicate l.length (0 : Int))) else none)) from funext fun k => if_pos hq]
      refine Ev.bind (ModsOk_impl l hb) ?_
      simp only [hm, if_true]
      exact Ev.now _
    simp only [if_true]
    refine Ev.bind hi ?_
    simp only [List.length_nil, List.length_replicate, Int.ofNat_zero, if_true]
    exact Ev.now _
end Go.Proofs.Ytjipapldfjhnnaa.Pure
