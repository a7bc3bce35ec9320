/- DictOk of the program answers as the reference's. -/
import Derived.Test.YtcfjoidkfopboaaDiOk
import Derived.Test.YtcfjoidkfopboaaDiReady
import Derived.Test.YtcfjoidkfopboaaQ0
import Derived.Test.YtcfjoidkfopboaaQ12
set_option linter.unusedVariables false
namespace Go.Proofs.Ytcfjoidkfopboaa.Pure
open Go.RowKit Go.Proofs.Ytcfjoidkfopboaa.Q Go.Proofs.YtcfjoidkfopboaaW.PrintWords Go.Proofs.Ytcfjoidkfopboaa.DI
theorem FnExactDictOk (I : List Int) (E : List S58) (h : Ready I E) : ∃ k, laws_FnExactDictOk.f k I E = some true := by
  refine Ev.rounds (g := fun k => laws_FnExactDictOk.f k I E) ?_
  obtain ⟨hI0, hE0, hs⟩ := h
  obtain ⟨r, h1, h2⟩ := szDict_ev I E hI0 hE0 hs
  unfold laws_FnExactDictOk.f
  refine Ev.bind h1 ?_
  by_cases hr : r < 0
  · simp only [if_pos hr]
    exact Ev.now _
  simp only [if_neg hr]
  obtain ⟨-, hI, hE⟩ := h2.resolve_left hr
  have ht := toDict_ev I E hI hE
  obtain ⟨b, b1, b2, -⟩ := dict_ok I (E.map conv) hI (.inr (by rw [List.length_map]; exact hE)) (conv_fits hs)
  have hspec : Ev (fun k => spec_DictOk.f k I (E.map conv)) b := by
    unfold spec_DictOk.f
    exact Ev.bind b1 (Ev.now _)
  refine Ev.bind ht (Ev.bind hspec (Ev.bind ht (Ev.bind b2 ?_)))
  simp only [bne_self_eq_false, Bool.false_eq_true, if_false]
  refine Ev.bind ht (Ev.bind (eqDict_ev _ _ hI0 (by rw [List.length_map]; exact hE0)) ?_)
  simp only [if_true]
  exact Ev.now _
end Go.Proofs.Ytcfjoidkfopboaa.Pure
