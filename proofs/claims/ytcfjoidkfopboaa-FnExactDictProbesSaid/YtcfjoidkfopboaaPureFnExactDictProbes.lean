/- DictProbes of the program answers as the reference's. -/
import Derived.Test.YtcfjoidkfopboaaDiOk
import Derived.Test.YtcfjoidkfopboaaDiReady
import Derived.Test.YtcfjoidkfopboaaDiMark
import Derived.Test.YtcfjoidkfopboaaQ0
import Derived.Test.YtcfjoidkfopboaaQ8
import Derived.Test.YtcfjoidkfopboaaQ10
import Derived.Test.YtcfjoidkfopboaaQ11
set_option linter.unusedVariables false
set_option linter.unusedSimpArgs false
namespace Go.Proofs.Ytcfjoidkfopboaa.DI
open Go.RowKit Go.Proofs.Ytcfjoidkfopboaa.Q Go.Proofs.YtcfjoidkfopboaaW.PrintWords
theorem probes_both (I : List Int) (E : List S52) (hI : I.length ≤ 1048576) (hE : E.length ≤ 1048576) (hS : ∀ e ∈ E, e.f0.size ≤ maxLen) (key : ByteArray) :
    ∃ L : List Int, L.length ≤ 1000 ∧ Ev (fun k => spec_DictProbes.f k I E key) L ∧ Ev (fun k => impl_DictProbes.f k I E key) L := by
  obtain ⟨b, b1, b2, b3⟩ := dict_ok I E hI (.inr hE) hS
  cases hb : b with
  | false =>
    rw [hb] at b1 b2
    refine ⟨[], by simp, ?_, ?_⟩
    · unfold spec_DictProbes.f
      refine Ev.bind b1 ?_
      simp only [Bool.false_eq_true, if_false]
      exact Ev.now _
    · unfold impl_DictProbes.f
      refine Ev.bind b2 ?_
      simp only [Bool.false_eq_true, if_false]
      exact Ev.now _
  | true =>
    have hG := b3 hb
    rw [hb] at b1 b2
    rcases Classical.em (¬ key.size ≤ 20) with hk20 | hk20
    · refine ⟨[], by simp, ?_, ?_⟩
      · unfold spec_DictProbes.f
        refine Ev.bind b1 ?_
        simp only [if_true, key_eq, Option.bind, decide_eq_false hk20, Bool.false_eq_true, if_false]
        exact Ev.now _
      · unfold impl_DictProbes.f
        refine Ev.bind b2 ?_
        simp only [if_true, if_pos (show (key.size : Int) > 20 by omega)]
        exact Ev.now _
    replace hk20 : key.size ≤ 20 := Classical.not_not.1 hk20
    obtain ⟨L, -, -, -, h4, h5, h6⟩ := probe_ex I E hG key hk20
    refine ⟨L, h4, ?_, ?_⟩
    · unfold spec_DictProbes.f
      refine Ev.bind b1 ?_
      simp only [if_true, key_eq, Option.bind, decide_eq_true hk20]
      exact Ev.bind h5 (Ev.now _)
    · unfold impl_DictProbes.f
      refine Ev.bind b2 ?_
      simp only [if_true, if_neg (show ¬ (key.size : Int) > 20 by omega)]
      exact Ev.bind h6 (Ev.now _)
end Go.Proofs.Ytcfjoidkfopboaa.DI
namespace Go.Proofs.Ytcfjoidkfopboaa.Pure
open Go.RowKit Go.Proofs.Ytcfjoidkfopboaa.Q Go.Proofs.YtcfjoidkfopboaaW.PrintWords Go.Proofs.Ytcfjoidkfopboaa.DI
theorem FnExactDictProbes (I : List Int) (E : List S58) (key : ByteArray) (h : Ready I E) (hkey : key.size ≤ maxLen) : ∃ k, laws_FnExactDictProbes.f k I E key = some true := by
  refine Ev.rounds (g := fun k => laws_FnExactDictProbes.f k I E key) ?_
  obtain ⟨hI0, hE0, hs⟩ := h
  obtain ⟨r, h1, h2⟩ := szDict_ev I E hI0 hE0 hs
  unfold laws_FnExactDictProbes.f
  by_cases hk : (key.size : Int) > 1048576
  · simp only [if_pos hk]
    exact Ev.now _
  simp only [if_neg hk]
  refine Ev.bind h1 ?_
  by_cases hr : r < 0
  · simp only [if_pos hr]
    exact Ev.now _
  simp only [if_neg hr]
  obtain ⟨-, hI, hE⟩ := h2.resolve_left hr
  have ht := toDict_ev I E hI hE
  obtain ⟨L, hL, p1, p2⟩ := probes_both I (E.map conv) hI (by rw [List.length_map]; exact hE) (conv_fits hs) key
  have hLL : Ev (fun k => laws_eqIntS.f k L L) true := eqInt_ev L (by unfold maxLen; omega)
  obtain ⟨y, y1, y2, y3⟩ := markInt I (by omega)
  obtain ⟨q, q1, q2⟩ := markEnt_l (E.map conv).length (by rw [List.length_map]; exact hE) _ 0 (E.map conv) (1 + (I.length : Int)) rfl (Nat.zero_le _) rfl (by omega) (by rw [List.length_map]; omega)
  have hm : Ev (fun k => laws_markDict.f k I (E.map conv) 1) (q.1, y, q.2) := by
    unfold laws_markDict.f
    refine Ev.bind y3 ?_
    refine Ev.bind (g := fun k => laws_markEntryS.f k (E.map conv) (1 + (I.length : Int))) (a := q) ?_ (Ev.now _)
    unfold laws_markEntryS.f
    exact q1
  obtain ⟨z, z1, z2, z3⟩ := markInt L (by omega)
  have hz := heldInt z (by omega) (fun j hj => z2 j (by omega))
  rw [z1] at hz
  refine Ev.bind ht (Ev.bind p1 (Ev.bind ht (Ev.bind p2 (Ev.bind hLL ?_))))
  simp only [if_true]
  refine Ev.bind ht (Ev.bind (eqDict_ev _ _ hI0 (by rw [List.length_map]; exact hE0)) ?_)
  simp only [if_true]
  refine Ev.bind hm ?_
  simp only [if_neg (show ¬ q.1 < 0 by omega)]
  refine Ev.bind hLL ?_
  simp only [Bool.not_true]
  refine Ev.step (fun k => laws_FnExactDictProbes.j0.eq_2 ..) ?_
  simp only [Bool.false_eq_true, if_false]
  refine Ev.bind z3 (Ev.bind hz ?_)
  simp only [if_neg (show ¬ 1 + (L.length : Int) < 0 by omega), if_true]
  refine Ev.bind ht (Ev.bind p2 (Ev.bind hLL ?_))
  simp only [if_true]
  refine Ev.bind hz ?_
  simp only [if_neg (show ¬ 1 + (L.length : Int) < 0 by omega), if_true]
  exact Ev.now _
end Go.Proofs.Ytcfjoidkfopboaa.Pure
