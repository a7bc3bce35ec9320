/- DictGet of the program answers as the reference's. -/
import Derived.Test.YtcfjoidkfopboaaDiOk
import Derived.Test.YtcfjoidkfopboaaDiReady
import Derived.Test.YtcfjoidkfopboaaQ0
import Derived.Test.YtcfjoidkfopboaaQ9
import Derived.Test.YtcfjoidkfopboaaQ13
set_option linter.unusedVariables false
set_option linter.unusedSimpArgs false
namespace Go.Proofs.Ytcfjoidkfopboaa.DI
open Go.RowKit Go.Proofs.Ytcfjoidkfopboaa.Q Go.Proofs.YtcfjoidkfopboaaW.PrintWords
theorem get_both (I : List Int) (E : List S52) (hI : I.length ≤ 1048576) (hE : E.length ≤ 1048576) (hS : ∀ e ∈ E, e.f0.size ≤ maxLen) (key : ByteArray) (hk : key.size ≤ maxLen) :
    ∃ p, Ev (fun k => spec_DictGet.f k I E key) p ∧ Ev (fun k => impl_DictGet.f k I E key) p := by
  obtain ⟨b, b1, b2, b3⟩ := dict_ok I E hI (.inr hE) hS
  have sj : Ev (fun k => spec_DictGet.j0 k key true I E) (0, false) := Ev.step (fun k => spec_DictGet.j0.eq_2 ..) (by simp only [if_true]; exact Ev.now _)
  have ij : Ev (fun k => impl_DictGet.j0 k key true I E) (0, false) := Ev.step (fun k => impl_DictGet.j0.eq_2 ..) (by simp only [if_true]; exact Ev.now _)
  cases hb : b with
  | false =>
    rw [hb] at b1 b2
    refine ⟨(0, false), ?_, ?_⟩
    · unfold spec_DictGet.f
      refine Ev.bind b1 ?_
      simp only [Bool.false_eq_true, if_false]
      exact sj
    · unfold impl_DictGet.f
      refine Ev.bind b2 ?_
      simp only [Bool.false_eq_true, if_false]
      exact ij
  | true =>
    have hG := b3 hb
    rw [hb] at b1 b2
    rcases Classical.em (¬ key.size ≤ 20) with hk20 | hk20
    · refine ⟨(0, false), ?_, ?_⟩
      · unfold spec_DictGet.f
        refine Ev.bind b1 ?_
        simp only [if_true, key_eq, Option.bind, decide_eq_false hk20, Bool.not_false]
        exact sj
      · unfold impl_DictGet.f
        refine Ev.bind b2 ?_
        simp only [if_true]
        rw [decide_eq_true (show (key.size : Int) > 20 by omega)]
        exact ij
    replace hk20 : key.size ≤ 20 := Classical.not_not.1 hk20
    obtain ⟨L, s, hs, hst, q1, q2, q3, q4, q5, q6, q7, q8⟩ := slot_ex I E hG key hk20
    have hx := hG.rng _ (getD_mem' I 0 hs)
    have hfind : Ev (fun k => impl_Dict_find.f k I E key) (mx (I.getD s 0) (-1)) := by
      unfold impl_Dict_find.f
      refine Ev.bind q2 ?_
      simp only [if_pos q6, if_pos q7, q8, if_pos (show (0 : Int) ≤ (s : Int) by omega), if_pos (show (s : Int) < (I.length : Int) by omega), rdN]
      exact Ev.now _
    refine ⟨if I.getD s 0 < 0 then (0, false) else ((E.getD (I.getD s 0).toNat z52).f2, true), ?_, ?_⟩
    · unfold spec_DictGet.f
      refine Ev.bind b1 ?_
      simp only [if_true, key_eq, Option.bind, decide_eq_true hk20, Bool.not_true]
      refine Ev.step (fun k => spec_DictGet.j0.eq_2 ..) ?_
      simp only [Bool.false_eq_true, if_false]
      refine Ev.bind q3 ?_
      simp only [if_pos (show (0 : Int) ≤ (s : Int) by omega), if_pos (show (s : Int) < (I.length : Int) by omega), rdN]
      by_cases g : I.getD s 0 < 0
      · simp only [if_pos g]; exact Ev.now _
      · simp only [if_neg g, if_pos (show 0 ≤ I.getD s 0 by omega), if_pos hx.2]
        exact Ev.now _
    · unfold impl_DictGet.f
      refine Ev.bind b2 ?_
      simp only [if_true]
      rw [decide_eq_false (show ¬ (key.size : Int) > 20 by omega)]
      refine Ev.step (fun k => impl_DictGet.j0.eq_2 ..) ?_
      simp only [Bool.false_eq_true, if_false]
      refine Ev.bind hfind ?_
      by_cases g : I.getD s 0 < 0
      · have e : mx (I.getD s 0) (-1) = -1 := by unfold mx; split <;> omega
        simp only [e, if_pos g, if_pos (show (-1 : Int) < 0 by omega)]
        exact Ev.now _
      · have e : mx (I.getD s 0) (-1) = I.getD s 0 := by unfold mx; split <;> omega
        simp only [e, if_neg g, if_pos (show 0 ≤ I.getD s 0 by omega), if_pos hx.2]
        exact Ev.now _
end Go.Proofs.Ytcfjoidkfopboaa.DI
namespace Go.Proofs.Ytcfjoidkfopboaa.Pure
open Go.RowKit Go.Proofs.Ytcfjoidkfopboaa.Q Go.Proofs.YtcfjoidkfopboaaW.PrintWords Go.Proofs.Ytcfjoidkfopboaa.DI
theorem FnExactDictGet (I : List Int) (E : List S58) (key : ByteArray) (h : Ready I E) (hkey : key.size ≤ maxLen) : ∃ k, laws_FnExactDictGet.f k I E key = some true := by
  refine Ev.rounds (g := fun k => laws_FnExactDictGet.f k I E key) ?_
  obtain ⟨hI0, hE0, hs⟩ := h
  obtain ⟨r, h1, h2⟩ := szDict_ev I E hI0 hE0 hs
  unfold laws_FnExactDictGet.f
  by_cases hk : (key.size : Int) > 1048576
  · simp only [if_pos hk]
    exact Ev.now _
  simp only [if_neg hk]
  refine Ev.bind h1 ?_
  by_cases hr : r < 0
  · simp only [if_pos hr]
    exact Ev.now _
  simp only [if_neg hr]
  obtain ⟨-, hI, hE⟩ := h2.resolve_left hr
  have ht := toDict_ev I E hI hE
  obtain ⟨p, p1, p2⟩ := get_both I (E.map conv) hI (by rw [List.length_map]; exact hE) (conv_fits hs) key hkey
  refine Ev.bind ht (Ev.bind p1 (Ev.bind ht (Ev.bind p2 ?_)))
  simp only [if_true, bne_self_eq_false]
  refine Ev.step (fun k => laws_FnExactDictGet.j0.eq_2 ..) ?_
  simp only [Bool.false_eq_true, if_false]
  refine Ev.bind ht (Ev.bind (eqDict_ev _ _ hI0 (by rw [List.length_map]; exact hE0)) ?_)
  simp only [if_true]
  exact Ev.now _
end Go.Proofs.Ytcfjoidkfopboaa.Pure
