/- DictSame of the program answers as the reference's. -/
import Derived.Test.YthocdlaajncmpaaDiSame
import Derived.Test.YthocdlaajncmpaaDiReady
import Derived.Test.YthocdlaajncmpaaQ0
import Derived.Test.YthocdlaajncmpaaQ2
import Derived.Test.YthocdlaajncmpaaQ10
set_option linter.unusedVariables false
set_option linter.unusedSimpArgs false
namespace Go.Proofs.Ythocdlaajncmpaa.DI
open Go.RowKit Go.Proofs.Ythocdlaajncmpaa.Q Go.Proofs.YthocdlaajncmpaaW.PrintWords
theorem szDict_from (v : Int) (hv0 : 0 ≤ v) (hv1 : v ≤ 1048576) (I : List Int) (E : List S47) (hI : I.length ≤ maxLen) (hE : E.length ≤ maxLen) (hs : ∀ s ∈ E, s.f0.size ≤ maxLen) : ∃ r, Ev (fun k => laws_szDict.f k I E v) r ∧ (r < 0 ∨ (0 ≤ r ∧ r ≤ v ∧ I.length ≤ 1048576 ∧ E.length ≤ 1048576)) := by
  unfold laws_szDict.f laws_szIntS.f
  have e : wrap64 (v - (I.length : Int)) = v - (I.length : Int) := by unfold wrap64; unfold maxLen at hI; omega
  rw [e]
  by_cases h : v - (I.length : Int) < 0
  · simp only [if_pos h, Option.bind, if_pos (show (-1 : Int) < 0 by omega)]
    exact ⟨_, Ev.now _, .inl (by omega)⟩
  simp only [if_neg h, Option.bind]
  have e2 : wrap64 (v - (I.length : Int) - (E.length : Int)) = v - (I.length : Int) - (E.length : Int) := by unfold wrap64; unfold maxLen at hE; omega
  by_cases h2 : v - (I.length : Int) - (E.length : Int) < 0
  · refine ⟨-1, ?_, .inl (by omega)⟩
    have : Ev (fun k => laws_szEntryS.f k E (v - (I.length : Int))) (-1) := by
      unfold laws_szEntryS.f
      simp only [e2, if_pos h2]
      exact Ev.now _
    refine Ev.bind (f := fun k t => if t < 0 then some (-1) else some t) this ?_
    simp only [if_pos (show (-1 : Int) < 0 by omega)]
    exact Ev.now _
  · obtain ⟨r, h3, h4⟩ := szEnt_l E hE hs _ 0 (v - (I.length : Int) - (E.length : Int)) rfl (Nat.zero_le _) (by omega) (by omega)
    have : Ev (fun k => laws_szEntryS.f k E (v - (I.length : Int))) r := by
      unfold laws_szEntryS.f
      simp only [e2, if_neg h2]
      exact h3
    by_cases hr : r < 0
    · refine ⟨-1, Ev.bind (f := fun k t => if t < 0 then some (-1) else some t) this ?_, .inl (by omega)⟩
      simp only [if_pos hr]
      exact Ev.now _
    · refine ⟨r, Ev.bind (f := fun k t => if t < 0 then some (-1) else some t) this ?_, .inr (by omega)⟩
      simp only [if_neg hr]
      exact Ev.now _
end Go.Proofs.Ythocdlaajncmpaa.DI
namespace Go.Proofs.Ythocdlaajncmpaa.Pure
open Go.RowKit Go.Proofs.Ythocdlaajncmpaa.Q Go.Proofs.YthocdlaajncmpaaW.PrintWords Go.Proofs.Ythocdlaajncmpaa.DI
theorem FnExactDictSame (I : List Int) (E : List S47) (I2 : List Int) (E2 : List S47) (h : Ready I E) (h' : Ready I2 E2) : ∃ k, laws_FnExactDictSame.f k I E I2 E2 = some true := by
  refine Ev.rounds (g := fun k => laws_FnExactDictSame.f k I E I2 E2) ?_
  obtain ⟨hI0, hE0, hs⟩ := h
  obtain ⟨hI20, hE20, hs2⟩ := h'
  obtain ⟨r, h1, h2⟩ := szDict_ev I E hI0 hE0 hs
  obtain ⟨r', h1', h2'⟩ := szDict_from 1048576 (by decide) (by decide) I E hI0 hE0 hs
  unfold laws_FnExactDictSame.f
  refine Ev.bind h1' ?_
  by_cases hr : r' < 0
  · simp only [if_pos hr]
    exact Ev.now _
  simp only [if_neg hr]
  obtain ⟨r0, r1, hI, hE⟩ := h2'.resolve_left hr
  obtain ⟨q, h3, h4⟩ := szDict_from r' r0 r1 I2 E2 hI20 hE20 hs2
  refine Ev.bind h3 ?_
  by_cases hq : q < 0
  · simp only [if_pos hq]
    exact Ev.now _
  simp only [if_neg hq]
  obtain ⟨-, -, hI2, hE2⟩ := h4.resolve_left hq
  have ht := toDict_ev I E hI hE
  have ht2 := toDict_ev I2 E2 hI2 hE2
  obtain ⟨b, b1, b2⟩ := same_both I (E.map conv) I2 (E2.map conv) hI (by rw [List.length_map]; exact hE) (conv_fits hs) hI2 (by rw [List.length_map]; exact hE2) (conv_fits hs2)
  refine Ev.bind ht (Ev.bind ht2 (Ev.bind b1 (Ev.bind ht (Ev.bind ht2 (Ev.bind b2 ?_)))))
  simp only [bne_self_eq_false, Bool.false_eq_true, if_false]
  refine Ev.bind ht (Ev.bind (eqDict_ev _ _ hI0 (by rw [List.length_map]; exact hE0)) ?_)
  simp only [if_true]
  refine Ev.bind ht2 (Ev.bind (eqDict_ev _ _ hI20 (by rw [List.length_map]; exact hE20)) ?_)
  simp only [if_true]
  exact Ev.now _
end Go.Proofs.Ythocdlaajncmpaa.Pure
