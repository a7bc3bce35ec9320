/- Circles of imports. -/
import Derived.Test.YtjipapldfjhnnaaMoEdge
import Derived.Test.YtjipapldfjhnnaaGrIdxs
import Derived.Test.YtjipapldfjhnnaaQ0
import Derived.Test.YtjipapldfjhnnaaQ7
import Derived.Test.YtjipapldfjhnnaaQ10
set_option linter.unusedSimpArgs false
set_option linter.unusedVariables false
namespace Go.Proofs.Ytjipapldfjhnnaa.MO
open Go.RowKit Go.Proofs.Ytjipapldfjhnnaa.Q Go.Proofs.YtjipapldfjhnnaaW.PrintWords Go.Proofs.GR Go.Proofs.Ytjipapldfjhnnaa.GE

noncomputable def circ (g : List (List Int)) (at' : Int) : Bool := (List.range g.length).any fun j => (flags g [at']).getD j false && (flags g (g.getD j [])).getD j false
noncomputable def circle (l : List S44) (at' : Int) : Bool := (modsOk l && decide (0 ≤ at' ∧ at' < (l.length : Int))) && circ (l.map edge) at'
theorem rdB (l : List Bool) (i : Nat) : rdOf false l (i : Int) = l.getD i false := by unfold rdOf; simp
theorem row_get (g : List (List Int)) (hg : Gr g) (j : Nat) : (∀ x ∈ g.getD j [], 0 ≤ x ∧ x < (g.length : Int)) ∧ (g.getD j []).length ≤ 100000 := by
  have h1 := hg.row_idx (j : Int)
  have h2 := hg.row_len (j : Int)
  unfold row at h1 h2
  rw [Int.toNat_natCast] at h1 h2
  exact ⟨h1, by omega⟩
theorem spec_circ (l : List S44) (hb : Bnd l) (a : Int) (h0 : -9223372036854775808 ≤ a) (h1 : a ≤ 9223372036854775807) : Ev (fun k => spec_ImportCircle.f k l a) (circle l a) := by
  unfold spec_ImportCircle.f
  refine Ev.bind (validMods_ev l hb) ?_
  have jt : Ev (fun k => spec_ImportCircle.j0 k l a true) false := Ev.step (fun k => spec_ImportCircle.j0.eq_2 ..) (Ev.now _)
  unfold circle
  cases h : modsOk l with
  | false => exact jt
  | true =>
    simp only [if_true, Bool.true_and, inRange_eq, wless hb.len]
    have e : decide (0 ≤ a ∧ a ≤ (l.length : Int) - 1) = decide (0 ≤ a ∧ a < (l.length : Int)) := by rw [Bool.eq_iff_iff, decide_eq_true_eq, decide_eq_true_eq]; omega
    rw [e]
    show Ev (fun k => spec_ImportCircle.j0 k l a (!(decide (0 ≤ a ∧ a < (l.length : Int))))) _
    by_cases ha : 0 ≤ a ∧ a < (l.length : Int)
    · rw [decide_eq_true ha]
      have hf := few_of h
      have hg := gr_of h
      have hgl : (l.map edge).length = l.length := List.length_map ..
      refine Ev.step (fun k => spec_ImportCircle.j0.eq_2 ..) ?_
      simp only [Bool.not_true, Bool.false_eq_true, if_false, Bool.true_and]
      refine Ev.bind (needs_ev l hf) ?_
      refine Ev.bind (spec_marked_ev _ hg [a] (by intro x hx; rw [List.mem_singleton.1 hx, hgl]; exact ha) (by simp)) ?_
      generalize hgg : l.map edge = g at *
      unfold circ
      rw [hgl]
      have fl : (flags g [a]).length = l.length := by rw [flags_length, hgl]
      have := down (F := fun k i => spec_ImportCircle.l0 k l g (flags g [a]) i) (n := l.length) (res := fun i => ((List.range l.length).drop i).any fun j => (flags g [a]).getD j false && (flags g (g.getD j [])).getD j false) ?_ ?_ 0 (Nat.zero_le _)
      · simpa using this
      · refine Ev.step (fun k => spec_ImportCircle.l0.eq_2 ..) ?_
        simp only [Int.lt_irrefl, if_false]
        rw [List.drop_eq_nil_of_le (by simp)]
        exact Ev.now _
      · intro i hi ih
        refine Ev.step (fun k => spec_ImportCircle.l0.eq_2 ..) ?_
        simp only [if_pos (show (0 : Int) ≤ i by omega), if_pos (show (i : Int) < (l.length : Int) by omega), fl, hgl, rdB, rdL9, wnext hi hb.len]
        rw [drop_getD (List.range l.length) 0 (by simpa using hi), List.any_cons, getD_get (List.range l.length) 0 (by simpa using hi), List.getElem_range]
        cases h2 : (flags g [a]).getD i false with
        | false =>
          simp only [Bool.false_eq_true, if_false, Bool.false_and, Bool.false_or]
          exact ih
        | true =>
          simp only [if_true, Bool.true_and]
          refine Ev.bind (spec_marked_ev g hg _ (row_get g hg i).1 (row_get g hg i).2) ?_
          simp only [flags_length, hgl, if_pos (show (i : Int) < (l.length : Int) by omega), rdB]
          cases h3 : (flags g (g.getD i [])).getD i false with
          | true => exact Ev.now _
          | false => exact ih
    · rw [decide_eq_false ha]
      exact jt
theorem needs_impl (l : List S44) (hb : Bnd l) (a : Int) : Ev (fun k => impl_ImportNeeds.f k l a) (if (modsOk l && decide (0 ≤ a ∧ a < (l.length : Int))) = true then idxs (flags (l.map edge) [a]) true else []) := by
  unfold impl_ImportNeeds.f
  refine Ev.bind (ModsOk_impl l hb) ?_
  have jt : Ev (fun k => impl_ImportNeeds.j0 k l a true) [] := Ev.step (fun k => impl_ImportNeeds.j0.eq_2 ..) (Ev.now _)
  cases h : modsOk l with
  | false => exact jt
  | true =>
    simp only [if_true, Bool.true_and]
    by_cases ha : a < 0
    · simp only [if_pos ha]
      rw [decide_eq_false (by omega)]
      exact jt
    · simp only [if_neg ha]
      by_cases ha' : a < (l.length : Int)
      · rw [decide_eq_false (show ¬ a ≥ (l.length : Int) by omega), decide_eq_true (show 0 ≤ a ∧ a < (l.length : Int) by omega), if_pos rfl]
        have hf := few_of h
        have hg := gr_of h
        have hgl : (l.map edge).length = l.length := List.length_map ..
        refine Ev.step (fun k => impl_ImportNeeds.j0.eq_2 ..) ?_
        simp only [Bool.false_eq_true, if_false]
        refine Ev.bind (imports_ev l hf) ?_
        refine Ev.bind (impl_reached_ev _ hg [a] (by intro x hx; rw [List.mem_singleton.1 hx, hgl]; omega) (by simp)) ?_
        refine Ev.bind (impl_marked_ev _ true (by rw [flags_length, hgl]; have := hf.len; omega)) (Ev.now _)
      · rw [decide_eq_true (show a ≥ (l.length : Int) by omega), decide_eq_false (by omega)]
        exact jt
theorem impl_circ (l : List S44) (hb : Bnd l) (a : Int) : Ev (fun k => impl_ImportCircle.f k l a) (circle l a) := by
  unfold impl_ImportCircle.f
  refine Ev.bind (needs_impl l hb a) ?_
  unfold circle
  cases h : (modsOk l && decide (0 ≤ a ∧ a < (l.length : Int))) with
  | false =>
    rw [if_neg (by decide)]
    refine Ev.step (fun k => impl_ImportCircle.l0.eq_2 ..) ?_
    simp only [List.length_nil, Bool.false_and]
    exact Ev.now _
  | true =>
    rw [if_pos rfl, Bool.true_and]
    rw [Bool.and_eq_true] at h
    have hf := few_of h.1
    have hg := gr_of h.1
    have hgl : (l.map edge).length = l.length := List.length_map ..
    have he := imports_ev l hf
    generalize hgg : l.map edge = g at *
    have ec : circ g a = (idxs (flags g [a]) true).any fun x => (flags g (g.getD x.toNat [])).getD x.toNat false := by
      unfold circ idxs
      rw [List.any_map, List.any_filter, flags_length]
      congr 1
      funext j
      simp only [Function.comp, Int.toNat_natCast]
      cases (flags g [a]).getD j false <;> rfl
    rw [ec]
    have hin : ∀ x ∈ idxs (flags g [a]) true, 0 ≤ x ∧ x < (l.length : Int) := fun x hx => by
      have := mem_idxs.1 hx
      rw [flags_length, hgl] at this
      exact ⟨this.1, this.2.1⟩
    have hlen : (idxs (flags g [a]) true).length ≤ maxLen := by
      have := idxsTo_len (flags g [a]) true (flags g [a]).length
      rw [idxsTo_all, flags_length, hgl] at this
      have := hf.len
      unfold maxLen
      omega
    generalize idxs (flags g [a]) true = q at *
    have := down (F := fun k i => impl_ImportCircle.l0 k l q (q.length : Int) i) (n := q.length) (res := fun i => (q.drop i).any fun x => (flags g (g.getD x.toNat [])).getD x.toNat false) ?_ ?_ 0 (Nat.zero_le _)
    · simpa using this
    · refine Ev.step (fun k => impl_ImportCircle.l0.eq_2 ..) ?_
      simp only [Int.lt_irrefl, if_false]
      rw [List.drop_length]
      exact Ev.now _
    · intro i hi ih
      refine Ev.step (fun k => impl_ImportCircle.l0.eq_2 ..) ?_
      have hr : rd q (i : Int) = q.getD i 0 := by unfold rd; simp
      obtain ⟨x0, x1⟩ := hin (q.getD i 0) (by rw [getD_get q 0 hi]; exact List.getElem_mem hi)
      simp only [if_pos (show (0 : Int) ≤ i by omega), if_pos (show (i : Int) < (q.length : Int) by omega), hr, wnext hi hlen]
      rw [drop_getD q 0 hi, List.any_cons]
      generalize q.getD i 0 = x at *
      obtain ⟨n, rfl⟩ : ∃ n : Nat, x = (n : Int) := ⟨x.toNat, by omega⟩
      refine Ev.bind he ?_
      simp only [if_pos x0, hgl, if_pos x1, rdL9, Int.toNat_natCast]
      refine Ev.bind (impl_reached_ev g hg _ (row_get g hg n).1 (row_get g hg n).2) ?_
      simp only [flags_length, hgl, if_pos x1, rdB]
      cases h3 : (flags g (g.getD n [])).getD n false with
      | true => exact Ev.now _
      | false => exact ih
end Go.Proofs.Ytjipapldfjhnnaa.MO
