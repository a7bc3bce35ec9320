/- Proved: needs go on; no condition beyond the statement's. -/
import Derived.Test.YtjipapldfjhnnaaMoNeeds
import Derived.Test.YtjipapldfjhnnaaQ7
import Derived.Test.YtjipapldfjhnnaaQ11
set_option linter.unusedSimpArgs false
set_option linter.unusedVariables false
namespace Go.Proofs.Ytjipapldfjhnnaa.Pure
open Go.RowKit Go.Proofs.Ytjipapldfjhnnaa.Q Go.Proofs.YtjipapldfjhnnaaW.PrintWords Go.Proofs.GR Go.Proofs.Ytjipapldfjhnnaa.GE Go.Proofs.Ytjipapldfjhnnaa.RD Go.Proofs.Ytjipapldfjhnnaa.MO
theorem asc_getD {l : List Int} (h : asc l) {n : Nat} (h0 : 0 < n) (hn : n < l.length) : l.getD (n - 1) 0 < l.getD n 0 := by
  unfold asc at h
  rw [List.pairwise_iff_getElem] at h
  rw [getD_lt (by omega), getD_lt hn]
  exact h (n - 1) n (by omega) hn (by omega)
theorem Ascends_ev (l : List Int) (hl : l.length ≤ 1000000) (h : asc l) : Ev (fun k => spec_Ascends.f k l) true := by
  have key : ∀ (d n : Nat) (i : Int), i = n → 0 < n → l.length - n ≤ d → Ev (fun k => spec_Ascends.l0 k l i) true := by
    intro d
    induction d with
    | zero =>
      intro n i hi h0 hd
      refine Ev.step (fun k => spec_Ascends.l0.eq_2 ..) ?_
      simp only [if_neg (show ¬ i < (l.length : Int) by omega)]
      exact Ev.now _
    | succ d ih =>
      intro n i hi h0 hd
      refine Ev.step (fun k => spec_Ascends.l0.eq_2 ..) ?_
      by_cases c : i < (l.length : Int)
      · have ha := asc_getD h h0 (show n < l.length by omega)
        rw [w64 (x := i - 1) (by omega) (by omega), w64 (x := i + 1) (by omega) (by omega)]
        simp only [if_pos c, if_pos (show 0 ≤ i by omega), if_pos (show 0 ≤ i - 1 by omega), if_pos (show i - 1 < (l.length : Int) by omega)]
        rw [rd_nat l n i hi, rd_nat l (n - 1) (i - 1) (by omega)]
        simp only [if_neg (show ¬ l.getD n 0 ≤ l.getD (n - 1) 0 by omega)]
        exact ih (n + 1) (i + 1) (by omega) (by omega) (by omega)
      · simp only [if_neg c]
        exact Ev.now _
  exact key l.length 1 1 rfl (by omega) (by omega)
theorem FnImportNeeds : laws_FnImportNeeds.Pure := by
  intro code _ _ hw
  refine Ev.rounds (?_ : Ev (fun k => laws_FnImportNeeds.f k code) true)
  unfold laws_FnImportNeeds.f
  by_cases h : (code.length : Int) > 1048576
  · simp only [if_pos h]; exact Ev.now _
  simp only [if_neg h]
  obtain ⟨d, l, c, a0, c2, a, c3, e1, e2, hb, e3, e4, ha⟩ := drawn h hw
  have hdr : Ev (fun k => spec_DrawImportNeeds.f k code) (l, a) := by
    unfold spec_DrawImportNeeds.f
    simp only [e1, Option.bind_some]
    refine Ev.bind e2 ?_
    simp only [e3, Option.bind_some, e4]
    exact Ev.now _
  have hn : ∀ x, Ev (fun k => impl_ImportNeeds.f k l x) (needs l x) := fun x => needs_impl l hb x
  have hlen := needs_len l a
  by_cases he : needs l a = []
  · refine Ev.bind hdr (Ev.bind (hn a) (Ev.bind (needs_spec l hb a ha) ?_))
    rw [he]
    refine Ev.bind (SameInts_ev [] [] (by simp)) ?_
    simp only [decide_true, if_true]
    exact Ev.step (fun k => laws_FnImportNeeds.j0.eq_2 ..) (by simp; exact Ev.now _)
  have hN := nd_of he
  have hll : l.length ≤ 100 := by have := (few_of hN.ok).len; omega
  refine Ev.bind hdr (Ev.bind (hn a) (Ev.bind (needs_spec l hb a ha) ?_))
  refine Ev.bind (SameInts_ev _ _ (by omega)) ?_
  simp only [decide_true, if_true]
  have hp : 0 < (needs l a).length := List.length_pos_iff.2 he
  refine Ev.step (fun k => laws_FnImportNeeds.j0.eq_2 ..) ?_
  simp only [show ((((needs l a).length : Int)) == 0) = false from beq_eq_false_iff_ne.2 (by omega), Bool.false_eq_true, if_false]
  have key : ∀ (e n : Nat), (needs l a).length - n = e → n ≤ (needs l a).length → Ev (fun k => laws_FnImportNeeds.l0 k l a (needs l a) (n : Int)) true := by
    intro e
    induction e with
    | zero =>
      intro n k1 k2
      obtain rfl : n = (needs l a).length := by omega
      refine Ev.step (fun k => laws_FnImportNeeds.l0.eq_2 ..) ?_
      simp only [if_neg (show ¬ ((needs l a).length : Int) < ((needs l a).length : Int) by omega)]
      refine Ev.bind (HasInt_ev _ a (by omega)) ?_
      rw [decide_eq_true (hN.mem.2 (.base (List.mem_singleton.2 rfl)))]
      simp only [if_true]
      refine Ev.bind (Ascends_ev _ (by omega) ?_) (Ev.now _)
      rw [hN.eq]
      exact idxs_asc _ _
    | succ e ih =>
      intro n k1 k2
      have hnq : n < (needs l a).length := by omega
      have hr : rd (needs l a) (n : Int) = (needs l a)[n] := by unfold rd; simp [hnq]
      have hm : (needs l a)[n] ∈ needs l a := List.getElem_mem hnq
      refine Ev.step (fun k => laws_FnImportNeeds.l0.eq_2 ..) ?_
      simp only [if_pos (show (n : Int) < ((needs l a).length : Int) by omega), if_pos (show (0 : Int) ≤ (n : Int) by omega), hr]
      refine Ev.bind (hn _) ?_
      generalize (needs l a)[n] = x at *
      have hlx := needs_len l x
      have l1 : ∀ (f m : Nat), (needs l x).length - m = f → m ≤ (needs l x).length → Ev (fun k => laws_FnImportNeeds.l1 k l a (needs l a) (n : Int) (needs l x) (m : Int)) true := by
        intro f
        induction f with
        | zero =>
          intro m q1 q2
          obtain rfl : m = (needs l x).length := by omega
          refine Ev.step (fun k => laws_FnImportNeeds.l1.eq_2 ..) ?_
          simp only [if_neg (show ¬ ((needs l x).length : Int) < ((needs l x).length : Int) by omega), nx1 (show n ≤ 100000000 by omega)]
          exact ih (n + 1) (by omega) (by omega)
        | succ f ihf =>
          intro m q1 q2
          have hmq : m < (needs l x).length := by omega
          have hr2 : rd (needs l x) (m : Int) = (needs l x)[m] := by unfold rd; simp [hmq]
          refine Ev.step (fun k => laws_FnImportNeeds.l1.eq_2 ..) ?_
          simp only [if_pos (show (m : Int) < ((needs l x).length : Int) by omega), if_pos (show (0 : Int) ≤ (m : Int) by omega), hr2]
          refine Ev.bind (HasInt_ev (needs l a) _ (by omega)) ?_
          simp only [decide_eq_true (hN.trans hm (List.getElem_mem hmq)), if_true, nx1 (show m ≤ 100000000 by omega)]
          exact ihf (m + 1) (by omega) (by omega)
      exact l1 _ 0 rfl (by omega)
  exact key _ 0 rfl (by omega)
end Go.Proofs.Ytjipapldfjhnnaa.Pure
