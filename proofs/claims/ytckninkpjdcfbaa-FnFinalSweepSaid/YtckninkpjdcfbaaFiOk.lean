/- Finalizers: when they are valid. -/
import Derived.Test.YtckninkpjdcfbaaFiSw
import Derived.Test.YtckninkpjdcfbaaQ0
import Derived.Test.YtckninkpjdcfbaaQ4
import Derived.Test.YtckninkpjdcfbaaQ8
set_option linter.unusedSimpArgs false
set_option linter.unusedVariables false
namespace Go.Proofs.Ytckninkpjdcfbaa.FI
open Go.RowKit Go.Proofs.Ytckninkpjdcfbaa.Q Go.Proofs.YtckninkpjdcfbaaW.PrintWords Go.Proofs.GR Go.Proofs.Ytckninkpjdcfbaa.GE
theorem finOk_in {n : Nat} {l : List S64} (h : finOk (n : Int) l = true) : l.length ≤ 12 ∧ FinIn n l := by
  unfold finOk at h
  rw [Bool.and_eq_true, List.all_eq_true] at h
  refine ⟨of_decide_eq_true h.1, fun x hx => ?_⟩
  obtain ⟨i, hi, rfl⟩ := List.getElem_of_mem hx
  have := h.2 i (List.mem_range.2 hi)
  unfold finRow at this
  rw [rdF, List.getD_eq_getElem?_getD, List.getElem?_eq_getElem hi, Option.getD_some] at this
  simp only [Bool.and_eq_true, Bool.not_eq_true', decide_eq_false_iff_not] at this
  omega
theorem finOk_all {n : Nat} {l : List S64} (h : ∀ j, j < l.length → finRow (n : Int) l j = true) : finOk (n : Int) l = decide (l.length ≤ 12) := by
  unfold finOk
  rw [show ((List.range l.length).all fun i => finRow (n : Int) l i) = true from List.all_eq_true.2 (fun j hj => h j (List.mem_range.1 hj)), Bool.and_true]
theorem any_take (l : List S64) (a : Int) : ∀ i, i ≤ l.length → ((l.take i).any fun y => decide (y.f0 = a)) = true → ∃ j, j < i ∧ (rd_T64 l (j : Int)).f0 = a := by
  intro i hi h
  rw [List.any_eq_true] at h
  obtain ⟨y, hy, h⟩ := h
  obtain ⟨j, hj, rfl⟩ := List.getElem_of_mem hy
  have hj' : j < i := by rw [List.length_take] at hj; omega
  refine ⟨j, hj', ?_⟩
  rw [List.getElem_take] at h
  rw [rdF, List.getD_eq_getElem?_getD, List.getElem?_eq_getElem (by omega), Option.getD_some]
  exact of_decide_eq_true h
theorem any_take_of (l : List S64) (a : Int) {i j : Nat} (hi : i ≤ l.length) (hj : j < i) (h : (rd_T64 l (j : Int)).f0 = a) : ((l.take i).any fun y => decide (y.f0 = a)) = true := by
  rw [List.any_eq_true]
  refine ⟨rd_T64 l (j : Int), ?_, decide_eq_true h⟩
  rw [rdF, List.getD_eq_getElem?_getD, List.getElem?_eq_getElem (by omega), Option.getD_some]
  rw [List.mem_take_iff_getElem]
  exact ⟨j, by omega, rfl⟩
theorem valid_l1 (l : List S64) (hl : l.length ≤ 10000000) (n i : Nat) (hi : i < l.length) (a b : Int) (c : Bool) (R : Bool) (hR : Ev (fun k => spec_validFinals.l0 k l (n : Int) ((i + 1 : Nat) : Int)) R) :
    ∀ (d j : Nat), i - j = d → j ≤ i → (∀ m, m < j → ¬ (rd_T64 l (m : Int)).f0 = a) → Ev (fun k => spec_validFinals.l1 k l (n : Int) (i : Int) (j : Int) a b c) (if ((l.take i).any fun y => decide (y.f0 = a)) = true then false else R) := by
  intro d
  induction d with
  | zero =>
    intro j h1 h2 h3
    obtain rfl : j = i := by omega
    have hno : ¬ ((l.take j).any fun y => decide (y.f0 = a)) = true := fun h => by
      obtain ⟨m, hm, e⟩ := any_take l a j (by omega) h
      exact h3 m hm e
    rw [if_neg hno]
    refine Ev.step (fun k => spec_validFinals.l1.eq_2 ..) ?_
    simp only [if_neg (show ¬ (j : Int) < (j : Int) by omega), wn (show j ≤ 100000000 by omega)]
    exact hR
  | succ d ih =>
    intro j h1 h2 h3
    refine Ev.step (fun k => spec_validFinals.l1.eq_2 ..) ?_
    simp only [if_pos (show (j : Int) < (i : Int) by omega), if_pos (show (0 : Int) ≤ (j : Int) by omega), if_pos (show (j : Int) < (l.length : Int) by omega)]
    by_cases hx : (rd_T64 l (j : Int)).f0 = a
    · simp only [if_pos hx]
      rw [if_pos (any_take_of l a (by omega) (show j < i by omega) hx)]
      exact Ev.now _
    · simp only [if_neg hx, wn (show j ≤ 100000000 by omega)]
      exact ih (j + 1) (by omega) (by omega) (fun m hm => by
        rcases Nat.lt_or_ge m j with q | q
        · exact h3 m q
        · obtain rfl : m = j := by omega
          exact hx)
theorem validFinals_ev (l : List S64) (hl : l.length ≤ 10000000) (n : Nat) (hn : n ≤ 10000000) : Ev (fun k => spec_validFinals.f k l (n : Int)) (finOk (n : Int) l) := by
  unfold spec_validFinals.f
  have key : ∀ (d i : Nat), l.length - i = d → i ≤ l.length → (∀ j, j < i → finRow (n : Int) l j = true) → Ev (fun k => spec_validFinals.l0 k l (n : Int) (i : Int)) (finOk (n : Int) l) := by
    intro d
    induction d with
    | zero =>
      intro i h1 h2 h3
      obtain rfl : i = l.length := by omega
      rw [finOk_all h3]
      refine Ev.step (fun k => spec_validFinals.l0.eq_2 ..) ?_
      simp only [if_neg (show ¬ (l.length : Int) < (l.length : Int) by omega)]
      rw [show decide ((l.length : Int) ≤ 12) = decide (l.length ≤ 12) from by rw [decide_eq_decide]; omega]
      exact Ev.now _
    | succ d ih =>
      intro i h1 h2 h3
      have hi : i < l.length := by omega
      have hw : wrap64 ((n : Int) - 1) = (n : Int) - 1 := by unfold wrap64; omega
      have hrow : finRow (n : Int) l i = finRow (n : Int) l i := rfl
      conv at hrow => rhs; unfold finRow
      have hnext : finRow (n : Int) l i = true → Ev (fun k => spec_validFinals.l0 k l (n : Int) ((i + 1 : Nat) : Int)) (finOk (n : Int) l) := fun h => ih (i + 1) (by omega) (by omega) (fun j hj => by
        rcases Nat.lt_or_ge j i with q | q
        · exact h3 j q
        · obtain rfl : j = i := by omega
          exact h)
      refine Ev.step (fun k => spec_validFinals.l0.eq_2 ..) ?_
      simp only [if_pos (show (i : Int) < (l.length : Int) by omega), if_pos (show (0 : Int) ≤ (i : Int) by omega), inRange_eq, Option.bind_some, hw]
      generalize hX : rd_T64 l (i : Int) = X at *
      obtain ⟨a, b, c⟩ := X
      simp only at hrow ⊢
      by_cases h0 : 0 ≤ a ∧ a ≤ (n : Int) - 1
      · simp only [decide_eq_true h0, if_true]
        by_cases h1' : -1 ≤ b ∧ b ≤ (n : Int) - 1
        · simp only [decide_eq_true h1', Bool.not_true]
          refine Ev.step (fun k => spec_validFinals.j1.eq_2 ..) ?_
          simp only [Bool.false_eq_true, if_false]
          rw [fr_ok _ ⟨h0.1, by omega, h1'.1, by omega⟩] at hrow
          cases hq : ((l.take i).any fun y => decide (y.f0 = a)) with
          | true =>
            rw [hq] at hrow
            rw [finOk_no hi (by rw [hrow]; rfl)]
            -- the other is at the same object
            obtain ⟨m, hm, e⟩ := any_take l a i (by omega) hq
            have hl1 : ∀ (d j : Nat), i - j = d → j ≤ m → (∀ p, p < j → ¬ (rd_T64 l (p : Int)).f0 = a) ∨ True → Ev (fun k => spec_validFinals.l1 k l (n : Int) (i : Int) (j : Int) a b c) false := by
              intro d
              induction d with
              | zero => intro j g1 g2 _; omega
              | succ d ihd =>
                intro j g1 g2 _
                refine Ev.step (fun k => spec_validFinals.l1.eq_2 ..) ?_
                simp only [if_pos (show (j : Int) < (i : Int) by omega), if_pos (show (0 : Int) ≤ (j : Int) by omega), if_pos (show (j : Int) < (l.length : Int) by omega)]
                by_cases hx : (rd_T64 l (j : Int)).f0 = a
                · simp only [if_pos hx]; exact Ev.now _
                · simp only [if_neg hx, wn (show j ≤ 100000000 by omega)]
                  refine ihd (j + 1) (by omega) ?_ (.inr trivial)
                  rcases Nat.lt_or_ge j m with q | q
                  · omega
                  · obtain rfl : j = m := by omega
                    exact absurd e hx
            exact hl1 i 0 (by omega) (by omega) (.inr trivial)
          | false =>
            rw [hq] at hrow
            have := valid_l1 l hl n i hi a b c _ (hnext (by rw [hrow]; rfl)) i 0 (by omega) (by omega) (fun m hm => absurd hm (Nat.not_lt_zero m))
            rw [hq] at this
            exact this
        · simp only [decide_eq_false h1', Bool.not_false]
          refine Ev.step (fun k => spec_validFinals.j1.eq_2 ..) ?_
          simp only [if_true]
          rw [finOk_no hi (hrow.trans (fr_bad _ (by omega)))]
          exact Ev.now _
      · simp only [decide_eq_false h0, Bool.false_eq_true, if_false]
        refine Ev.step (fun k => spec_validFinals.j1.eq_2 ..) ?_
        simp only [if_true]
        rw [finOk_no hi (hrow.trans (fr_bad _ (by omega)))]
        exact Ev.now _
  exact key l.length 0 (by omega) (by omega) (fun j hj => absurd hj (Nat.not_lt_zero j))
end Go.Proofs.Ytckninkpjdcfbaa.FI
