/- Whether a list lies within another in its order. -/
import Derived.Test.YtdlobdhpledbfaaClTop
import Derived.Test.YtdlobdhpledbfaaQ5
import Derived.Test.YtdlobdhpledbfaaQ6
import Derived.Test.YtdlobdhpledbfaaQ13
set_option linter.unusedSimpArgs false
set_option linter.unusedVariables false
namespace Go.Proofs.Ytdlobdhpledbfaa.CL
open Go.RowKit Go.Proofs.Ytdlobdhpledbfaa.Q Go.Proofs.YtdlobdhpledbfaaW.PrintWords Go.Proofs.GR Go.Proofs.Ytdlobdhpledbfaa.GE
theorem sub_cons {x y : Int} {xs ys : List Int} (h : List.Sublist (x :: xs) (y :: ys)) : List.Sublist (x :: xs) ys ∨ x = y := by
  cases h with
  | cons _ h => exact .inl h
  | cons_cons _ h => exact .inr rfl
theorem within_l (a b : List Int) (ha : a.length ≤ 1000) (hb : b.length ≤ 1000) : ∀ (d i j : Nat), b.length - j = d → j ≤ b.length → i ≤ a.length → List.Sublist (a.drop i) (b.drop j) → Ev (fun k => spec_Within.l0 k a b (i : Int) (j : Int)) true := by
  intro d
  have done : ∀ (i j : Nat), i = a.length → Ev (fun k => spec_Within.j1 k a b (i : Int) (j : Int) false) true := fun i j hi => by
    refine Ev.step (fun k => spec_Within.j1.eq_2 ..) ?_
    simp only [Bool.false_eq_true, if_false, hi, beq_self_eq_true]
    exact Ev.now _
  induction d with
  | zero =>
    intro i j h1 h2 h3 hs
    obtain rfl : j = b.length := by omega
    rw [List.drop_length] at hs
    have := List.drop_eq_nil_iff.1 (List.sublist_nil.1 hs)
    refine Ev.step (fun k => spec_Within.l0.eq_2 ..) ?_
    simp only [if_neg (show ¬ (b.length : Int) < (b.length : Int) by omega)]
    exact done i _ (by omega)
  | succ d ih =>
    intro i j h1 h2 h3 hs
    have hj : j < b.length := by omega
    refine Ev.step (fun k => spec_Within.l0.eq_2 ..) ?_
    simp only [if_pos (show (j : Int) < (b.length : Int) by omega)]
    by_cases hi : i < a.length
    · rw [decide_eq_true (show (i : Int) < (a.length : Int) by omega)]
      refine Ev.step (fun k => spec_Within.j1.eq_2 ..) ?_
      rw [List.drop_eq_getElem_cons hi, List.drop_eq_getElem_cons hj] at hs
      have e1 : rd a (i : Int) = a[i] := by rw [rd_nat a i _ rfl, getD_lt hi]
      have e2 : rd b (j : Int) = b[j] := by rw [rd_nat b j _ rfl, getD_lt hj]
      simp only [if_true, if_pos (show (0 : Int) ≤ (j : Int) by omega), if_pos (show (j : Int) < (b.length : Int) by omega), if_pos (show (0 : Int) ≤ (i : Int) by omega), if_pos (show (i : Int) < (a.length : Int) by omega), e1, e2, wr2 (show i ≤ 100000000 by omega), wr2 (show j ≤ 100000000 by omega)]
      by_cases q : b[j] = a[i]
      · simp only [if_pos q]
        rw [q] at hs
        exact ih (i + 1) (j + 1) (by omega) (by omega) (by omega) (List.cons_sublist_cons.1 hs)
      · simp only [if_neg q]
        refine ih i (j + 1) (by omega) (by omega) (by omega) ?_
        rw [List.drop_eq_getElem_cons hi]
        rcases sub_cons hs with h | h
        · exact h
        · exact absurd h.symm q
    · rw [decide_eq_false (show ¬ (i : Int) < (a.length : Int) by omega)]
      exact done i j (by omega)
theorem within_ev (a b : List Int) (ha : a.length ≤ 1000) (hb : b.length ≤ 1000) (h : List.Sublist a b) : Ev (fun k => spec_Within.f k a b) true := within_l a b ha hb _ 0 0 rfl (by omega) (by omega) h
/-- The order of a class below one that has an order. -/
theorem below_mro {g : List (List Int)} (hs : BSz g) (hv : Val g) {a : Int} {l : List Int} (ha : a < (g.length : Int)) (hF : Fct g a.toNat l) {d : Int} (hd : d ∈ l) : ∃ ld, Ev (fun k => impl_MroOf.f k g d) (ld, true) ∧ Ev (fun k => spec_MroOf.f k g d) (ld, true) ∧ List.Sublist ld l ∧ Fct g d.toNat ld := by
  obtain ⟨ld, e1, e2⟩ := hF.below d hd
  have hr := hF.range d hd
  have hd2 : d < (g.length : Int) := by
    obtain ⟨m, e, hm⟩ := hF.head
    rw [e] at hd
    have : 0 ≤ a.toNat := Nat.zero_le _
    have hg : 0 < g.length := by
      apply Classical.byContradiction
      intro z
      have hz : g.length = 0 := by omega
      have := hF.head
      obtain ⟨r, _, _, _, _, _⟩ := mros g hs a
      rcases List.mem_cons.1 hd with q | q
      · have : at_ g (a.toNat : Int) = [] := by unfold at_; rw [List.length_eq_zero_iff.1 hz]; simp
        have i1 := hF.impl
        have i2 := mro_out g (a.toNat : Int) (by omega)
        have := ev_one i1 i2
        simp at this
      · have i1 := hF.impl
        have i2 := mro_out g (a.toNat : Int) (by omega)
        have := ev_one i1 i2
        simp at this
    omega
  obtain ⟨r, q1, q2, q3, q4, q5⟩ := mros g hs d
  have := ev_one (q5 hv hr.1 hd2) e1
  subst this
  exact ⟨ld, q1, q2, e2, (q4 rfl).2.2.2⟩
theorem mem_lt {g : List (List Int)} {a : Int} {l : List Int} (h0 : 0 ≤ a) (ha : a < (g.length : Int)) (hF : Fct g a.toNat l) {d : Int} (hd : d ∈ l) : 0 ≤ d ∧ d < (g.length : Int) ∧ d ≤ a := by
  have := hF.range d hd; omega
end Go.Proofs.Ytdlobdhpledbfaa.CL
