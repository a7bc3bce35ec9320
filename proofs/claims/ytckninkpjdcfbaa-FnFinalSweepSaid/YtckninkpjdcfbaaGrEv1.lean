/- Valid graphs, for the reference and for the program. -/
import Derived.Test.YtckninkpjdcfbaaGrMath
import Derived.Test.YtckninkpjdcfbaaQ0
import Derived.Test.YtckninkpjdcfbaaQ2
set_option linter.unusedSimpArgs false
set_option linter.unusedVariables false
namespace Go.Proofs.Ytckninkpjdcfbaa.GE
open Go.RowKit Go.Proofs.Ytckninkpjdcfbaa.Q Go.Proofs.YtckninkpjdcfbaaW.PrintWords Go.Proofs.GR

theorem w64 {x : Int} (h0 : -1000000000000000000 ≤ x) (h1 : x ≤ 1000000000000000000) : wrap64 x = x := by unfold wrap64; omega
theorem rd_nat (l : List Int) (n : Nat) (i : Int) (h : i = n) : rd l i = l.getD n 0 := by unfold rd; subst h; simp
theorem rd_row (g : List (List Int)) (x : Int) : rd_L2 g x = row g x := rfl
/-- Graphs of bounded size, valid or not. -/
structure Sz (g : List (List Int)) : Prop where
  len : g.length ≤ 2000000
  row_len : ∀ x, (row g x).length ≤ 2000000
theorem inRange_eq (x a b : Int) : spec_inRange.f x a b = some (decide (a ≤ x ∧ x ≤ b)) := by
  unfold spec_inRange.f
  by_cases h : x ≥ a
  · rw [if_pos h]
    congr 1
    rw [Bool.eq_iff_iff, decide_eq_true_eq, decide_eq_true_eq]
    omega
  · rw [if_neg h, decide_eq_false (by omega)]

theorem spec_validGraph_l (g : List (List Int)) (hs : Sz g) : ∀ (d n : Nat) (i : Int), i = n → n ≤ g.length → g.length - n ≤ d →
    Ev (fun k => spec_validGraph.l0 k g i) (((g.drop n).all fun r => idx g.length r && decide (r.length ≤ 5)) && decide (g.length ≤ 12)) := by
  have hl := hs.len
  have stop : ∀ (i : Int), i = (g.length : Nat) → Ev (fun k => spec_validGraph.l0 k g i) (((g.drop g.length).all fun r => idx g.length r && decide (r.length ≤ 5)) && decide (g.length ≤ 12)) := by
    intro i hi
    refine Ev.step (fun k => spec_validGraph.l0.eq_2 ..) ?_
    simp only [if_neg (show ¬ i < (g.length : Int) by omega)]
    rw [List.drop_length]
    have : decide ((g.length : Int) ≤ 12) = decide (g.length ≤ 12) := by rw [Bool.eq_iff_iff, decide_eq_true_eq, decide_eq_true_eq]; omega
    rw [this]
    simp only [List.all_nil, Bool.true_and]
    exact Ev.now _
  intro d
  induction d with
  | zero =>
    intro n i hi hn hd
    have : n = g.length := by omega
    subst this
    exact stop i hi
  | succ d ih =>
    intro n i hi hn hd
    rcases Nat.lt_or_ge n g.length with hlt | hge
    · have hrow : rd_L2 g i = g.getD n [] := by unfold rd_L2; rw [hi]; simp
      have hrl : (g.getD n []).length ≤ 2000000 := by have := hs.row_len (n : Int); unfold row at this; simpa using this
      have l1 : ∀ (e m : Nat) (j : Int), j = m → m ≤ (g.getD n []).length → (g.getD n []).length - m ≤ e →
          Ev (fun k => spec_validGraph.l1 k g i j) ((idx g.length ((g.getD n []).drop m) && decide ((g.getD n []).length ≤ 5)) && (((g.drop (n + 1)).all fun r => idx g.length r && decide (r.length ≤ 5)) && decide (g.length ≤ 12))) := by
        have e0 : 0 ≤ i := by omega
        have e1 : i < (g.length : Int) := by omega
        have stop1 : ∀ (j : Int), j = ((g.getD n []).length : Nat) → Ev (fun k => spec_validGraph.l1 k g i j) ((idx g.length ((g.getD n []).drop (g.getD n []).length) && decide ((g.getD n []).length ≤ 5)) && (((g.drop (n + 1)).all fun r => idx g.length r && decide (r.length ≤ 5)) && decide (g.length ≤ 12))) := by
          intro j hj
          refine Ev.step (fun k => spec_validGraph.l1.eq_2 ..) ?_
          simp only [if_pos e0, if_pos e1, hrow, if_neg (show ¬ j < ((g.getD n []).length : Int) by omega)]
          rw [List.drop_length, w64 (x := i + 1) (by omega) (by omega)]
          by_cases c : ((g.getD n []).length : Int) > 5
          · simp only [if_pos c, decide_eq_false (show ¬ (g.getD n []).length ≤ 5 by omega), Bool.and_false, Bool.false_and]
            exact Ev.now _
          · simp only [if_neg c, decide_eq_true (show (g.getD n []).length ≤ 5 by omega), Bool.and_true]
            have : idx g.length [] = true := rfl
            rw [this, Bool.true_and]
            exact ih (n + 1) (i + 1) (by omega) (by omega) (by omega)
        intro e
        induction e with
        | zero =>
          intro m j hj hm he
          have : m = (g.getD n []).length := by omega
          subst this
          exact stop1 j hj
        | succ e ihe =>
          intro m j hj hm he
          rcases Nat.lt_or_ge m (g.getD n []).length with hlt2 | hge2
          · refine Ev.step (fun k => spec_validGraph.l1.eq_2 ..) ?_
            simp only [if_pos e0, if_pos e1, hrow, if_pos (show j < ((g.getD n []).length : Int) by omega), if_pos (show 0 ≤ j by omega), inRange_eq, Option.bind_some]
            rw [rd_nat _ m j hj, w64 (x := (g.length : Int) - 1) (by omega) (by omega), w64 (x := j + 1) (by omega) (by omega)]
            have hd2 : (g.getD n []).drop m = (g.getD n []).getD m 0 :: (g.getD n []).drop (m + 1) := drop_cons hlt2
            rw [hd2, idx_cons]
            by_cases c : 0 ≤ (g.getD n []).getD m 0 ∧ (g.getD n []).getD m 0 ≤ (g.length : Int) - 1
            · rw [decide_eq_true c, decide_eq_true (show 0 ≤ (g.getD n []).getD m 0 ∧ (g.getD n []).getD m 0 < (g.length : Int) by omega), Bool.true_and]
              simp only [if_true]
              exact ihe (m + 1) (j + 1) (by omega) (by omega) (by omega)
            · rw [decide_eq_false c, decide_eq_false (show ¬ (0 ≤ (g.getD n []).getD m 0 ∧ (g.getD n []).getD m 0 < (g.length : Int)) by omega), Bool.false_and, Bool.false_and, Bool.false_and]
              simp only [Bool.false_eq_true, if_false]
              exact Ev.now _
          · have : m = (g.getD n []).length := by omega
            subst this
            exact stop1 j hj
      refine Ev.step (fun k => spec_validGraph.l0.eq_2 ..) ?_
      simp only [if_pos (show i < (g.length : Int) by omega)]
      rw [drop_cons (d := []) hlt, List.all_cons, Bool.and_assoc]
      exact l1 _ 0 0 rfl (Nat.zero_le _) (Nat.le_refl _)
    · have : n = g.length := by omega
      subst this
      exact stop i hi
theorem spec_validGraph_ev (g : List (List Int)) (hs : Sz g) : Ev (fun k => spec_validGraph.f k g) (okG g) := by
  unfold spec_validGraph.f
  have := spec_validGraph_l g hs g.length 0 0 rfl (Nat.zero_le _) (by omega)
  rw [List.drop_zero] at this
  exact this

theorem spec_validRoots_l (r : List Int) (n : Nat) (hr : r.length ≤ 2000000) (hn : n ≤ 2000000) : ∀ (d m : Nat) (i : Int), i = m → m ≤ r.length → r.length - m ≤ d →
    Ev (fun k => spec_validRoots.l0 k r n i) (idx n (r.drop m) && decide (r.length ≤ 12)) := by
  have stop : ∀ (i : Int), i = (r.length : Nat) → Ev (fun k => spec_validRoots.l0 k r n i) (idx n (r.drop r.length) && decide (r.length ≤ 12)) := by
    intro i hi
    refine Ev.step (fun k => spec_validRoots.l0.eq_2 ..) ?_
    simp only [if_neg (show ¬ i < (r.length : Int) by omega)]
    rw [List.drop_length]
    have : decide ((r.length : Int) ≤ 12) = decide (r.length ≤ 12) := by rw [Bool.eq_iff_iff, decide_eq_true_eq, decide_eq_true_eq]; omega
    rw [this, show idx n [] = true from rfl, Bool.true_and]
    exact Ev.now _
  intro d
  induction d with
  | zero =>
    intro m i hi hm hd
    have : m = r.length := by omega
    subst this
    exact stop i hi
  | succ d ih =>
    intro m i hi hm hd
    rcases Nat.lt_or_ge m r.length with hlt | hge
    · refine Ev.step (fun k => spec_validRoots.l0.eq_2 ..) ?_
      simp only [if_pos (show i < (r.length : Int) by omega), if_pos (show 0 ≤ i by omega), inRange_eq, Option.bind_some]
      rw [rd_nat _ m i hi, w64 (x := (n : Int) - 1) (by omega) (by omega), w64 (x := i + 1) (by omega) (by omega), drop_cons (d := 0) hlt, idx_cons]
      by_cases c : 0 ≤ r.getD m 0 ∧ r.getD m 0 ≤ (n : Int) - 1
      · rw [decide_eq_true c, decide_eq_true (show 0 ≤ r.getD m 0 ∧ r.getD m 0 < (n : Int) by omega), Bool.true_and]
        simp only [if_true]
        exact ih (m + 1) (i + 1) (by omega) (by omega) (by omega)
      · rw [decide_eq_false c, decide_eq_false (show ¬ (0 ≤ r.getD m 0 ∧ r.getD m 0 < (n : Int)) by omega), Bool.false_and, Bool.false_and]
        simp only [Bool.false_eq_true, if_false]
        exact Ev.now _
    · have : m = r.length := by omega
      subst this
      exact stop i hi
theorem spec_validRoots_ev (r : List Int) (n : Nat) (hr : r.length ≤ 2000000) (hn : n ≤ 2000000) : Ev (fun k => spec_validRoots.f k r n) (idx n r && decide (r.length ≤ 12)) := by
  unfold spec_validRoots.f
  have := spec_validRoots_l r n hr hn r.length 0 0 rfl (Nat.zero_le _) (by omega)
  rw [List.drop_zero] at this
  exact this

theorem impl_indicesOk_l (r : List Int) (n : Nat) (hr : r.length ≤ 2000000) : ∀ (d m : Nat) (i : Int), i = m → m ≤ r.length → r.length - m ≤ d →
    Ev (fun k => impl_indicesOk.l0 k n r r.length i) (idx n (r.drop m)) := by
  have stop : ∀ (i : Int), i = (r.length : Nat) → Ev (fun k => impl_indicesOk.l0 k n r r.length i) (idx n (r.drop r.length)) := by
    intro i hi
    refine Ev.step (fun k => impl_indicesOk.l0.eq_2 ..) ?_
    simp only [if_neg (show ¬ i < (r.length : Int) by omega)]
    rw [List.drop_length, show idx n [] = true from rfl]
    exact Ev.now _
  intro d
  induction d with
  | zero =>
    intro m i hi hm hd
    have : m = r.length := by omega
    subst this
    exact stop i hi
  | succ d ih =>
    intro m i hi hm hd
    rcases Nat.lt_or_ge m r.length with hlt | hge
    · refine Ev.step (fun k => impl_indicesOk.l0.eq_2 ..) ?_
      simp only [if_pos (show i < (r.length : Int) by omega), if_pos (show 0 ≤ i by omega)]
      rw [rd_nat _ m i hi, w64 (x := i + 1) (by omega) (by omega), drop_cons (d := 0) hlt, idx_cons]
      by_cases c1 : r.getD m 0 < 0
      · rw [decide_eq_false (show ¬ (0 ≤ r.getD m 0 ∧ r.getD m 0 < (n : Int)) by omega), Bool.false_and]
        simp only [if_pos c1]
        exact Ev.now _
      · simp only [if_neg c1]
        by_cases c2 : r.getD m 0 ≥ (n : Int)
        · rw [decide_eq_false (show ¬ (0 ≤ r.getD m 0 ∧ r.getD m 0 < (n : Int)) by omega), Bool.false_and]
          simp only [if_pos c2]
          exact Ev.now _
        · rw [decide_eq_true (show 0 ≤ r.getD m 0 ∧ r.getD m 0 < (n : Int) by omega), Bool.true_and]
          simp only [if_neg c2]
          exact ih (m + 1) (i + 1) (by omega) (by omega) (by omega)
    · have : m = r.length := by omega
      subst this
      exact stop i hi
theorem impl_indicesOk_ev (r : List Int) (n : Nat) (hr : r.length ≤ 2000000) : Ev (fun k => impl_indicesOk.f k r n) (idx n r) := by
  unfold impl_indicesOk.f
  have := impl_indicesOk_l r n hr r.length 0 0 rfl (Nat.zero_le _) (by omega)
  rw [List.drop_zero] at this
  exact this

theorem impl_GraphOk_l (g : List (List Int)) (hs : Sz g) : ∀ (d n : Nat) (i : Int), i = n → n ≤ g.length → g.length - n ≤ d →
    Ev (fun k => impl_GraphOk.l0 k g g g.length i) ((g.drop n).all fun r => idx g.length r && decide (r.length ≤ 5)) := by
  have hl := hs.len
  have stop : ∀ (i : Int), i = (g.length : Nat) → Ev (fun k => impl_GraphOk.l0 k g g g.length i) ((g.drop g.length).all fun r => idx g.length r && decide (r.length ≤ 5)) := by
    intro i hi
    refine Ev.step (fun k => impl_GraphOk.l0.eq_2 ..) ?_
    simp only [if_neg (show ¬ i < (g.length : Int) by omega)]
    rw [List.drop_length, List.all_nil]
    exact Ev.now _
  intro d
  induction d with
  | zero =>
    intro n i hi hn hd
    have : n = g.length := by omega
    subst this
    exact stop i hi
  | succ d ih =>
    intro n i hi hn hd
    rcases Nat.lt_or_ge n g.length with hlt | hge
    · have hrow : rd_L2 g i = g.getD n [] := by unfold rd_L2; rw [hi]; simp
      have hrl : (g.getD n []).length ≤ 2000000 := by have := hs.row_len (n : Int); unfold row at this; simpa using this
      refine Ev.step (fun k => impl_GraphOk.l0.eq_2 ..) ?_
      simp only [if_pos (show i < (g.length : Int) by omega), if_pos (show 0 ≤ i by omega), hrow]
      rw [drop_cons (d := []) hlt, List.all_cons, w64 (x := i + 1) (by omega) (by omega)]
      by_cases c : ((g.getD n []).length : Int) > 5
      · simp only [if_pos c, decide_eq_false (show ¬ (g.getD n []).length ≤ 5 by omega), Bool.and_false, Bool.false_and]
        exact Ev.now _
      · simp only [if_neg c, decide_eq_true (show (g.getD n []).length ≤ 5 by omega), Bool.and_true]
        refine Ev.bind (impl_indicesOk_ev _ g.length hrl) ?_
        cases e : idx g.length (g.getD n []) with
        | true =>
          simp only [if_true, Bool.true_and]
          exact ih (n + 1) (i + 1) (by omega) (by omega) (by omega)
        | false =>
          simp only [Bool.false_eq_true, if_false, Bool.false_and]
          exact Ev.now _
    · have : n = g.length := by omega
      subst this
      exact stop i hi
theorem impl_GraphOk_ev (g : List (List Int)) (hs : Sz g) (r : List Int) (hr : r.length ≤ 2000000) : Ev (fun k => impl_GraphOk.f k g r) (okG g && okR g r) := by
  unfold impl_GraphOk.f
  have j0t : Ev (fun k => impl_GraphOk.j0 k g true) false := by
    refine Ev.step (fun k => impl_GraphOk.j0.eq_2 ..) ?_
    simp only [if_true]
    exact Ev.now _
  by_cases c1 : (g.length : Int) > 12
  · simp only [if_pos c1]
    have : okG g = false := by unfold okG; rw [decide_eq_false (show ¬ g.length ≤ 12 by omega), Bool.and_false]
    rw [this, Bool.false_and]
    exact j0t
  · simp only [if_neg c1]
    by_cases c2 : (r.length : Int) > 12
    · simp only [if_pos c2]
      have : okR g r = false := by unfold okR; rw [decide_eq_false (show ¬ r.length ≤ 12 by omega), Bool.and_false]
      rw [this, Bool.and_false]
      exact j0t
    · simp only [if_neg c2]
      refine Ev.bind (impl_indicesOk_ev r g.length hr) ?_
      have e : okR g r = idx g.length r := by unfold okR; rw [decide_eq_true (show r.length ≤ 12 by omega), Bool.and_true]
      rw [e]
      cases h : idx g.length r with
      | false =>
        simp only [Bool.not_false, Bool.and_false]
        exact j0t
      | true =>
        simp only [Bool.not_true, Bool.and_true]
        refine Ev.step (fun k => impl_GraphOk.j0.eq_2 ..) ?_
        simp only [Bool.false_eq_true, if_false]
        have := impl_GraphOk_l g hs g.length 0 0 rfl (Nat.zero_le _) (by omega)
        rw [List.drop_zero] at this
        have e2 : okG g = g.all fun r => idx g.length r && decide (r.length ≤ 5) := by unfold okG; rw [decide_eq_true (show g.length ≤ 12 by omega), Bool.and_true]
        rw [e2]
        exact this
end Go.Proofs.Ytckninkpjdcfbaa.GE
