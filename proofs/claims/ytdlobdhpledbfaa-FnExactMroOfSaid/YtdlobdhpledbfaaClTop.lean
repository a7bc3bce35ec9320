/- Orders, valid bases and classes below others: the reference and the program answer the same. -/
import Derived.Test.YtdlobdhpledbfaaClMro
import Derived.Test.YtdlobdhpledbfaaQ0
import Derived.Test.YtdlobdhpledbfaaQ1
import Derived.Test.YtdlobdhpledbfaaQ3
import Derived.Test.YtdlobdhpledbfaaQ4
import Derived.Test.YtdlobdhpledbfaaQ5
import Derived.Test.YtdlobdhpledbfaaQ6
import Derived.Test.YtdlobdhpledbfaaQ11
import Derived.Test.YtdlobdhpledbfaaQ12
set_option linter.unusedSimpArgs false
set_option linter.unusedVariables false
namespace Go.Proofs.Ytdlobdhpledbfaa.CL
open Go.RowKit Go.Proofs.Ytdlobdhpledbfaa.Q Go.Proofs.YtdlobdhpledbfaaW.PrintWords Go.Proofs.GR Go.Proofs.Ytdlobdhpledbfaa.GE
/-- Bases of bounded size. -/
structure BSz (g : List (List Int)) : Prop where
  len : g.length ≤ 10000000
  rows : ∀ l ∈ g, l.length ≤ 10000000
def Rows (g : List (List Int)) : Prop := ∀ i, i < g.length → RowOk i (at_ g i)
def Val (g : List (List Int)) : Prop := g.length ≤ 8 ∧ Rows g
theorem at_len {g : List (List Int)} (h : BSz g) {n : Nat} (hn : n < g.length) : (at_ g (n : Int)).length ≤ 10000000 := by
  unfold at_
  rw [Int.toNat_natCast, getD_lt hn]
  exact h.rows _ (List.getElem_mem hn)
theorem wr2 {n : Nat} (h : n ≤ 100000000) : wrap64 ((n : Int) + 1) = ((n + 1 : Nat) : Int) := by rw [w64 (by omega) (by omega)]; omega
theorem valid_l (g : List (List Int)) (hs : BSz g) : ∀ (d n : Nat), g.length - n = d → n ≤ g.length → (∀ i, i < n → RowOk i (at_ g i)) → ∃ b, Ev (fun k => spec_validBases.l0 k g (n : Int)) b ∧ (b = true ↔ Val g) := by
  have hl := hs.len
  intro d
  induction d with
  | zero =>
    intro n h1 h2 h3
    obtain rfl : n = g.length := by omega
    refine ⟨decide ((g.length : Int) ≤ 8), Ev.step (fun k => spec_validBases.l0.eq_2 ..) ?_, ?_⟩
    · simp only [if_neg (show ¬ (g.length : Int) < (g.length : Int) by omega)]
      exact Ev.now _
    · rw [decide_eq_true_eq]
      exact ⟨fun h => ⟨by omega, h3⟩, fun h => by have := h.1; omega⟩
  | succ d ih =>
    intro n h1 h2 h3
    have hn : n < g.length := by omega
    have hrl := at_len hs hn
    have inner : ∀ (e j : Nat), (at_ g n).length - j = e → j ≤ (at_ g n).length → (∀ i, i < j → okAt n (at_ g n) i) → ∃ b, Ev (fun k => spec_validBases.l1 k g (n : Int) (j : Int)) b ∧ (b = true ↔ Val g) := by
      have er : rd_L1 g (n : Int) = at_ g n := rfl
      intro e
      induction e with
      | zero =>
        intro j k1 k2 k3
        obtain rfl : j = (at_ g n).length := by omega
        by_cases q : ((at_ g n).length : Int) > 6
        · refine ⟨false, Ev.step (fun k => spec_validBases.l1.eq_2 ..) ?_, fun h => by simp at h, fun h => ?_⟩
          · simp only [er, if_pos (show (0 : Int) ≤ (n : Int) by omega), if_pos (show (n : Int) < (g.length : Int) by omega), if_neg (show ¬ ((at_ g n).length : Int) < ((at_ g n).length : Int) by omega), if_pos q]
            exact Ev.now _
          · have := (h.2 n hn).1; omega
        · obtain ⟨b, b1, b2⟩ := ih (n + 1) (by omega) (by omega) (fun i hi => by
            rcases Nat.lt_or_ge i n with z | z
            · exact h3 i z
            · obtain rfl : i = n := by omega
              exact ⟨by omega, k3⟩)
          refine ⟨b, Ev.step (fun k => spec_validBases.l1.eq_2 ..) ?_, b2⟩
          simp only [er, if_pos (show (0 : Int) ≤ (n : Int) by omega), if_pos (show (n : Int) < (g.length : Int) by omega), if_neg (show ¬ ((at_ g n).length : Int) < ((at_ g n).length : Int) by omega), if_neg q, wr2 (show n ≤ 100000000 by omega)]
          exact b1
      | succ e ihe =>
        intro j k1 k2 k3
        have hj : j < (at_ g n).length := by omega
        have hrd : rd (at_ g n) (j : Int) = (at_ g n).getD j 0 := rd_nat _ j _ rfl
        have ew : wrap64 ((n : Int) - 1) = (n : Int) - 1 := w64 (by omega) (by omega)
        by_cases q1 : 0 ≤ (at_ g n).getD j 0 ∧ (at_ g n).getD j 0 ≤ (n : Int) - 1
        · by_cases q2 : (at_ g n).getD j 0 ∈ (at_ g n).take j
          · refine ⟨false, Ev.step (fun k => spec_validBases.l1.eq_2 ..) ?_, fun h => by simp at h, fun h => absurd q2 ((h.2 n hn).2 j hj).2.2⟩
            simp only [er, if_pos (show (0 : Int) ≤ (n : Int) by omega), if_pos (show (n : Int) < (g.length : Int) by omega), if_pos (show (j : Int) < ((at_ g n).length : Int) by omega), if_pos (show (0 : Int) ≤ (j : Int) by omega), hrd, ew, inRange_eq, Option.bind_some, decide_eq_true q1, if_true, if_pos (show (j : Int) ≤ ((at_ g n).length : Int) by omega), Int.toNat_natCast]
            refine Ev.bind (inList_ev ((at_ g n).take j) _ (by rw [List.length_take]; omega)) ?_
            simp only [decide_eq_true q2, if_true]
            exact Ev.now _
          · obtain ⟨b, b1, b2⟩ := ihe (j + 1) (by omega) (by omega) (fun i hi => by
              rcases Nat.lt_or_ge i j with z | z
              · exact k3 i z
              · obtain rfl : i = j := by omega
                exact ⟨q1.1, by omega, q2⟩)
            refine ⟨b, Ev.step (fun k => spec_validBases.l1.eq_2 ..) ?_, b2⟩
            simp only [er, if_pos (show (0 : Int) ≤ (n : Int) by omega), if_pos (show (n : Int) < (g.length : Int) by omega), if_pos (show (j : Int) < ((at_ g n).length : Int) by omega), if_pos (show (0 : Int) ≤ (j : Int) by omega), hrd, ew, inRange_eq, Option.bind_some, decide_eq_true q1, if_true, if_pos (show (j : Int) ≤ ((at_ g n).length : Int) by omega), Int.toNat_natCast]
            refine Ev.bind (inList_ev ((at_ g n).take j) _ (by rw [List.length_take]; omega)) ?_
            simp only [decide_eq_false q2, Bool.false_eq_true, if_false, wr2 (show j ≤ 100000000 by omega)]
            exact b1
        · refine ⟨false, Ev.step (fun k => spec_validBases.l1.eq_2 ..) ?_, fun h => by simp at h, fun h => absurd ((h.2 n hn).2 j hj) (fun z => q1 ⟨z.1, by have := z.2.1; omega⟩)⟩
          simp only [er, if_pos (show (0 : Int) ≤ (n : Int) by omega), if_pos (show (n : Int) < (g.length : Int) by omega), if_pos (show (j : Int) < ((at_ g n).length : Int) by omega), if_pos (show (0 : Int) ≤ (j : Int) by omega), hrd, ew, inRange_eq, Option.bind_some, decide_eq_false q1, Bool.false_eq_true, if_false]
          exact Ev.now _
    obtain ⟨b, b1, b2⟩ := inner _ 0 rfl (by omega) (fun i hi => absurd hi (Nat.not_lt_zero _))
    refine ⟨b, Ev.step (fun k => spec_validBases.l0.eq_2 ..) ?_, b2⟩
    simp only [if_pos (show (n : Int) < (g.length : Int) by omega)]
    exact b1
theorem valid_ev (g : List (List Int)) (hs : BSz g) : ∃ b, Ev (fun k => spec_validBases.f k g) b ∧ (b = true ↔ Val g) := by
  obtain ⟨b, h1, h2⟩ := valid_l g hs g.length 0 (by omega) (by omega) (fun i hi => absurd hi (Nat.not_lt_zero _))
  exact ⟨b, h1, h2⟩
/-- The program's walk over the rows. -/
theorem rows_l (g : List (List Int)) (hs : BSz g) (a : Int) (z : List Int × Bool) (hz : Rows g → Ev (fun k => impl_mro.f k g a) z) (hz2 : ¬ Rows g → z = ([], false)) : ∀ (d n : Nat), g.length - n = d → n ≤ g.length → (∀ i, i < n → RowOk i (at_ g i)) → Ev (fun k => impl_MroOf.l0 k g a g (g.length : Int) (n : Int)) z := by
  have hl := hs.len
  intro d
  induction d with
  | zero =>
    intro n h1 h2 h3
    obtain rfl : n = g.length := by omega
    refine Ev.step (fun k => impl_MroOf.l0.eq_2 ..) ?_
    simp only [if_neg (show ¬ (g.length : Int) < (g.length : Int) by omega)]
    exact Ev.bind (hz h3) (Ev.now _)
  | succ d ih =>
    intro n h1 h2 h3
    have hn : n < g.length := by omega
    have hrl := at_len hs hn
    have er : rd_L1 g (n : Int) = at_ g n := rfl
    have bad : ¬ RowOk n (at_ g n) → z = ([], false) := fun q => hz2 (fun h => q (h n hn))
    refine Ev.step (fun k => impl_MroOf.l0.eq_2 ..) ?_
    simp only [er, if_pos (show (n : Int) < (g.length : Int) by omega), if_pos (show (0 : Int) ≤ (n : Int) by omega)]
    by_cases q : ((at_ g n).length : Int) > 6
    · simp only [if_pos q, bad (fun h => by have := h.1; omega)]
      exact Ev.now _
    simp only [if_neg q]
    have inner : ∀ (e j : Nat), (at_ g n).length - j = e → j ≤ (at_ g n).length → (∀ i, i < j → okAt n (at_ g n) i) → Ev (fun k => impl_MroOf.l1 k g a (n : Int) (at_ g n) g (g.length : Int) (n : Int) (at_ g n) ((at_ g n).length : Int) (j : Int)) z := by
      intro e
      induction e with
      | zero =>
        intro j k1 k2 k3
        obtain rfl : j = (at_ g n).length := by omega
        refine Ev.step (fun k => impl_MroOf.l1.eq_2 ..) ?_
        simp only [if_neg (show ¬ ((at_ g n).length : Int) < ((at_ g n).length : Int) by omega), wr2 (show n ≤ 100000000 by omega)]
        refine ih (n + 1) (by omega) (by omega) (fun i hi => ?_)
        rcases Nat.lt_or_ge i n with z | z
        · exact h3 i z
        · obtain rfl : i = n := by omega
          exact ⟨by omega, k3⟩
      | succ e ihe =>
        intro j k1 k2 k3
        have hj : j < (at_ g n).length := by omega
        have hrd : rd (at_ g n) (j : Int) = (at_ g n).getD j 0 := rd_nat _ j _ rfl
        have badj : ¬ okAt n (at_ g n) j → z = ([], false) := fun q => bad (fun h => q (h.2 j hj))
        refine Ev.step (fun k => impl_MroOf.l1.eq_2 ..) ?_
        simp only [if_pos (show (j : Int) < ((at_ g n).length : Int) by omega), if_pos (show (0 : Int) ≤ (j : Int) by omega), hrd]
        by_cases q1 : (at_ g n).getD j 0 < 0
        · simp only [if_pos q1, badj (fun h => by have := h.1; omega)]
          exact Ev.now _
        simp only [if_neg q1]
        by_cases q2 : (at_ g n).getD j 0 ≥ (n : Int)
        · simp only [if_pos q2, badj (fun h => by have := h.2.1; omega)]
          exact Ev.now _
        simp only [if_neg q2, if_pos (show (j : Int) ≤ ((at_ g n).length : Int) by omega), Int.toNat_natCast]
        refine Ev.bind (contains_ev ((at_ g n).take j) _ (by rw [List.length_take]; omega)) ?_
        by_cases q3 : (at_ g n).getD j 0 ∈ (at_ g n).take j
        · simp only [decide_eq_true q3, if_true, badj (fun h => h.2.2 q3)]
          exact Ev.now _
        · simp only [decide_eq_false q3, Bool.false_eq_true, if_false, wr2 (show j ≤ 100000000 by omega)]
          refine ihe (j + 1) (by omega) (by omega) (fun i hi => ?_)
          rcases Nat.lt_or_ge i j with z | z
          · exact k3 i z
          · obtain rfl : i = j := by omega
            exact ⟨by omega, by omega, q3⟩
    exact inner _ 0 rfl (by omega) (fun i hi => absurd hi (Nat.not_lt_zero _))
theorem mro_out (g : List (List Int)) (a : Int) (h : a < 0 ∨ a ≥ (g.length : Int) ∨ g.length > 8) : Ev (fun k => impl_mro.f k g a) ([], false) := by
  have j0 : Ev (fun k => impl_mro.j0 k g a true) ([], false) := Ev.step (fun k => impl_mro.j0.eq_2 ..) (by simp only [if_true]; exact Ev.now _)
  refine Ev.step (fun k => impl_mro.f.eq_2 ..) ?_
  by_cases q1 : a < 0
  · simp only [if_pos q1]; exact j0
  by_cases q2 : a ≥ (g.length : Int)
  · simp only [if_neg q1, if_pos q2]; exact j0
  simp only [if_neg q1, if_neg q2, decide_eq_true (show (g.length : Int) > 8 by omega)]
  exact j0
/-- MroOf of both. -/
theorem mros (g : List (List Int)) (hs : BSz g) (a : Int) : ∃ r : List Int × Bool, Ev (fun k => impl_MroOf.f k g a) r ∧ Ev (fun k => spec_MroOf.f k g a) r ∧ (r.2 = false → r.1 = []) ∧ (r.2 = true → Val g ∧ 0 ≤ a ∧ a < (g.length : Int) ∧ Fct g a.toNat r.1) ∧ (Val g → 0 ≤ a → a < (g.length : Int) → Ev (fun k => impl_mro.f k g a) r) := by
  have hl := hs.len
  obtain ⟨b, v1, v2⟩ := valid_ev g hs
  have ew : wrap64 ((g.length : Int) - 1) = (g.length : Int) - 1 := w64 (by omega) (by omega)
  have impl : ∀ z, (Rows g → Ev (fun k => impl_mro.f k g a) z) → (¬ Rows g → z = ([], false)) → Ev (fun k => impl_MroOf.f k g a) z := fun z h1 h2 => rows_l g hs a z h1 h2 _ 0 rfl (by omega) (fun i hi => absurd hi (Nat.not_lt_zero _))
  by_cases hv : Val g
  · have hb := v2.2 hv
    subst hb
    by_cases ha : 0 ≤ a ∧ a ≤ (g.length : Int) - 1
    · obtain ⟨r, e1, e2, e3, e4, e5⟩ := both g hv.1 a.toNat (by omega)
      have ea : ((a.toNat : Nat) : Int) = a := by omega
      rw [ea] at e1 e4
      refine ⟨r, impl r (fun _ => e1) (fun h => absurd hv.2 h), ?_, e2, fun h => ⟨hv, ha.1, by omega, e5 h⟩, fun _ _ _ => e1⟩
      unfold spec_MroOf.f
      refine Ev.bind v1 ?_
      simp only [if_true, ew, inRange_eq, Option.bind_some, decide_eq_true ha]
      exact Ev.bind (e4 (fun i hi => hv.2 i (by omega))) (Ev.now _)
    · refine ⟨([], false), impl _ (fun _ => mro_out g a (by omega)) (fun h => rfl), ?_, fun _ => rfl, fun h => by simp at h, fun _ z1 z2 => absurd ⟨z1, by omega⟩ ha⟩
      unfold spec_MroOf.f
      refine Ev.bind v1 ?_
      simp only [if_true, ew, inRange_eq, Option.bind_some, decide_eq_false ha, Bool.false_eq_true, if_false]
      exact Ev.now _
  · have hb : b = false := by
      cases b with
      | false => rfl
      | true => exact absurd (v2.1 rfl) hv
    subst hb
    refine ⟨([], false), impl _ (fun hr => mro_out g a (by
      right; right
      apply Classical.byContradiction
      intro q
      exact hv ⟨by omega, hr⟩)) (fun h => rfl), ?_, fun _ => rfl, fun h => by simp at h, fun z => absurd z hv⟩
    unfold spec_MroOf.f
    refine Ev.bind v1 ?_
    simp only [Bool.false_eq_true, if_false]
    exact Ev.now _
theorem fct_len {g : List (List Int)} {a : Int} {l : List Int} (h : Fct g a.toNat l) (h0 : a < (g.length : Int)) (hv : Val g) : l.length ≤ 9 := by
  have := h.len; have := hv.1; omega
/-- IsSub of both. -/
theorem subs (g : List (List Int)) (hs : BSz g) (a d : Int) : ∃ r : List Int × Bool, Ev (fun k => impl_MroOf.f k g a) r ∧ Ev (fun k => spec_MroOf.f k g a) r ∧ (r.2 = false → r.1 = []) ∧ (r.2 = true → Val g ∧ 0 ≤ a ∧ a < (g.length : Int) ∧ Fct g a.toNat r.1) ∧
    Ev (fun k => impl_IsSub.f k g a d) (r.2 && decide (d ∈ r.1)) ∧ Ev (fun k => spec_IsSub.f k g a d) (r.2 && decide (d ∈ r.1)) := by
  obtain ⟨r, e1, e2, e3, e4, _⟩ := mros g hs a
  refine ⟨r, e1, e2, e3, e4, ?_, ?_⟩
  · unfold impl_IsSub.f
    refine Ev.bind e1 ?_
    cases hr : r.2 with
    | false => simp only [Bool.false_eq_true, if_false, Bool.false_and]; exact Ev.now _
    | true =>
      obtain ⟨q1, q2, q3, q4⟩ := e4 hr
      have := fct_len q4 q3 q1
      simp only [if_true, Bool.true_and]
      exact Ev.bind (contains_ev r.1 d (by omega)) (Ev.now _)
  · unfold spec_IsSub.f
    refine Ev.bind e2 ?_
    cases hr : r.2 with
    | false => simp only [Bool.false_eq_true, if_false, Bool.false_and]; exact Ev.now _
    | true =>
      obtain ⟨q1, q2, q3, q4⟩ := e4 hr
      have := fct_len q4 q3 q1
      simp only [if_true, Bool.true_and]
      exact Ev.bind (inList_ev r.1 d (by omega)) (Ev.now _)
theorem bases_impl (g : List (List Int)) (hg : g.length ≤ 8) : ∀ (d n : Nat), g.length - n = d → n ≤ g.length → ∃ b, Ev (fun k => impl_BasesOk.l0 k g (g.length : Int) (n : Int)) b ∧ (b = true → ∀ i, n ≤ i → i < g.length → RowOk i (at_ g i) ∧ ∃ l, Ev (fun k => impl_mro.f k g (i : Int)) (l, true)) ∧ (Rows g → Ev (fun k => spec_BasesOk.l0 k g (n : Int)) b) := by
  intro d
  induction d with
  | zero =>
    intro n h1 h2
    obtain rfl : n = g.length := by omega
    refine ⟨true, Ev.step (fun k => impl_BasesOk.l0.eq_2 ..) ?_, fun _ i hi hi2 => by omega, fun _ => Ev.step (fun k => spec_BasesOk.l0.eq_2 ..) ?_⟩
    · simp only [if_neg (show ¬ (g.length : Int) < (g.length : Int) by omega)]; exact Ev.now _
    · simp only [if_neg (show ¬ (g.length : Int) < (g.length : Int) by omega)]; exact Ev.now _
  | succ d ih =>
    intro n h1 h2
    have hn : n < g.length := by omega
    obtain ⟨r, e1, e2, e3, e4, e5⟩ := both g hg n hn
    cases hr : r.2 with
    | false =>
      refine ⟨false, Ev.step (fun k => impl_BasesOk.l0.eq_2 ..) ?_, fun h => by simp at h, fun hall => Ev.step (fun k => spec_BasesOk.l0.eq_2 ..) ?_⟩
      · simp only [if_pos (show (n : Int) < (g.length : Int) by omega)]
        refine Ev.bind e1 ?_
        simp only [hr, Bool.false_eq_true, if_false]
        exact Ev.now _
      · simp only [if_pos (show (n : Int) < (g.length : Int) by omega)]
        refine Ev.bind (e4 (fun i hi => hall i (by omega))) ?_
        simp only [hr, Bool.false_eq_true, if_false]
        exact Ev.now _
    | true =>
      obtain ⟨b, b1, b2, b3⟩ := ih (n + 1) (by omega) (by omega)
      refine ⟨b, Ev.step (fun k => impl_BasesOk.l0.eq_2 ..) ?_, fun h i hi hi2 => ?_, fun hall => Ev.step (fun k => spec_BasesOk.l0.eq_2 ..) ?_⟩
      · simp only [if_pos (show (n : Int) < (g.length : Int) by omega)]
        refine Ev.bind e1 ?_
        simp only [hr, if_true, wr2 (show n ≤ 100000000 by omega)]
        exact b1
      · rcases Nat.lt_or_ge n i with q | q
        · exact b2 h i (by omega) hi2
        · obtain rfl : i = n := by omega
          refine ⟨?_, r.1, by rw [← hr]; exact e1⟩
          apply Classical.byContradiction
          intro z
          rw [e3 z] at hr
          simp at hr
      · simp only [if_pos (show (n : Int) < (g.length : Int) by omega)]
        refine Ev.bind (e4 (fun i hi => hall i (by omega))) ?_
        simp only [hr, if_true, wr2 (show n ≤ 100000000 by omega)]
        exact b3 hall
/-- BasesOk of both. -/
theorem bases (g : List (List Int)) (hs : BSz g) : ∃ b, Ev (fun k => impl_BasesOk.f k g) b ∧ Ev (fun k => spec_BasesOk.f k g) b ∧ (b = true → Val g ∧ ∀ i : Nat, i < g.length → ∃ l, Ev (fun k => impl_mro.f k g (i : Int)) (l, true)) := by
  obtain ⟨v, v1, v2⟩ := valid_ev g hs
  have no : v = false → Ev (fun k => spec_BasesOk.f k g) false := fun h => by
    subst h
    unfold spec_BasesOk.f
    refine Ev.bind v1 ?_
    simp only [Bool.false_eq_true, if_false]
    exact Ev.now _
  by_cases hg : g.length ≤ 8
  · obtain ⟨b, b1, b2, b3⟩ := bases_impl g hg _ 0 rfl (by omega)
    have impl : Ev (fun k => impl_BasesOk.f k g) b := by
      unfold impl_BasesOk.f
      simp only [if_neg (show ¬ (g.length : Int) > 8 by omega)]
      exact b1
    by_cases hr : Rows g
    · refine ⟨b, impl, ?_, fun h => ⟨⟨hg, hr⟩, fun i hi => (b2 h i (Nat.zero_le _) hi).2⟩⟩
      have hv := v2.2 ⟨hg, hr⟩
      subst hv
      unfold spec_BasesOk.f
      refine Ev.bind v1 ?_
      simp only [if_true]
      exact b3 hr
    · have hb : b = false := by
        cases b with
        | false => rfl
        | true => exact absurd (fun i hi => (b2 rfl i (Nat.zero_le _) hi).1) hr
      subst hb
      refine ⟨false, impl, no ?_, fun h => by simp at h⟩
      cases v with
      | false => rfl
      | true => exact absurd (v2.1 rfl).2 hr
  · refine ⟨false, ?_, no ?_, fun h => by simp at h⟩
    · unfold impl_BasesOk.f
      simp only [if_pos (show (g.length : Int) > 8 by omega)]
      exact Ev.now _
    · cases v with
      | false => rfl
      | true => exact absurd (v2.1 rfl).1 hg
theorem ev_one {α : Type} {f : Nat → Option α} {a b : α} (h : Ev f a) (k : Ev f b) : a = b := by
  obtain ⟨K, h⟩ := h
  obtain ⟨K', k⟩ := k
  have h1 := h (max K K') (Nat.le_max_left _ _)
  have h2 := k (max K K') (Nat.le_max_right _ _)
  rw [h1] at h2
  exact Option.some.inj h2
end Go.Proofs.Ytdlobdhpledbfaa.CL
