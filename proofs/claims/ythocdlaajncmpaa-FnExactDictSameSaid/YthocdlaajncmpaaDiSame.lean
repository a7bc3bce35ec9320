/- The same keys and values: the reference and the program agree. -/
import Derived.Test.YthocdlaajncmpaaDiOk
import Derived.Test.YthocdlaajncmpaaQ0
import Derived.Test.YthocdlaajncmpaaQ2
import Derived.Test.YthocdlaajncmpaaQ5
import Derived.Test.YthocdlaajncmpaaQ8
set_option linter.unusedVariables false
set_option linter.unusedSimpArgs false
namespace Go.Proofs.Ythocdlaajncmpaa.DI
open Go.RowKit Go.Proofs.Ythocdlaajncmpaa.Q Go.Proofs.YthocdlaajncmpaaW.PrintWords
theorem find_ex (I : List Int) (E : List S38) (hG : Good I E) (key : ByteArray) (hk : key.size ≤ 20) : ∃ s : Nat, s < I.length ∧ Ev (fun k => spec_slotOf.f k I E key) (s : Int) ∧ Ev (fun k => impl_Dict_find.f k I E key) (mx (I.getD s 0) (-1)) := by
  obtain ⟨L, s, hs, hst, q1, q2, q3, q4, q5, q6, q7, q8⟩ := slot_ex I E hG key hk
  refine ⟨s, hs, q3, ?_⟩
  unfold impl_Dict_find.f
  refine Ev.bind q2 ?_
  simp only [if_pos q6, if_pos q7, q8, if_pos (show (0 : Int) ≤ (s : Int) by omega), if_pos (show (s : Int) < (I.length : Int) by omega), rdN]
  exact Ev.now _
theorem same_both (I E I2 E2) (hI : I.length ≤ 1048576) (hE : E.length ≤ 1048576) (hS : ∀ e ∈ E, e.f0.size ≤ maxLen) (hI2 : I2.length ≤ 1048576) (hE2 : E2.length ≤ 1048576) (hS2 : ∀ e ∈ E2, e.f0.size ≤ maxLen) :
    ∃ b, Ev (fun k => spec_DictSame.f k I E I2 E2) b ∧ Ev (fun k => impl_DictSame.f k I E I2 E2) b := by
  obtain ⟨b, b1, b2, b3⟩ := dict_ok2 I E hI (.inr hE) hS
  obtain ⟨c, c1, c2, c3⟩ := dict_ok2 I2 E2 hI2 (.inr hE2) hS2
  have sj : Ev (fun k => spec_DictSame.j0 k true I E I2 E2) false := Ev.step (fun k => spec_DictSame.j0.eq_2 ..) (by simp only [if_true]; exact Ev.now _)
  have ij : Ev (fun k => impl_DictSame.j0 k true I E I2 E2) false := Ev.step (fun k => impl_DictSame.j0.eq_2 ..) (by simp only [if_true]; exact Ev.now _)
  cases hb : b with
  | false =>
    rw [hb] at b1 b2
    refine ⟨false, ?_, ?_⟩
    · unfold spec_DictSame.f
      refine Ev.bind b1 ?_
      simp only [Bool.false_eq_true, if_false]
      exact sj
    · unfold impl_DictSame.f
      refine Ev.bind b2 ?_
      simp only [Bool.false_eq_true, if_false]
      exact ij
  | true =>
    obtain ⟨hG, hk⟩ := b3 hb
    rw [hb] at b1 b2
    cases hc : c with
    | false =>
      rw [hc] at c1 c2
      refine ⟨false, ?_, ?_⟩
      · unfold spec_DictSame.f
        refine Ev.bind b1 ?_
        simp only [if_true]
        refine Ev.bind c1 ?_
        simp only [Bool.false_eq_true, if_false]
        exact sj
      · unfold impl_DictSame.f
        refine Ev.bind b2 ?_
        simp only [if_true]
        refine Ev.bind c2 ?_
        simp only [Bool.false_eq_true, if_false]
        exact ij
    | true =>
      obtain ⟨hG2, hk2⟩ := c3 hc
      rw [hc] at c1 c2
      obtain ⟨n1, n2⟩ := hk.2
      obtain ⟨m1, m2⟩ := hk2.2
      have big : E.length ≤ maxLen := by unfold maxLen; omega
      have start : ∀ r, Ev (fun k => spec_DictSame.j0 k (((live E : Nat) : Int) != ((live E2 : Nat) : Int)) I E I2 E2) r → Ev (fun k => spec_DictSame.f k I E I2 E2) r := by
        intro r hr
        unfold spec_DictSame.f
        refine Ev.bind b1 ?_
        simp only [if_true]
        refine Ev.bind c1 ?_
        simp only [if_true]
        exact Ev.bind n1 (Ev.bind m1 hr)
      have start' : ∀ r, Ev (fun k => impl_DictSame.j0 k (((live E : Nat) : Int) != ((live E2 : Nat) : Int)) I E I2 E2) r → Ev (fun k => impl_DictSame.f k I E I2 E2) r := by
        intro r hr
        unfold impl_DictSame.f
        refine Ev.bind b2 ?_
        simp only [if_true]
        refine Ev.bind c2 ?_
        simp only [if_true]
        exact Ev.bind n2 (Ev.bind m2 hr)
      cases hl : (((live E : Nat) : Int) != ((live E2 : Nat) : Int)) with
      | true =>
        rw [hl] at start start'
        exact ⟨false, start _ sj, start' _ ij⟩
      | false =>
        rw [hl] at start start'
        have ex : ∀ j : Nat, ∃ s : Nat, j < E.length → lv E j = true → s < I2.length ∧ Ev (fun k => spec_slotOf.f k I2 E2 (E.getD j z38).f0) (s : Int) ∧ Ev (fun k => impl_Dict_find.f k I2 E2 (E.getD j z38).f0) (mx (I2.getD s 0) (-1)) := by
          intro j
          by_cases h : j < E.length ∧ lv E j = true
          · obtain ⟨s, h1⟩ := find_ex I2 E2 hG2 _ (hk.1 j h.1 h.2)
            exact ⟨s, fun _ _ => h1⟩
          · exact ⟨0, fun a b => absurd ⟨a, b⟩ h⟩
        obtain ⟨f, hf⟩ := Classical.axiomOfChoice ex
        let cc : Nat → Bool := fun j => !lv E j || (decide (0 ≤ I2.getD (f j) 0) && decide ((E2.getD (I2.getD (f j) 0).toNat z38).f2 = (E.getD j z38).f2))
        refine ⟨decide (∀ j, j < E.length → cc j = true) && true, start _ ?_, start' _ ?_⟩
        · refine Ev.step (fun k => spec_DictSame.j0.eq_2 ..) ?_
          simp only [Bool.false_eq_true, if_false]
          refine allLoop (F := fun k i => spec_DictSame.l0 k i I E I2 E2) (n := E.length) (c := cc) (B := true) ?_ ?_ ?_
          · intro j hj hcj r hr
            refine Ev.step (fun k => spec_DictSame.l0.eq_2 ..) ?_
            simp only [if_pos (show (j : Int) < (E.length : Int) by omega), if_pos (show (0 : Int) ≤ j by omega), rdE, wnext hj big]
            cases hlv : lv E j with
            | false =>
              simp only [show (E.getD j z38).f3 = false from hlv, Bool.false_eq_true, if_false]
              exact hr
            | true =>
              obtain ⟨q1, q2, q3⟩ := hf j hj hlv
              have hx := hG2.rng _ (getD_mem' I2 0 q1)
              have hcj' : (decide (0 ≤ I2.getD (f j) 0) && decide ((E2.getD (I2.getD (f j) 0).toNat z38).f2 = (E.getD j z38).f2)) = true := by
                have := hcj
                show _ = true
                simpa [cc, hlv] using this
              rw [Bool.and_eq_true, decide_eq_true_eq, decide_eq_true_eq] at hcj'
              simp only [show (E.getD j z38).f3 = true from hlv, if_true]
              refine Ev.bind q2 ?_
              simp only [if_pos (show (0 : Int) ≤ ((f j) : Int) by omega), if_pos (show ((f j) : Int) < (I2.length : Int) by omega), rdN, if_neg (show ¬ I2.getD (f j) 0 < 0 by omega), if_pos hcj'.1, if_pos hx.2, if_pos (show (rd_T38 E2 (I2.getD (f j) 0)).f2 = (E.getD j z38).f2 from hcj'.2)]
              exact hr
          · intro j hj hcj
            refine Ev.step (fun k => spec_DictSame.l0.eq_2 ..) ?_
            simp only [if_pos (show (j : Int) < (E.length : Int) by omega), if_pos (show (0 : Int) ≤ j by omega), rdE, wnext hj big]
            cases hlv : lv E j with
            | false => exact absurd hcj (by simp [cc, hlv])
            | true =>
              obtain ⟨q1, q2, q3⟩ := hf j hj hlv
              have hx := hG2.rng _ (getD_mem' I2 0 q1)
              have hcj' : (decide (0 ≤ I2.getD (f j) 0) && decide ((E2.getD (I2.getD (f j) 0).toNat z38).f2 = (E.getD j z38).f2)) = false := by
                have : cc j = false := hcj
                show _ = false
                simpa only [cc, hlv, Bool.not_true, Bool.false_or] using this
              simp only [show (E.getD j z38).f3 = true from hlv, if_true]
              refine Ev.bind q2 ?_
              simp only [if_pos (show (0 : Int) ≤ ((f j) : Int) by omega), if_pos (show ((f j) : Int) < (I2.length : Int) by omega), rdN]
              by_cases g : I2.getD (f j) 0 < 0
              · simp only [if_pos g]; exact Ev.now _
              · rw [decide_eq_true (show 0 ≤ I2.getD (f j) 0 by omega), Bool.true_and, decide_eq_false_iff_not] at hcj'
                simp only [if_neg g, if_pos (show 0 ≤ I2.getD (f j) 0 by omega), if_pos hx.2, if_neg (show ¬ (rd_T38 E2 (I2.getD (f j) 0)).f2 = (E.getD j z38).f2 from hcj')]
                exact Ev.now _
          · intro _
            refine Ev.step (fun k => spec_DictSame.l0.eq_2 ..) ?_
            simp only [Int.lt_irrefl, if_false]
            exact Ev.now _
        · refine Ev.step (fun k => impl_DictSame.j0.eq_2 ..) ?_
          simp only [Bool.false_eq_true, if_false]
          refine allLoop (F := fun k i => impl_DictSame.l0 k E (E.length : Int) i I2 E2) (n := E.length) (c := cc) (B := true) ?_ ?_ ?_
          · intro j hj hcj r hr
            refine Ev.step (fun k => impl_DictSame.l0.eq_2 ..) ?_
            simp only [if_pos (show (j : Int) < (E.length : Int) by omega), if_pos (show (0 : Int) ≤ j by omega), rdE, wnext hj big]
            cases hlv : lv E j with
            | false =>
              simp only [show (E.getD j z38).f3 = false from hlv, Bool.false_eq_true, if_false]
              exact hr
            | true =>
              obtain ⟨q1, q2, q3⟩ := hf j hj hlv
              have hx := hG2.rng _ (getD_mem' I2 0 q1)
              have hcj' : (decide (0 ≤ I2.getD (f j) 0) && decide ((E2.getD (I2.getD (f j) 0).toNat z38).f2 = (E.getD j z38).f2)) = true := by
                have : cc j = true := hcj
                show _ = true
                simpa only [cc, hlv, Bool.not_true, Bool.false_or] using this
              rw [Bool.and_eq_true, decide_eq_true_eq, decide_eq_true_eq] at hcj'
              have e : mx (I2.getD (f j) 0) (-1) = I2.getD (f j) 0 := by unfold mx; split <;> omega
              rw [e] at q3
              simp only [show (E.getD j z38).f3 = true from hlv, if_true]
              refine Ev.bind q3 ?_
              simp only [if_neg (show ¬ I2.getD (f j) 0 < 0 by omega), if_pos hcj'.1, if_pos hx.2, if_pos (show (rd_T38 E2 (I2.getD (f j) 0)).f2 = (E.getD j z38).f2 from hcj'.2)]
              exact hr
          · intro j hj hcj
            refine Ev.step (fun k => impl_DictSame.l0.eq_2 ..) ?_
            simp only [if_pos (show (j : Int) < (E.length : Int) by omega), if_pos (show (0 : Int) ≤ j by omega), rdE, wnext hj big]
            cases hlv : lv E j with
            | false => exact absurd hcj (by simp [cc, hlv])
            | true =>
              obtain ⟨q1, q2, q3⟩ := hf j hj hlv
              have hx := hG2.rng _ (getD_mem' I2 0 q1)
              have hcj' : (decide (0 ≤ I2.getD (f j) 0) && decide ((E2.getD (I2.getD (f j) 0).toNat z38).f2 = (E.getD j z38).f2)) = false := by
                have : cc j = false := hcj
                show _ = false
                simpa only [cc, hlv, Bool.not_true, Bool.false_or] using this
              simp only [show (E.getD j z38).f3 = true from hlv, if_true]
              refine Ev.bind q3 ?_
              by_cases g : I2.getD (f j) 0 < 0
              · have e : mx (I2.getD (f j) 0) (-1) = -1 := by unfold mx; split <;> omega
                simp only [e, if_pos (show (-1 : Int) < 0 by omega)]
                exact Ev.now _
              · have e : mx (I2.getD (f j) 0) (-1) = I2.getD (f j) 0 := by unfold mx; split <;> omega
                rw [decide_eq_true (show 0 ≤ I2.getD (f j) 0 by omega), Bool.true_and, decide_eq_false_iff_not] at hcj'
                simp only [e, if_neg g, if_pos (show 0 ≤ I2.getD (f j) 0 by omega), if_pos hx.2, if_neg (show ¬ (rd_T38 E2 (I2.getD (f j) 0)).f2 = (E.getD j z38).f2 from hcj')]
                exact Ev.now _
          · intro _
            refine Ev.step (fun k => impl_DictSame.l0.eq_2 ..) ?_
            simp only [Int.lt_irrefl, if_false]
            exact Ev.now _
end Go.Proofs.Ythocdlaajncmpaa.DI
