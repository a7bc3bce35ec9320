/- What the program's powers of an integer come to, and the reference's. -/
import Derived.Test.YtccdaiagameobaaIntEv7
import Derived.Test.YtccdaiagameobaaQ1
import Derived.Test.YtccdaiagameobaaQ22
import Derived.Test.YtccdaiagameobaaQ23
set_option linter.unusedSimpArgs false
set_option linter.unusedVariables false
namespace Go.Proofs.Ytccdaiagameobaa.IE
open Go.RowKit Go.Proofs.Ytccdaiagameobaa.Q Go.Proofs.YtccdaiagameobaaW.PrintWords Go.Proofs.IM

/-- What the powers answer. -/
def powR (a : List UInt8) (n : Int) : ByteArray × Bool := if okInt a = true ∧ 0 ≤ n ∧ n ≤ 200 then fit (numOf a ^ n.toNat) else (⟨#[]⟩, false)
theorem fit_big {n : Int} (h : ¬ n.natAbs < 10 ^ 40) : fit n = (⟨#[]⟩, false) := by unfold fit; rw [if_neg h]
theorem pow_big {x y : Int} (hx : ¬ x.natAbs < 10 ^ 40) (hy : y ≠ 0) : ¬ (x * y).natAbs < 10 ^ 40 := by
  rw [Int.natAbs_mul]
  have : x.natAbs * 1 ≤ x.natAbs * y.natAbs := Nat.mul_le_mul_left _ (by omega)
  omega
theorem len40 {n : Int} : ((dig n.natAbs).length : Int) > 40 ↔ ¬ n.natAbs < 10 ^ 40 := by
  rw [← dig_length_le]; omega

theorem impl_pow_l0 (x : Int) (hx : (dig x.natAbs).length ≤ 40) (n : Nat) (hn : n ≤ 200) (ni : Int) (hni : ni = n) :
    ∀ (d i : Nat) (y : Int), y = i → i ≤ n → n - i ≤ d → (x ^ i).natAbs < 10 ^ 40 →
      Ev (fun k => impl_IntPow.l0 k ni y (decide (x < 0)) (dig x.natAbs) (decide (x ^ i < 0)) (dig (x ^ i).natAbs)) (fit (x ^ n)) := by
  have stop : ∀ (i : Nat) (y : Int), y = i → i = n → Ev (fun k => impl_IntPow.l0 k ni y (decide (x < 0)) (dig x.natAbs) (decide (x ^ i < 0)) (dig (x ^ i).natAbs)) (fit (x ^ n)) := by
    intro i y hy hi
    refine Ev.step (fun k => impl_IntPow.l0.eq_2 ..) ?_
    simp only [if_neg (show ¬ y < ni by omega), impl_text_eq, Option.bind_some]
    rw [hi]
    exact Ev.now _
  intro d
  induction d with
  | zero =>
    intro i y hy hi hd h40
    exact stop i y hy (by omega)
  | succ d ih =>
    intro i y hy hi hd h40
    rcases Nat.lt_or_ge i n with hlt | hge
    · refine Ev.step (fun k => impl_IntPow.l0.eq_2 ..) ?_
      simp only [if_pos (show y < ni by omega)]
      have hl := dig_length_le.2 h40
      refine Ev.bind (impl_times_ev (x ^ i) x (by omega) (by omega)) ?_
      rw [← Int.pow_succ]
      by_cases c : (x ^ (i + 1)).natAbs < 10 ^ 40
      · simp only [if_neg (show ¬ ((dig (x ^ (i + 1)).natAbs).length : Int) > 40 from fun h => len40.1 h c)]
        rw [w64 (x := y + 1) (by omega) (by omega)]
        exact ih (i + 1) (y + 1) (by omega) (by omega) (by omega) c
      · simp only [if_pos (len40.2 c)]
        have hx0 : x ≠ 0 := by
          intro h
          apply c
          rw [h, Int.pow_succ, Int.mul_zero]
          exact Nat.pos_of_ne_zero (by decide)
        have hp : x ^ n = x ^ (i + 1) * x ^ (n - (i + 1)) := by rw [← Int.pow_add]; congr 1; omega
        have hb : ¬ (x ^ n).natAbs < 10 ^ 40 := by
          rw [hp]
          exact pow_big c (Int.pow_ne_zero hx0)
        rw [fit_big hb]
        exact Ev.now _
    · exact stop i y hy (by omega)
theorem one_lt40 (x : Int) : (x ^ 0).natAbs < 10 ^ 40 := by rw [Int.pow_zero]; decide
theorem impl_IntPow_ev (a : List UInt8) (n : Int) (ha : a.length ≤ 1000000000000000) : Ev (fun k => impl_IntPow.f k (mkS a) n) (powR a n) := by
  unfold impl_IntPow.f
  have hp := impl_parse_ev a ha
  unfold parsed at hp
  have fail : ∀ (u : Bool) (l : List Int), Ev (fun k => impl_IntPow.j0 k n true u l) (⟨#[]⟩, false) := by
    intro u l
    refine Ev.step (fun k => impl_IntPow.j0.eq_2 ..) ?_
    simp only [if_true]
    exact Ev.now _
  by_cases h : okInt a = true
  · rw [if_pos h] at hp
    refine Ev.bind hp ?_
    simp only [if_true]
    by_cases h0 : n < 0
    · simp only [if_pos h0]
      unfold powR
      rw [if_neg (by omega)]
      exact fail _ _
    · simp only [if_neg h0]
      by_cases h2 : n > 200
      · rw [decide_eq_true h2]
        unfold powR
        rw [if_neg (by omega)]
        exact fail _ _
      · rw [decide_eq_false h2]
        unfold powR
        rw [if_pos ⟨h, by omega, by omega⟩]
        refine Ev.step (fun k => impl_IntPow.j0.eq_2 ..) ?_
        simp only [Bool.false_eq_true, if_false]
        have hone : ([1] : List Int) = dig (numOf a ^ 0).natAbs := by
          rw [Int.pow_zero]
          show [1] = dig 1
          rw [dig_pos (by decide)]; simp [dig_zero]
        have h1 := impl_pow_l0 (numOf a) (ok_len h) n.toNat (by omega) n (by omega) n.toNat 0 0 rfl (by omega) (by omega) (one_lt40 _)
        rw [← hone, show decide (numOf a ^ 0 < 0) = false by rw [Int.pow_zero]; decide] at h1
        exact h1
  · rw [if_neg h] at hp
    refine Ev.bind hp ?_
    simp only [Bool.false_eq_true, if_false]
    unfold powR
    rw [if_neg (fun q => h q.1)]
    exact fail _ _

theorem spec_mulInts_ev (a b : List UInt8) (h1 : okInt a = true) (h2 : okInt b = true) : Ev (fun k => spec_mulInts.f k (mkS a) (mkS b)) (fit (numOf a * numOf b)) := by
  have l1 := ok_len h1
  have l2 := ok_len h2
  unfold spec_mulInts.f
  refine Ev.bind (spec_digits_ev a h1) (Ev.bind (spec_digits_ev b h2) ?_)
  generalize numOf a = n at *
  generalize numOf b = m at *
  refine Ev.bind (spec_times_ev n.natAbs m.natAbs (by omega) (by omega)) ?_
  have hl : (dig (n.natAbs * m.natAbs)).length ≤ 800 := mul_len (by omega) (by omega)
  refine Ev.bind (spec_fitting_ev _ _ (by omega)) ?_
  have e : (if (decide (n < 0) != decide (m < 0)) = true then -((n.natAbs * m.natAbs : Nat) : Int) else ((n.natAbs * m.natAbs : Nat) : Int)) = n * m := by
    by_cases hz : n * m = 0
    · have h0 : n.natAbs * m.natAbs = 0 := by rw [← Int.natAbs_mul, hz]; rfl
      rw [h0, hz]
      split <;> rfl
    · rw [← mul_neg_iff hz, ← Int.natAbs_mul]
      split
      · rename_i h
        have := of_decide_eq_true h
        omega
      · rename_i h
        have : ¬ n * m < 0 := fun q => h (decide_eq_true q)
        omega
  rw [e]
  exact Ev.now _

theorem txt_mk (n : Int) : txt n = mkS (txtL n) := rfl
theorem spec_pow_l0 : ∀ (N n : Nat) (y : Int) (x o : Int), n ≤ N → n ≤ 200 → y = n → x.natAbs < 10 ^ 40 → o.natAbs < 10 ^ 40 → o ≠ 0 ∨ x = 0 →
    Ev (fun k => spec_powInts.l0 k (txt x) y (txt o)) (fit (o * x ^ n)) := by
  intro N
  induction N with
  | zero =>
    intro n y x o hN hn hy hx ho hz
    have : n = 0 := by omega
    subst this
    refine Ev.step (fun k => spec_powInts.l0.eq_2 ..) ?_
    simp only [if_neg (show ¬ y > 0 by omega)]
    rw [Int.pow_zero, Int.mul_one]
    unfold fit
    rw [if_pos ho]
    exact Ev.now _
  | succ N ih =>
    intro n y x o hN hn hy hx ho hz
    rcases Nat.eq_zero_or_pos n with h0 | hpos
    · subst h0
      refine Ev.step (fun k => spec_powInts.l0.eq_2 ..) ?_
      simp only [if_neg (show ¬ y > 0 by omega)]
      rw [Int.pow_zero, Int.mul_one]
      unfold fit
      rw [if_pos ho]
      exact Ev.now _
    · have okx := txt_ok x hx
      have j1 : ∀ (o' : Int), o'.natAbs < 10 ^ 40 → o' ≠ 0 ∨ x = 0 → Ev (fun k => spec_powInts.j1 k (txt x) y (txt o')) (fit (o' * x ^ (n / 2 + n / 2))) := by
        intro o' ho' hz'
        refine Ev.step (fun k => spec_powInts.j1.eq_2 ..) ?_
        have hw : wrap64 (Int.tdiv y 2) = ((n / 2 : Nat) : Int) := by
          rw [hy, Int.tdiv_eq_ediv_of_nonneg (by omega), w64 (by omega) (by omega)]; rfl
        simp only [hw]
        by_cases c : ((n / 2 : Nat) : Int) > 0
        · simp only [if_pos c]
          have hm := spec_mulInts_ev (txtL x) (txtL x) okx.1 okx.1
          rw [okx.2] at hm
          refine Ev.bind hm ?_
          have hpow : x ^ (n / 2 + n / 2) = (x * x) ^ (n / 2) := by rw [Int.mul_pow, ← Int.pow_add]
          by_cases cb : (x * x).natAbs < 10 ^ 40
          · unfold fit
            rw [if_pos cb]
            simp only [if_true]
            have h1 := ih (n / 2) ((n / 2 : Nat) : Int) (x * x) o' (by omega) (by omega) rfl cb ho' (by rcases hz' with h | h; exact .inl h; exact .inr (by rw [h]; rfl))
            rw [← hpow] at h1
            unfold fit at h1
            exact h1
          · rw [fit_big cb]
            simp only [Bool.false_eq_true, if_false]
            have hx0 : x ≠ 0 := by
              intro h
              apply cb
              rw [h]
              decide
            have ho0 : o' ≠ 0 := by rcases hz' with h | h; exact h; exact absurd h hx0
            have hb : ¬ (o' * x ^ (n / 2 + n / 2)).natAbs < 10 ^ 40 := by
              have e : o' * x ^ (n / 2 + n / 2) = (x * x) * (o' * (x * x) ^ (n / 2 - 1)) := by
                rw [hpow]
                have : (x * x) ^ (n / 2) = (x * x) ^ (n / 2 - 1) * (x * x) := by rw [← Int.pow_succ]; congr 1; omega
                rw [this, ← Int.mul_assoc, Int.mul_comm]
              rw [e]
              exact pow_big cb (Int.mul_ne_zero ho0 (Int.pow_ne_zero (Int.mul_ne_zero hx0 hx0)))
            rw [fit_big hb]
            exact Ev.now _
        · simp only [if_neg c]
          have e0 : n / 2 = 0 := by omega
          have h1 := ih (n / 2) ((n / 2 : Nat) : Int) x o' (by omega) (by omega) rfl hx ho' hz'
          rw [e0] at h1 ⊢
          exact h1
      refine Ev.step (fun k => spec_powInts.l0.eq_2 ..) ?_
      simp only [if_pos (show y > 0 by omega)]
      have ht : Int.tmod y 2 = ((n % 2 : Nat) : Int) := by rw [hy, Int.tmod_eq_emod_of_nonneg (by omega)]; rfl
      rw [ht]
      by_cases c1 : n % 2 = 1
      · simp only [if_pos (show ((n % 2 : Nat) : Int) = 1 by omega)]
        have oko := txt_ok o ho
        have hm := spec_mulInts_ev (txtL o) (txtL x) oko.1 okx.1
        rw [oko.2, okx.2] at hm
        refine Ev.bind hm ?_
        have e : o * x ^ n = (o * x) * x ^ (n / 2 + n / 2) := by
          have : x ^ n = x ^ (n / 2 + n / 2) * x := by rw [← Int.pow_succ]; congr 1; omega
          rw [this, Int.mul_assoc, Int.mul_comm x]
        rw [e]
        by_cases cb : (o * x).natAbs < 10 ^ 40
        · unfold fit
          rw [if_pos cb]
          simp only [if_true]
          have h1 := j1 (o * x) cb (by
            rcases hz with h | h
            · by_cases hx0 : x = 0
              · exact .inr hx0
              · exact .inl (Int.mul_ne_zero h hx0)
            · exact .inr h)
          unfold fit at h1
          exact h1
        · rw [fit_big cb]
          simp only [Bool.false_eq_true, if_false]
          have hx0 : x ≠ 0 := by
            intro h
            apply cb
            rw [h, Int.mul_zero]
            decide
          rw [fit_big (pow_big cb (Int.pow_ne_zero hx0))]
          exact Ev.now _
      · simp only [if_neg (show ¬ ((n % 2 : Nat) : Int) = 1 by omega)]
        have h1 := j1 o ho hz
        rw [show n / 2 + n / 2 = n by omega] at h1
        exact h1
theorem txt_one : txt 1 = (⟨#[49]⟩ : ByteArray) := by
  have h : dig 1 = [1] := by rw [dig_pos (by decide)]; simp [dig_zero]
  unfold txt txtL magTxt
  simp [h, mkS]
  decide
theorem spec_IntPow_ev (a : List UInt8) (n : Int) (ha : a.length ≤ 1000000000000000) : Ev (fun k => spec_IntPow.f k (mkS a) n) (powR a n) := by
  unfold spec_IntPow.f powR
  refine Ev.bind (spec_valid_ev a ha) ?_
  by_cases h : okInt a = true
  · simp only [if_pos h]
    by_cases hr : 0 ≤ n ∧ n ≤ 200
    · rw [if_pos ⟨h, hr⟩]
      have e : spec_inRange.f n 0 200 = some true := by
        unfold spec_inRange.f
        rw [if_pos (show n ≥ 0 from hr.1), decide_eq_true hr.2]
      simp only [e, Option.bind_some, if_true]
      have hok := ok_txt h
      have h1 := spec_pow_l0 n.toNat n.toNat n (numOf a) 1 (Nat.le_refl _) (by omega) (by omega) hok.2.1 (by decide) (.inl (by decide))
      rw [Int.one_mul, show txt (numOf a) = mkS a by unfold txt; rw [← hok.1], txt_one] at h1
      have h2 : Ev (fun k => spec_powInts.f k (mkS a) n) (fit (numOf a ^ n.toNat)) := by unfold spec_powInts.f; exact h1
      exact Ev.bind h2 (Ev.now _)
    · rw [if_neg (fun q => hr q.2)]
      by_cases h0 : n ≥ 0
      · have e : spec_inRange.f n 0 200 = some false := by
          unfold spec_inRange.f
          rw [if_pos h0, decide_eq_false (by omega)]
        simp only [e, Option.bind_some, Bool.false_eq_true, if_false]
        exact Ev.now _
      · have e : spec_inRange.f n 0 200 = some false := by
          unfold spec_inRange.f
          rw [if_neg h0]
        simp only [e, Option.bind_some, Bool.false_eq_true, if_false]
        exact Ev.now _
  · simp only [if_neg h]
    rw [if_neg (fun q => h q.1)]
    exact Ev.now _
end Go.Proofs.Ytccdaiagameobaa.IE
