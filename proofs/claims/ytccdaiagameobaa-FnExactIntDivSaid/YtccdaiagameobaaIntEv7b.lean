/- What the program's quotients and rests of integers come to, and the reference's. -/
import Derived.Test.YtccdaiagameobaaIntEv6
import Derived.Test.YtccdaiagameobaaIntEv3
import Derived.Test.YtccdaiagameobaaQ25
import Derived.Test.YtccdaiagameobaaQ27
import Derived.Test.YtccdaiagameobaaQ32
import Derived.Test.YtccdaiagameobaaQ33
set_option linter.unusedSimpArgs false
set_option linter.unusedVariables false
namespace Go.Proofs.Ytccdaiagameobaa.IE
open Go.RowKit Go.Proofs.Ytccdaiagameobaa.Q Go.Proofs.YtccdaiagameobaaW.PrintWords Go.Proofs.IM

/-- The quotient rounded down, and the rest on the divisor's side. -/
def quoI (n m : Int) : Int := if (decide (n < 0) != decide (m < 0)) = true then -(if n.natAbs % m.natAbs = 0 then ((n.natAbs / m.natAbs : Nat) : Int) else (n.natAbs / m.natAbs : Nat) + 1) else (n.natAbs / m.natAbs : Nat)
def remA (n m : Int) : Nat := if n.natAbs % m.natAbs = 0 then 0 else if (decide (n < 0) != decide (m < 0)) = true then m.natAbs - n.natAbs % m.natAbs else n.natAbs % m.natAbs
def remI (n m : Int) : Int := if m < 0 then -(remA n m : Int) else remA n m
theorem dig_le_len {a b L : Nat} (h : a ≤ b) (hb : (dig b).length ≤ L) : (dig a).length ≤ L :=
  dig_length_le.2 (Nat.lt_of_le_of_lt h (dig_length_le.1 hb))
theorem impl_parts_ev (n m : Int) (hm0 : m ≠ 0) (hn : (dig n.natAbs).length ≤ 400) (hm : (dig m.natAbs).length ≤ 400) :
    Ev (fun k => impl_number_parts.f k (decide (n < 0)) (dig n.natAbs) (decide (m < 0)) (dig m.natAbs)) (decide (quoI n m < 0), dig (quoI n m).natAbs, decide (remI n m < 0), dig (remI n m).natAbs) := by
  unfold impl_number_parts.f
  have hmp : 0 < m.natAbs := by omega
  refine Ev.bind (impl_magDiv_ev n.natAbs m.natAbs hmp (by omega) (by omega)) ?_
  have hq : n.natAbs / m.natAbs ≤ n.natAbs := Nat.div_le_self _ _
  have hr : n.natAbs % m.natAbs < m.natAbs := Nat.mod_lt _ hmp
  have hlq : (dig (n.natAbs / m.natAbs)).length ≤ 400 := dig_le_len hq hn
  have hlr : (dig (n.natAbs % m.natAbs)).length ≤ 400 := dig_le_len (Nat.le_of_lt hr) hm
  generalize hQ : (if (decide (n < 0) != decide (m < 0)) = true then -((n.natAbs / m.natAbs : Nat) : Int) else ((n.natAbs / m.natAbs : Nat) : Int)) = Q
  generalize hR : (if decide (n < 0) = true then -((n.natAbs % m.natAbs : Nat) : Int) else ((n.natAbs % m.natAbs : Nat) : Int)) = R
  have hQa : Q.natAbs = n.natAbs / m.natAbs := by
    rw [← hQ]
    split
    · rw [Int.natAbs_neg, Int.natAbs_natCast]
    · rw [Int.natAbs_natCast]
  have hRa : R.natAbs = n.natAbs % m.natAbs := by
    rw [← hR]
    split
    · rw [Int.natAbs_neg, Int.natAbs_natCast]
    · rw [Int.natAbs_natCast]
  have e1 := impl_tidy_ev (decide (n < 0) != decide (m < 0)) (dig (n.natAbs / m.natAbs)) (dig_Dig _) (by omega) Q (by rw [val_dig, hQa]) (fun h => by
    rw [← hQ] at h ⊢
    by_cases c : (decide (n < 0) != decide (m < 0)) = true
    · rw [c]; simp only [if_true]; rw [if_pos c] at h; symm; simp; omega
    · have c' : (decide (n < 0) != decide (m < 0)) = false := by simpa using c
      rw [c']; simp; omega)
  have e2 := impl_tidy_ev (decide (n < 0)) (dig (n.natAbs % m.natAbs)) (dig_Dig _) (by omega) R (by rw [val_dig, hRa]) (fun h => by
    rw [← hR] at h ⊢
    by_cases c : n < 0
    · simp only [c, decide_true, if_true] at h ⊢; symm; simp; omega
    · simp only [c, decide_false, Bool.false_eq_true, if_false]; symm; simp; omega)
  refine Ev.bind e1 (Ev.bind e2 ?_)
  have hlQ : (dig Q.natAbs).length ≤ 400 := by rw [hQa]; exact hlq
  have hlR : (dig R.natAbs).length ≤ 400 := by rw [hRa]; exact hlr
  by_cases c0 : n.natAbs % m.natAbs = 0
  · have h1 : ¬ ((dig R.natAbs).length : Int) > 0 := by rw [hRa, c0, dig_zero]; simp
    simp only [if_neg h1]
    refine Ev.step (fun k => impl_number_parts.j0.eq_2 ..) ?_
    simp only [Bool.false_eq_true, if_false]
    have hq2 : Q = quoI n m := by unfold quoI; rw [← hQ, if_pos c0]
    have hr2 : R = remI n m := by unfold remI remA; rw [← hR, if_pos c0, c0]; simp
    rw [hq2, hr2]
    exact Ev.now _
  · have h1 : ((dig R.natAbs).length : Int) > 0 := by
      have : (dig R.natAbs).length ≠ 0 := fun h => c0 (by rw [← hRa]; exact dig_nil.1 (List.length_eq_zero_iff.1 h))
      omega
    simp only [if_pos h1]
    refine Ev.step (fun k => impl_number_parts.j0.eq_2 ..) ?_
    have hRn : decide (R < 0) = decide (n < 0) := by
      rw [← hR]
      by_cases c : n < 0
      · simp only [c, decide_true, if_true]; simp; omega
      · simp only [c, decide_false, Bool.false_eq_true, if_false]; simp; omega
    by_cases c : (decide (n < 0) != decide (m < 0)) = true
    · have hc : (decide (R < 0) != decide (m < 0)) = true := by rw [hRn]; exact c
      simp only [hc, if_true]
      have hone : ([1] : List Int) = dig (-1 : Int).natAbs := by rw [show (-1 : Int).natAbs = 1 from rfl, dig_pos (by decide)]; simp [dig_zero]
      have p1 := impl_plus_ev Q (-1) (by omega) (by rw [← hone]; simp)
      rw [← hone, show decide ((-1 : Int) < 0) = true from rfl] at p1
      have p2 := impl_plus_ev R m (by omega) (by omega)
      refine Ev.bind p1 (Ev.bind p2 ?_)
      have hq2 : Q + -1 = quoI n m := by unfold quoI; rw [← hQ, if_pos c, if_pos c, if_neg c0]; omega
      have hr2 : R + m = remI n m := by
        unfold remI remA
        rw [if_neg c0, if_pos c, ← hR]
        by_cases cm : m < 0
        · have cn : ¬ n < 0 := by simpa [cm] using c
          simp only [cn, decide_false, Bool.false_eq_true, if_false, if_pos cm]; omega
        · have cn : n < 0 := by simpa [cm] using c
          simp only [cn, decide_true, if_true, if_neg cm]; omega
      rw [hq2, hr2]
      exact Ev.now _
    · have c' : (decide (n < 0) != decide (m < 0)) = false := by simpa using c
      have hc : (decide (R < 0) != decide (m < 0)) = false := by rw [hRn]; exact c'
      simp only [hc, Bool.false_eq_true, if_false]
      have hq2 : Q = quoI n m := by unfold quoI; rw [← hQ, if_neg c, if_neg c]
      have hr2 : R = remI n m := by
        unfold remI remA
        rw [if_neg c0, if_neg c, ← hR]
        have cc : decide (n < 0) = decide (m < 0) := by simpa using c'
        by_cases cm : m < 0
        · have cn : n < 0 := by simpa [cm] using cc
          simp only [cn, decide_true, if_true, if_pos cm]
        · have cn : ¬ n < 0 := by simpa [cm] using cc
          simp only [cn, decide_false, Bool.false_eq_true, if_false, if_neg cm]
      rw [hq2, hr2]
      exact Ev.now _
theorem quo_small (n m : Int) (hm0 : m ≠ 0) : (quoI n m).natAbs ≤ n.natAbs := by
  have hmp : 0 < m.natAbs := by omega
  have hd := Nat.div_add_mod n.natAbs m.natAbs
  have hr : n.natAbs % m.natAbs < m.natAbs := Nat.mod_lt _ hmp
  have hq : n.natAbs / m.natAbs ≤ n.natAbs := Nat.div_le_self _ _
  unfold quoI
  by_cases c : (decide (n < 0) != decide (m < 0)) = true
  · rw [if_pos c]
    by_cases c0 : n.natAbs % m.natAbs = 0
    · rw [if_pos c0, Int.natAbs_neg, Int.natAbs_natCast]; exact hq
    · rw [if_neg c0]
      have h2 : 2 * (n.natAbs / m.natAbs) ≤ m.natAbs * (n.natAbs / m.natAbs) := Nat.mul_le_mul_right _ (by omega)
      generalize n.natAbs / m.natAbs = q at *
      omega
  · rw [if_neg c, Int.natAbs_natCast]; exact hq
theorem remA_lt (n m : Int) (hm0 : m ≠ 0) : remA n m < m.natAbs := by
  have hmp : 0 < m.natAbs := by omega
  have hr : n.natAbs % m.natAbs < m.natAbs := Nat.mod_lt _ hmp
  unfold remA
  split
  · omega
  · split <;> omega
/-- A quotient or a rest: none by zero. -/
def res2z (op : Int → Int → Int) (a b : List UInt8) : ByteArray × Bool := if okInt a = true ∧ okInt b = true ∧ numOf b ≠ 0 then (txt (op (numOf a) (numOf b)), true) else (⟨#[]⟩, false)
theorem zero_iff {b : List UInt8} (h : okInt b = true) : b = [48] ↔ numOf b = 0 := by
  have := ok_txt h
  constructor
  · rintro rfl; decide +kernel
  · intro h0; rw [h0] at this; rw [this.1]; decide
theorem zero_len {b : List UInt8} : (((dig (numOf b).natAbs).length : Int) == 0) = decide (numOf b = 0) := by
  rw [Bool.eq_iff_iff, beq_iff_eq, decide_eq_true_eq]
  constructor
  · intro h
    have := dig_nil.1 (List.length_eq_zero_iff.1 (by omega : (dig (numOf b).natAbs).length = 0))
    omega
  · intro h; rw [h, show (0 : Int).natAbs = 0 from rfl, dig_zero]; rfl
theorem fit_small {n : Int} (h : n.natAbs < 10 ^ 40) : fit n = (txt n, true) := by unfold fit; rw [if_pos h]
theorem impl_IntDiv_ev (a b : List UInt8) (ha : a.length ≤ 1000000000000000) (hb : b.length ≤ 1000000000000000) : Ev (fun k => impl_IntDiv.f k (mkS a) (mkS b)) (res2z quoI a b) := by
  unfold impl_IntDiv.f res2z
  by_cases h : okInt a = true ∧ okInt b = true
  · refine Ev.bind (impl_two_ev a b ha hb h) ?_
    simp only [if_true, zero_len]
    refine Ev.step (fun k => impl_IntDiv.j0.eq_2 ..) ?_
    have l1 := ok_len h.1
    have l2 := ok_len h.2
    by_cases hz : numOf b = 0
    · rw [if_neg (fun q => q.2.2 hz)]
      simp only [hz, decide_true, if_true]
      exact Ev.now _
    · rw [if_pos ⟨h.1, h.2, hz⟩]
      simp only [hz, decide_false, Bool.false_eq_true, if_false]
      refine Ev.bind (impl_parts_ev _ _ hz (by omega) (by omega)) ?_
      simp only [impl_text_eq, Option.bind_some]
      rw [fit_small (Nat.lt_of_le_of_lt (quo_small _ _ hz) (ok_txt h.1).2.1)]
      exact Ev.now _
  · rw [if_neg (fun q => h ⟨q.1, q.2.1⟩)]
    obtain ⟨r, hr, he⟩ := impl_two_no a b ha hb h
    refine Ev.bind he (two_false hr ?_)
    refine Ev.step (fun k => impl_IntDiv.j0.eq_2 ..) ?_
    simp only [if_true]
    exact Ev.now _
theorem impl_IntMod_ev (a b : List UInt8) (ha : a.length ≤ 1000000000000000) (hb : b.length ≤ 1000000000000000) : Ev (fun k => impl_IntMod.f k (mkS a) (mkS b)) (res2z remI a b) := by
  unfold impl_IntMod.f res2z
  by_cases h : okInt a = true ∧ okInt b = true
  · refine Ev.bind (impl_two_ev a b ha hb h) ?_
    simp only [if_true, zero_len]
    refine Ev.step (fun k => impl_IntMod.j0.eq_2 ..) ?_
    have l1 := ok_len h.1
    have l2 := ok_len h.2
    by_cases hz : numOf b = 0
    · rw [if_neg (fun q => q.2.2 hz)]
      simp only [hz, decide_true, if_true]
      exact Ev.now _
    · rw [if_pos ⟨h.1, h.2, hz⟩]
      simp only [hz, decide_false, Bool.false_eq_true, if_false]
      refine Ev.bind (impl_parts_ev _ _ hz (by omega) (by omega)) ?_
      simp only [impl_text_eq, Option.bind_some]
      have hsm : (remI (numOf a) (numOf b)).natAbs < 10 ^ 40 := by
        have h1 := remA_lt (numOf a) (numOf b) hz
        have h2 := (ok_txt h.2).2.1
        unfold remI
        split <;> omega
      rw [fit_small hsm]
      exact Ev.now _
  · rw [if_neg (fun q => h ⟨q.1, q.2.1⟩)]
    obtain ⟨r, hr, he⟩ := impl_two_no a b ha hb h
    refine Ev.bind he (two_false hr ?_)
    refine Ev.step (fun k => impl_IntMod.j0.eq_2 ..) ?_
    simp only [if_true]
    exact Ev.now _

theorem spec_divInts_ev (a b : List UInt8) (h1 : okInt a = true) (h2 : okInt b = true) (hz : numOf b ≠ 0) : Ev (fun k => spec_divInts.f k (mkS a) (mkS b)) (txt (quoI (numOf a) (numOf b)), txt (remI (numOf a) (numOf b))) := by
  have l1 := ok_len h1
  have l2 := ok_len h2
  unfold spec_divInts.f
  refine Ev.bind (spec_digits_ev a h1) (Ev.bind (spec_digits_ev b h2) ?_)
  generalize numOf a = n at *
  generalize numOf b = m at *
  have hmp : 0 < m.natAbs := by omega
  refine Ev.bind (spec_dividedDigits_ev n.natAbs m.natAbs hmp (by omega) (by omega)) ?_
  have hq : n.natAbs / m.natAbs ≤ n.natAbs := Nat.div_le_self _ _
  have hr : n.natAbs % m.natAbs < m.natAbs := Nat.mod_lt _ hmp
  have hlq : (dig (n.natAbs / m.natAbs)).length ≤ 40 := dig_length_le.2 (Nat.lt_of_le_of_lt hq (dlen l1))
  have hlr : (dig (n.natAbs % m.natAbs)).length ≤ 40 := dig_length_le.2 (Nat.lt_trans hr (dlen l2))
  have hlq1 : (dig (n.natAbs / m.natAbs + 1)).length ≤ 41 := dig_length_le.2 (by rw [Nat.pow_succ]; have := dlen hlq; omega)
  have hrem : (if decide (m < 0) = true then -(remA n m : Int) else (remA n m : Int)) = remI n m := by unfold remI; simp only [decide_eq_true_eq]
  by_cases c0 : n.natAbs % m.natAbs = 0
  · have e1 : ¬ ((dig (n.natAbs % m.natAbs)).length : Int) > 0 := by rw [c0, dig_zero]; simp
    simp only [if_neg e1]
    refine Ev.step (fun k => spec_divInts.j0.eq_2 ..) ?_
    simp only [Bool.false_eq_true, if_false]
    refine Ev.bind (spec_integer_ev _ _ (by omega)) (Ev.bind (spec_integer_ev _ _ (by omega)) ?_)
    have hq2 : (if (decide (n < 0) != decide (m < 0)) = true then -((n.natAbs / m.natAbs : Nat) : Int) else ((n.natAbs / m.natAbs : Nat) : Int)) = quoI n m := by unfold quoI; rw [if_pos c0]
    have hr2 : n.natAbs % m.natAbs = remA n m := by unfold remA; rw [if_pos c0, c0]
    rw [hq2, hr2, hrem]
    exact Ev.now _
  · have e1 : ((dig (n.natAbs % m.natAbs)).length : Int) > 0 := by
      have : (dig (n.natAbs % m.natAbs)).length ≠ 0 := fun h => c0 (dig_nil.1 (List.length_eq_zero_iff.1 h))
      omega
    simp only [if_pos e1]
    refine Ev.step (fun k => spec_divInts.j0.eq_2 ..) ?_
    by_cases c : (decide (n < 0) != decide (m < 0)) = true
    · simp only [if_pos c]
      have hone : ([1] : List Int) = dig 1 := by rw [dig_pos (by decide)]; simp [dig_zero]
      have p1 := spec_plus_ev (n.natAbs / m.natAbs) 1 (by omega) (by rw [← hone]; simp)
      rw [← hone] at p1
      refine Ev.bind p1 (Ev.bind (spec_less_ev m.natAbs (n.natAbs % m.natAbs) (by omega) (by omega)) ?_)
      have hl3 : (dig (m.natAbs - n.natAbs % m.natAbs)).length ≤ 40 := dig_length_le.2 (Nat.lt_of_le_of_lt (Nat.sub_le _ _) (dlen l2))
      refine Ev.bind (spec_integer_ev _ _ (by omega)) (Ev.bind (spec_integer_ev _ _ (by omega)) ?_)
      have hq2 : (if (decide (n < 0) != decide (m < 0)) = true then -((n.natAbs / m.natAbs + 1 : Nat) : Int) else ((n.natAbs / m.natAbs + 1 : Nat) : Int)) = quoI n m := by unfold quoI; rw [if_pos c, if_pos c, if_neg c0]; rfl
      have hr2 : m.natAbs - n.natAbs % m.natAbs = remA n m := by unfold remA; rw [if_neg c0, if_pos c]
      rw [hq2, hr2, hrem]
      exact Ev.now _
    · simp only [if_neg c]
      refine Ev.bind (spec_integer_ev _ _ (by omega)) (Ev.bind (spec_integer_ev _ _ (by omega)) ?_)
      have hq2 : (if (decide (n < 0) != decide (m < 0)) = true then -((n.natAbs / m.natAbs : Nat) : Int) else ((n.natAbs / m.natAbs : Nat) : Int)) = quoI n m := by unfold quoI; rw [if_neg c, if_neg c]
      have hr2 : n.natAbs % m.natAbs = remA n m := by unfold remA; rw [if_neg c0, if_neg c]
      rw [hq2, hr2, hrem]
      exact Ev.now _
theorem spec_IntDiv_ev (a b : List UInt8) (ha : a.length ≤ 1000000000000000) (hb : b.length ≤ 1000000000000000) : Ev (fun k => spec_IntDiv.f k (mkS a) (mkS b)) (res2z quoI a b) := by
  unfold spec_IntDiv.f res2z
  refine Ev.bind (spec_valid_ev a ha) ?_
  by_cases h1 : okInt a = true
  · simp only [if_pos h1]
    refine Ev.bind (spec_valid_ev b hb) ?_
    by_cases h2 : okInt b = true
    · simp only [if_pos h2, mkS_toList]
      by_cases hz : b = [48]
      · simp only [if_pos hz]
        rw [if_neg (fun q => q.2.2 ((zero_iff h2).1 hz))]
        exact Ev.now _
      · simp only [if_neg hz]
        have hz' : numOf b ≠ 0 := fun q => hz ((zero_iff h2).2 q)
        rw [if_pos ⟨h1, h2, hz'⟩]
        exact Ev.bind (spec_divInts_ev a b h1 h2 hz') (Ev.now _)
    · simp only [if_neg h2]
      rw [if_neg (fun h => h2 h.2.1)]
      exact Ev.now _
  · simp only [if_neg h1]
    rw [if_neg (fun h => h1 h.1)]
    exact Ev.now _
theorem spec_IntMod_ev (a b : List UInt8) (ha : a.length ≤ 1000000000000000) (hb : b.length ≤ 1000000000000000) : Ev (fun k => spec_IntMod.f k (mkS a) (mkS b)) (res2z remI a b) := by
  unfold spec_IntMod.f res2z
  refine Ev.bind (spec_valid_ev a ha) ?_
  by_cases h1 : okInt a = true
  · simp only [if_pos h1]
    refine Ev.bind (spec_valid_ev b hb) ?_
    by_cases h2 : okInt b = true
    · simp only [if_pos h2, mkS_toList]
      by_cases hz : b = [48]
      · simp only [if_pos hz]
        rw [if_neg (fun q => q.2.2 ((zero_iff h2).1 hz))]
        exact Ev.now _
      · simp only [if_neg hz]
        have hz' : numOf b ≠ 0 := fun q => hz ((zero_iff h2).2 q)
        rw [if_pos ⟨h1, h2, hz'⟩]
        exact Ev.bind (spec_divInts_ev a b h1 h2 hz') (Ev.now _)
    · simp only [if_neg h2]
      rw [if_neg (fun h => h2 h.2.1)]
      exact Ev.now _
  · simp only [if_neg h1]
    rw [if_neg (fun h => h1 h.1)]
    exact Ev.now _
end Go.Proofs.Ytccdaiagameobaa.IE
