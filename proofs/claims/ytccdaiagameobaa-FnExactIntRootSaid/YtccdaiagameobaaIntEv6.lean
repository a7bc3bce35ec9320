/- What the program's sums and differences of integers come to, and the reference's. -/
import Derived.Test.YtccdaiagameobaaIntEv5
import Derived.Test.YtccdaiagameobaaIntEv2
import Derived.Test.YtccdaiagameobaaQ2
import Derived.Test.YtccdaiagameobaaQ3
import Derived.Test.YtccdaiagameobaaQ7
import Derived.Test.YtccdaiagameobaaQ15
import Derived.Test.YtccdaiagameobaaQ16
import Derived.Test.YtccdaiagameobaaQ20
import Derived.Test.YtccdaiagameobaaQ21
import Derived.Test.YtccdaiagameobaaQ24
import Derived.Test.YtccdaiagameobaaQ30
import Derived.Test.YtccdaiagameobaaQ31
set_option linter.unusedSimpArgs false
set_option linter.unusedVariables false
namespace Go.Proofs.Ytccdaiagameobaa.IE
open Go.RowKit Go.Proofs.Ytccdaiagameobaa.Q Go.Proofs.YtccdaiagameobaaW.PrintWords Go.Proofs.IM

theorem impl_text_eq (n : Int) : impl_number_text.f (decide (n < 0)) (dig n.natAbs) = some (fit n) := by
  unfold impl_number_text.f fit
  by_cases e : n.natAbs < 10 ^ 40
  · have h1 : ¬ (dig n.natAbs).length > 40 := by have := (dig_length_le (n := n.natAbs) (k := 40)).2 e; omega
    rw [if_neg h1, if_pos e]
    by_cases e0 : n.natAbs = 0
    · have hn : n = 0 := by omega
      subst hn
      rw [if_pos (by rw [e0, dig_zero]; rfl)]
      rfl
    · have h2 : ¬ (dig n.natAbs).length = 0 := fun h => e0 (dig_nil.1 (List.length_eq_zero_iff.1 h))
      rw [if_neg h2]
      have h3 : ((dig n.natAbs).all fun d => decide (0 ≤ d) && decide (d ≤ 9)) = true := by
        rw [List.all_eq_true]
        intro x hx
        have := dig_Dig n.natAbs x hx
        simp [this.1, this.2]
      rw [if_pos h3]
      congr 2
      unfold txt txtL magTxt mkS
      rw [if_neg e0]
      have hc : bld_chr = chr := rfl
      rw [hc]
      by_cases hn : n < 0
      · simp [hn]
      · simp [hn]
  · have h1 : (dig n.natAbs).length > 40 := by have := mt (dig_length_le (n := n.natAbs) (k := 40)).1 e; omega
    rw [if_pos h1, if_neg e]

theorem impl_tidy_ev (neg : Bool) (l : List Int) (hD : Dig l) (hl : l.length ≤ 1000000) (n : Int) (hv : val l = n.natAbs) (hs : n ≠ 0 → neg = decide (n < 0)) : Ev (fun k => impl_number_tidy.f k neg l) (decide (n < 0), dig n.natAbs) := by
  have ht := impl_trimmed_ev l hl
  rw [trim_eq hD, hv, Int.toNat_natCast] at ht
  unfold impl_number_tidy.f
  refine Ev.bind ht ?_
  by_cases e : n = 0
  · subst e
    have : ((dig (0 : Int).natAbs).length : Int) = 0 := by rw [show (0 : Int).natAbs = 0 from rfl, dig_zero]; rfl
    simp only [if_pos this]
    exact Ev.now _
  · have : ¬ ((dig n.natAbs).length : Int) = 0 := by
      intro h
      have := dig_nil.1 (List.length_eq_zero_iff.1 (by omega : (dig n.natAbs).length = 0))
      omega
    simp only [if_neg this]
    rw [hs e]
    exact Ev.now _
theorem dlen {n m : Nat} (h : (dig n).length ≤ m) : n < 10 ^ m := dig_length_le.1 h
theorem impl_plus_ev (n m : Int) (hn : (dig n.natAbs).length ≤ 40000) (hm : (dig m.natAbs).length ≤ 40000) :
    Ev (fun k => impl_number_plus.f k (decide (n < 0)) (dig n.natAbs) (decide (m < 0)) (dig m.natAbs)) (decide (n + m < 0), dig (n + m).natAbs) := by
  unfold impl_number_plus.f
  by_cases hs : (decide (n < 0) == decide (m < 0)) = true
  · simp only [if_pos hs]
    have hs' : (n < 0 ↔ m < 0) := by simpa using hs
    obtain ⟨R, hR, hll, hv, he⟩ := impl_add_ev n.natAbs m.natAbs (by omega) (by omega)
    refine Ev.bind he ?_
    exact Ev.bind (impl_tidy_ev _ R hR (by omega) (n + m) (by omega) (fun h => by congr 1; rw [eq_iff_iff]; omega)) (Ev.now _)
  · simp only [if_neg hs]
    have hs' : ¬ (n < 0 ↔ m < 0) := by simpa using hs
    refine Ev.bind (impl_compare_ev n.natAbs m.natAbs (by omega) (by omega)) ?_
    by_cases hc : m.natAbs ≤ n.natAbs
    · have h1 : cmp (n.natAbs : Int) m.natAbs ≥ 0 := by unfold cmp; rw [if_neg (by omega)]; split <;> decide
      simp only [if_pos h1]
      refine Ev.bind (impl_sub_ev n.natAbs m.natAbs hc (by omega)) ?_
      have hl : (dig (n.natAbs - m.natAbs)).length ≤ 1000000 := by
        have : (dig (n.natAbs - m.natAbs)).length ≤ (dig n.natAbs).length := dig_length_le.2 (Nat.lt_of_le_of_lt (Nat.sub_le _ _) (dig_lt_pow _))
        omega
      exact Ev.bind (impl_tidy_ev _ _ (dig_Dig _) hl (n + m) (by rw [val_dig]; omega) (fun h => by congr 1; rw [eq_iff_iff]; omega)) (Ev.now _)
    · have h1 : ¬ cmp (n.natAbs : Int) m.natAbs ≥ 0 := by unfold cmp; rw [if_pos (by omega)]; decide
      simp only [if_neg h1]
      refine Ev.bind (impl_sub_ev m.natAbs n.natAbs (by omega) (by omega)) ?_
      have hl : (dig (m.natAbs - n.natAbs)).length ≤ 1000000 := by
        have : (dig (m.natAbs - n.natAbs)).length ≤ (dig m.natAbs).length := dig_length_le.2 (Nat.lt_of_le_of_lt (Nat.sub_le _ _) (dig_lt_pow _))
        omega
      exact Ev.bind (impl_tidy_ev _ _ (dig_Dig _) hl (n + m) (by rw [val_dig]; omega) (fun h => by congr 1; rw [eq_iff_iff]; omega)) (Ev.now _)
theorem impl_minus_ev (n : Int) (hn : (dig n.natAbs).length ≤ 40000) : Ev (fun k => impl_number_minus.f k (decide (n < 0)) (dig n.natAbs)) (decide (-n < 0), dig (-n).natAbs) := by
  unfold impl_number_minus.f
  exact Ev.bind (impl_tidy_ev _ _ (dig_Dig _) (by omega) (-n) (by rw [val_dig]; omega) (fun h => by rw [← decide_not]; congr 1; rw [eq_iff_iff]; omega)) (Ev.now _)

theorem impl_two_ev (a b : List UInt8) (ha : a.length ≤ 1000000000000000) (hb : b.length ≤ 1000000000000000) (h : okInt a = true ∧ okInt b = true) :
    Ev (fun k => impl_twoNumbers.f k (mkS a) (mkS b)) (decide (numOf a < 0), dig (numOf a).natAbs, decide (numOf b < 0), dig (numOf b).natAbs, true) := by
  have h1 := impl_parse_ev a ha
  have h2 := impl_parse_ev b hb
  unfold parsed at h1 h2
  rw [if_pos h.1] at h1
  rw [if_pos h.2] at h2
  unfold impl_twoNumbers.f
  refine Ev.bind h1 (Ev.bind h2 ?_)
  simp only [if_true]
  exact Ev.now _
theorem impl_two_no (a b : List UInt8) (ha : a.length ≤ 1000000000000000) (hb : b.length ≤ 1000000000000000) (h : ¬ (okInt a = true ∧ okInt b = true)) :
    ∃ r : Bool × List Int × Bool × List Int × Bool, r.2.2.2.2 = false ∧ Ev (fun k => impl_twoNumbers.f k (mkS a) (mkS b)) r := by
  have h1 := impl_parse_ev a ha
  have h2 := impl_parse_ev b hb
  unfold impl_twoNumbers.f
  by_cases e : okInt a = true
  · have e2 : ¬ okInt b = true := fun h3 => h ⟨e, h3⟩
    unfold parsed at h1 h2
    rw [if_pos e] at h1
    rw [if_neg e2] at h2
    refine ⟨(decide (numOf a < 0), dig (numOf a).natAbs, false, [], false), rfl, Ev.bind h1 (Ev.bind h2 ?_)⟩
    simp only [if_true]
    exact Ev.now _
  · unfold parsed at h1
    rw [if_neg e] at h1
    refine ⟨(false, [], (parsed b).1, (parsed b).2.1, false), rfl, Ev.bind h1 (Ev.bind h2 ?_)⟩
    simp only [Bool.false_eq_true, if_false]
    exact Ev.now _
theorem two_false {α : Type} {r : Bool × List Int × Bool × List Int × Bool} {f g : Nat → Option α} {x : α} (h : r.2.2.2.2 = false) (hg : Ev g x) : Ev (fun n => if r.2.2.2.2 = true then f n else g n) x := by
  rw [h]; simpa using hg

/-- A result of two integers, by an operation on them; none if one is no integer. -/
def res2 (op : Int → Int → Int) (a b : List UInt8) : ByteArray × Bool := if okInt a = true ∧ okInt b = true then fit (op (numOf a) (numOf b)) else (⟨#[]⟩, false)
theorem ok_len {a : List UInt8} (h : okInt a = true) : (dig (numOf a).natAbs).length ≤ 40 := dig_length_le.2 (ok_txt h).2.1

theorem impl_IntAdd_ev (a b : List UInt8) (ha : a.length ≤ 1000000000000000) (hb : b.length ≤ 1000000000000000) : Ev (fun k => impl_IntAdd.f k (mkS a) (mkS b)) (res2 (· + ·) a b) := by
  unfold impl_IntAdd.f res2
  by_cases h : okInt a = true ∧ okInt b = true
  · rw [if_pos h]
    refine Ev.bind (impl_two_ev a b ha hb h) ?_
    simp only [if_true]
    have l1 := ok_len h.1
    have l2 := ok_len h.2
    refine Ev.bind (impl_plus_ev _ _ (by omega) (by omega)) ?_
    simp only [impl_text_eq, Option.bind_some]
    exact Ev.now _
  · rw [if_neg h]
    obtain ⟨r, hr, he⟩ := impl_two_no a b ha hb h
    exact Ev.bind he (two_false hr (Ev.now _))
theorem impl_IntSub_ev (a b : List UInt8) (ha : a.length ≤ 1000000000000000) (hb : b.length ≤ 1000000000000000) : Ev (fun k => impl_IntSub.f k (mkS a) (mkS b)) (res2 (· - ·) a b) := by
  unfold impl_IntSub.f res2
  by_cases h : okInt a = true ∧ okInt b = true
  · rw [if_pos h]
    refine Ev.bind (impl_two_ev a b ha hb h) ?_
    simp only [if_true]
    have l1 := ok_len h.1
    have l2 := ok_len h.2
    refine Ev.bind (impl_minus_ev _ (by omega)) ?_
    refine Ev.bind (impl_plus_ev _ _ (by omega) (by rw [Int.natAbs_neg]; omega)) ?_
    simp only [impl_text_eq, Option.bind_some]
    rw [← Int.sub_eq_add_neg]
    exact Ev.now _
  · rw [if_neg h]
    obtain ⟨r, hr, he⟩ := impl_two_no a b ha hb h
    exact Ev.bind he (two_false hr (Ev.now _))

theorem impl_IntOk_ev (a : List UInt8) (ha : a.length ≤ 1000000000000000) : Ev (fun k => impl_IntOk.f k (mkS a)) (okInt a) := by
  unfold impl_IntOk.f
  have h := impl_parse_ev a ha
  unfold parsed at h
  refine Ev.bind h ?_
  by_cases e : okInt a = true
  · rw [if_pos e, e]; exact Ev.now _
  · rw [if_neg e]
    have : okInt a = false := by simpa using e
    rw [this]; exact Ev.now _
theorem spec_IntOk_ev (a : List UInt8) (ha : a.length ≤ 1000000000000000) : Ev (fun k => spec_IntOk.f k (mkS a)) (okInt a) := by
  unfold spec_IntOk.f
  exact Ev.bind (spec_valid_ev a ha) (Ev.now _)

/-- The reference: the sum of two integers in their own texts. -/
theorem spec_addInts_ev (a b : List UInt8) (h1 : okInt a = true) (h2 : okInt b = true) : Ev (fun k => spec_addInts.f k (mkS a) (mkS b)) (fit (numOf a + numOf b)) := by
  have l1 := ok_len h1
  have l2 := ok_len h2
  unfold spec_addInts.f
  refine Ev.bind (spec_digits_ev a h1) (Ev.bind (spec_digits_ev b h2) ?_)
  generalize numOf a = n at *
  generalize numOf b = m at *
  have hb1 := dlen l1
  have hb2 := dlen l2
  by_cases hs : (decide (n < 0) == decide (m < 0)) = true
  · simp only [if_pos hs]
    have hs' : (n < 0 ↔ m < 0) := by simpa using hs
    refine Ev.bind (spec_plus_ev n.natAbs m.natAbs (by omega) (by omega)) ?_
    have hl : (dig (n.natAbs + m.natAbs)).length ≤ 1000 := by
      have : (dig (n.natAbs + m.natAbs)).length ≤ 41 := dig_length_le.2 (by rw [Nat.pow_succ]; omega)
      omega
    refine Ev.bind (spec_fitting_ev _ _ hl) ?_
    have he : (if decide (n < 0) = true then -((n.natAbs + m.natAbs : Nat) : Int) else ((n.natAbs + m.natAbs : Nat) : Int)) = n + m := by
      by_cases hn : n < 0
      · simp only [hn, decide_true, if_true]; omega
      · simp only [hn, decide_false, Bool.false_eq_true, if_false]; omega
    rw [he]
    exact Ev.now _
  · simp only [if_neg hs]
    have hs' : ¬ (n < 0 ↔ m < 0) := by simpa using hs
    refine Ev.bind (spec_compare_ev n.natAbs m.natAbs (by omega) (by omega)) ?_
    by_cases hc : n.natAbs < m.natAbs
    · have h3 : cmp (n.natAbs : Int) m.natAbs < 0 := by unfold cmp; rw [if_pos (by omega)]; decide
      simp only [if_pos h3]
      refine Ev.bind (spec_less_ev m.natAbs n.natAbs (by omega) (by omega)) ?_
      have hl : (dig (m.natAbs - n.natAbs)).length ≤ 1000 := by
        have : (dig (m.natAbs - n.natAbs)).length ≤ 40 := dig_length_le.2 (by omega)
        omega
      refine Ev.bind (spec_fitting_ev _ _ hl) ?_
      have he : (if decide (m < 0) = true then -((m.natAbs - n.natAbs : Nat) : Int) else ((m.natAbs - n.natAbs : Nat) : Int)) = n + m := by
        by_cases hn : m < 0
        · simp only [hn, decide_true, if_true]; omega
        · simp only [hn, decide_false, Bool.false_eq_true, if_false]; omega
      rw [he]
      exact Ev.now _
    · have h3 : ¬ cmp (n.natAbs : Int) m.natAbs < 0 := by unfold cmp; rw [if_neg (by omega)]; split <;> decide
      simp only [if_neg h3]
      refine Ev.bind (spec_less_ev n.natAbs m.natAbs (by omega) (by omega)) ?_
      have hl : (dig (n.natAbs - m.natAbs)).length ≤ 1000 := by
        have : (dig (n.natAbs - m.natAbs)).length ≤ 40 := dig_length_le.2 (by omega)
        omega
      refine Ev.bind (spec_fitting_ev _ _ hl) ?_
      have he : (if decide (n < 0) = true then -((n.natAbs - m.natAbs : Nat) : Int) else ((n.natAbs - m.natAbs : Nat) : Int)) = n + m := by
        by_cases hn : n < 0
        · simp only [hn, decide_true, if_true]; omega
        · simp only [hn, decide_false, Bool.false_eq_true, if_false]; omega
      rw [he]
      exact Ev.now _
theorem spec_IntAdd_ev (a b : List UInt8) (ha : a.length ≤ 1000000000000000) (hb : b.length ≤ 1000000000000000) : Ev (fun k => spec_IntAdd.f k (mkS a) (mkS b)) (res2 (· + ·) a b) := by
  unfold spec_IntAdd.f res2
  refine Ev.bind (spec_valid_ev a ha) ?_
  by_cases h1 : okInt a = true
  · simp only [if_pos h1]
    refine Ev.bind (spec_valid_ev b hb) ?_
    by_cases h2 : okInt b = true
    · simp only [if_pos h2]
      rw [if_pos ⟨h1, h2⟩]
      exact Ev.bind (spec_addInts_ev a b h1 h2) (Ev.now _)
    · simp only [if_neg h2]
      rw [if_neg (fun h => h2 h.2)]
      exact Ev.now _
  · simp only [if_neg h1]
    rw [if_neg (fun h => h1 h.1)]
    exact Ev.now _
theorem spec_negInt_ev (a : List UInt8) (h1 : okInt a = true) : Ev (fun k => spec_negInt.f k (mkS a)) (txt (-(numOf a))) := by
  unfold spec_negInt.f
  refine Ev.bind (spec_digits_ev a h1) ?_
  have l1 := ok_len h1
  refine Ev.bind (spec_integer_ev (numOf a).natAbs _ (by omega)) ?_
  have : (if (!decide (numOf a < 0)) = true then -((numOf a).natAbs : Int) else ((numOf a).natAbs : Int)) = -(numOf a) := by
    by_cases hn : numOf a < 0
    · simp [hn]; omega
    · simp [hn]; omega
  rw [this]
  exact Ev.now _
theorem spec_IntSub_ev (a b : List UInt8) (ha : a.length ≤ 1000000000000000) (hb : b.length ≤ 1000000000000000) : Ev (fun k => spec_IntSub.f k (mkS a) (mkS b)) (res2 (· - ·) a b) := by
  unfold spec_IntSub.f res2
  refine Ev.bind (spec_valid_ev a ha) ?_
  by_cases h1 : okInt a = true
  · simp only [if_pos h1]
    refine Ev.bind (spec_valid_ev b hb) ?_
    refine Ev.step (fun k => spec_IntSub.j0.eq_2 ..) ?_
    by_cases h2 : okInt b = true
    · rw [if_pos ⟨h1, h2⟩, h2]
      simp only [Bool.not_true, Bool.false_eq_true, if_false]
      refine Ev.bind (spec_negInt_ev b h2) ?_
      have hk := txt_ok (-(numOf b)) (by rw [Int.natAbs_neg]; exact (ok_txt h2).2.1)
      have := spec_addInts_ev a (txtL (-(numOf b))) h1 hk.1
      rw [hk.2, ← Int.sub_eq_add_neg] at this
      exact Ev.bind this (Ev.now _)
    · have h3 : okInt b = false := by simpa using h2
      rw [if_neg (fun h => h2 h.2), h3]
      simp only [Bool.not_false, if_true]
      exact Ev.now _
  · simp only [if_neg h1]
    rw [if_neg (fun h => h1 h.1)]
    refine Ev.step (fun k => spec_IntSub.j0.eq_2 ..) ?_
    simp only [if_true]
    exact Ev.now _
end Go.Proofs.Ytccdaiagameobaa.IE
