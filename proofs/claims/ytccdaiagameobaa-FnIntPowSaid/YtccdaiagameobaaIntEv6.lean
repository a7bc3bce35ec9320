/- Numbers' texts, and the reading of two numbers. -/
import Derived.Test.YtccdaiagameobaaIntEv5
import Derived.Test.YtccdaiagameobaaQ2
import Derived.Test.YtccdaiagameobaaQ3
set_option linter.unusedSimpArgs false
set_option linter.unusedVariables false
namespace Go.Proofs.Ytccdaiagameobaa.IE
open Go.RowKit Go.Proofs.Ytccdaiagameobaa.Q Go.Proofs.YtccdaiagameobaaW.PrintWords Go.Proofs.IM

theorem impl_text_eq (n : Int) : impl_number_text.f (decide (n < 0)) (dig n.natAbs) = some (fit n) := by
  unfold impl_number_text.f fit
  by_cases e : n.natAbs < 10 ^ 40
  · have h1 : ¬ (dig n.natAbs).length > 40 := by have := (dig_length_le (n := n.natAbs) (k := 40)).2 e; omega
    rw [if_neg h1, if_pos e]
    by_cases e0 : n.natAbs = 0
    · have hn : n = 0 := by omega
      subst hn
      rw [if_pos (by rw [e0, dig_zero]; rfl)]
      rfl
    · have h2 : ¬ (dig n.natAbs).length = 0 := fun h => e0 (dig_nil.1 (List.length_eq_zero_iff.1 h))
      rw [if_neg h2]
      have h3 : ((dig n.natAbs).all fun d => decide (0 ≤ d) && decide (d ≤ 9)) = true := by
        rw [List.all_eq_true]
        intro x hx
        have := dig_Dig n.natAbs x hx
        simp [this.1, this.2]
      rw [if_pos h3]
      congr 2
      unfold txt txtL magTxt mkS
      rw [if_neg e0]
      have hc : bld_chr = chr := rfl
      rw [hc]
      by_cases hn : n < 0
      · simp [hn]
      · simp [hn]
  · have h1 : (dig n.natAbs).length > 40 := by have := mt (dig_length_le (n := n.natAbs) (k := 40)).1 e; omega
    rw [if_pos h1, if_neg e]

theorem impl_tidy_ev (neg : Bool) (l : List Int) (hD : Dig l) (hl : l.length ≤ 1000000) (n : Int) (hv : val l = n.natAbs) (hs : n ≠ 0 → neg = decide (n < 0)) : Ev (fun k => impl_number_tidy.f k neg l) (decide (n < 0), dig n.natAbs) := by
  have ht := impl_trimmed_ev l hl
  rw [trim_eq hD, hv, Int.toNat_natCast] at ht
  unfold impl_number_tidy.f
  refine Ev.bind ht ?_
  by_cases e : n = 0
  · subst e
    have : ((dig (0 : Int).natAbs).length : Int) = 0 := by rw [show (0 : Int).natAbs = 0 from rfl, dig_zero]; rfl
    simp only [if_pos this]
    exact Ev.now _
  · have : ¬ ((dig n.natAbs).length : Int) = 0 := by
      intro h
      have := dig_nil.1 (List.length_eq_zero_iff.1 (by omega : (dig n.natAbs).length = 0))
      omega
    simp only [if_neg this]
    rw [hs e]
    exact Ev.now _
theorem dlen {n m : Nat} (h : (dig n).length ≤ m) : n < 10 ^ m := dig_length_le.1 h
theorem impl_two_ev (a b : List UInt8) (ha : a.length ≤ 1000000000000000) (hb : b.length ≤ 1000000000000000) (h : okInt a = true ∧ okInt b = true) :
    Ev (fun k => impl_twoNumbers.f k (mkS a) (mkS b)) (decide (numOf a < 0), dig (numOf a).natAbs, decide (numOf b < 0), dig (numOf b).natAbs, true) := by
  have h1 := impl_parse_ev a ha
  have h2 := impl_parse_ev b hb
  unfold parsed at h1 h2
  rw [if_pos h.1] at h1
  rw [if_pos h.2] at h2
  unfold impl_twoNumbers.f
  refine Ev.bind h1 (Ev.bind h2 ?_)
  simp only [if_true]
  exact Ev.now _
theorem impl_two_no (a b : List UInt8) (ha : a.length ≤ 1000000000000000) (hb : b.length ≤ 1000000000000000) (h : ¬ (okInt a = true ∧ okInt b = true)) :
    ∃ r : Bool × List Int × Bool × List Int × Bool, r.2.2.2.2 = false ∧ Ev (fun k => impl_twoNumbers.f k (mkS a) (mkS b)) r := by
  have h1 := impl_parse_ev a ha
  have h2 := impl_parse_ev b hb
  unfold impl_twoNumbers.f
  by_cases e : okInt a = true
  · have e2 : ¬ okInt b = true := fun h3 => h ⟨e, h3⟩
    unfold parsed at h1 h2
    rw [if_pos e] at h1
    rw [if_neg e2] at h2
    refine ⟨(decide (numOf a < 0), dig (numOf a).natAbs, false, [], false), rfl, Ev.bind h1 (Ev.bind h2 ?_)⟩
    simp only [if_true]
    exact Ev.now _
  · unfold parsed at h1
    rw [if_neg e] at h1
    refine ⟨(false, [], (parsed b).1, (parsed b).2.1, false), rfl, Ev.bind h1 (Ev.bind h2 ?_)⟩
    simp only [Bool.false_eq_true, if_false]
    exact Ev.now _
theorem two_false {α : Type} {r : Bool × List Int × Bool × List Int × Bool} {f g : Nat → Option α} {x : α} (h : r.2.2.2.2 = false) (hg : Ev g x) : Ev (fun n => if r.2.2.2.2 = true then f n else g n) x := by
  rw [h]; simpa using hg

/-- A result of two integers, by an operation on them; none if one is no integer. -/
def res2 (op : Int → Int → Int) (a b : List UInt8) : ByteArray × Bool := if okInt a = true ∧ okInt b = true then fit (op (numOf a) (numOf b)) else (⟨#[]⟩, false)
theorem ok_len {a : List UInt8} (h : okInt a = true) : (dig (numOf a).natAbs).length ≤ 40 := dig_length_le.2 (ok_txt h).2.1

end Go.Proofs.Ytccdaiagameobaa.IE
