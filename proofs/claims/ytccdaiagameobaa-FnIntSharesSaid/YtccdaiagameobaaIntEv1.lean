/- What the printed functions on digits come to: trimming, comparing, adding, subtracting. -/
import Derived.Test.YtccdaiagameobaaIntMath
import Derived.Test.YtccdaiagameobaaQ1
import Derived.Test.YtccdaiagameobaaQ4
import Derived.Test.YtccdaiagameobaaQ5
import Derived.Test.YtccdaiagameobaaQ11
set_option linter.unusedSimpArgs false
set_option linter.unusedVariables false
namespace Go.Proofs.Ytccdaiagameobaa.IE
open Go.RowKit Go.Proofs.Ytccdaiagameobaa.Q Go.Proofs.YtccdaiagameobaaW.PrintWords Go.Proofs.IM

theorem w64 {x : Int} (h0 : -1000000000000000000 ≤ x) (h1 : x ≤ 1000000000000000000) : wrap64 x = x := by unfold wrap64; omega
theorem rd_nat (l : List Int) (n : Nat) (i : Int) (h : i = n) : rd l i = l.getD n 0 := by unfold rd; subst h; simp

theorem spec_trimmed_l0 (l : List Int) (hl : l.length ≤ 1000000) : ∀ (n : Nat) (i : Int), i = n → n ≤ l.length → Ev (fun k => spec_trimmed.l0 k l i) (trim (l.take n))
  | 0, i, hi, _ => by
    refine Ev.step (fun k => spec_trimmed.l0.eq_2 ..) ?_
    have h1 : ¬ i > 0 := by omega
    have h2 : 0 ≤ i := by omega
    have h3 : i ≤ (l.length : Int) := by omega
    simp only [if_neg h1, if_pos h2, if_pos h3]
    subst hi
    exact Ev.now _
  | n + 1, i, hi, hn => by
    refine Ev.step (fun k => spec_trimmed.l0.eq_2 ..) ?_
    have h1 : i > 0 := by omega
    have h2 : 0 ≤ i - 1 := by omega
    have h3 : i - 1 < (l.length : Int) := by omega
    have h4 : 0 ≤ i := by omega
    have h5 : i ≤ (l.length : Int) := by omega
    rw [w64 (x := i - 1) (by omega) (by omega), rd_nat l n (i - 1) (by omega)]
    simp only [if_pos h1, if_pos h2, if_pos h3, if_pos h4, if_pos h5]
    rw [take_succ_getD hn]
    by_cases e : l.getD n 0 = 0
    · simp only [if_pos e]
      rw [e, trim_append_zero]
      exact spec_trimmed_l0 l hl n (i - 1) (by omega) (by omega)
    · simp only [if_neg e]
      rw [trim_append_ne _ e, ← take_succ_getD hn, show i.toNat = n + 1 by omega]
      exact Ev.now _
theorem spec_trimmed_ev (l : List Int) (hl : l.length ≤ 1000000) : Ev (fun k => spec_trimmed.f k l) (trim l) := by
  have h := spec_trimmed_l0 l hl l.length _ rfl (Nat.le_refl _)
  rw [List.take_length] at h
  exact Ev.congr (fun k => by simp only [spec_trimmed.f]) h

theorem impl_trimmed_l0 : ∀ (n : Nat) (l : List Int), l.length = n → n ≤ 1000000 → Ev (fun k => impl_trimmed.l0 k l) (trim l)
  | 0, l, hl, _ => by
    refine Ev.step (fun k => impl_trimmed.l0.eq_2 ..) ?_
    obtain rfl := List.length_eq_zero_iff.1 hl
    simp
    exact Ev.now _
  | n + 1, l, hl, hn => by
    refine Ev.step (fun k => impl_trimmed.l0.eq_2 ..) ?_
    have h1 : (l.length : Int) > 0 := by omega
    have h2 : 0 ≤ (l.length : Int) - 1 := by omega
    have h3 : (l.length : Int) - 1 < (l.length : Int) := by omega
    have h4 : (l.length : Int) - 1 ≤ (l.length : Int) := by omega
    rw [w64 (x := (l.length : Int) - 1) (by omega) (by omega), rd_nat l n _ (by omega)]
    simp only [if_pos h1, if_pos h2, if_pos h3, if_pos h4]
    have hl' : l = l.take n ++ [l.getD n 0] := by rw [← take_succ_getD (by omega), List.take_of_length_le (by omega)]
    by_cases e : l.getD n 0 = 0
    · simp only [if_pos e]
      rw [show ((l.length : Int) - 1).toNat = n by omega]
      have ht : trim l = trim (l.take n) := by rw [hl', e, trim_append_zero, List.take_append_of_le_length (by simp; omega), List.take_take]; simp
      rw [ht]
      exact impl_trimmed_l0 n _ (by simp; omega) (by omega)
    · simp only [if_neg e]
      have ht : trim l = l := by rw [hl', trim_append_ne _ e]
      rw [ht]
      exact Ev.now _
theorem impl_trimmed_ev (l : List Int) (hl : l.length ≤ 1000000) : Ev (fun k => impl_trimmed.f k l) (trim l) :=
  Ev.congr (fun k => by simp only [impl_trimmed.f]) (impl_trimmed_l0 _ l rfl hl)

theorem spec_compare_l0 (a b : List Int) (ha : Dig a) (hb : Dig b) (hl : a.length = b.length) (hm : a.length ≤ 1000000) : ∀ (n : Nat) (i : Int), i = (n : Int) - 1 → n ≤ a.length → Ev (fun k => spec_compareDigits.l0 k a b i) (cmp (val (a.take n)) (val (b.take n)))
  | 0, i, hi, _ => by
    refine Ev.step (fun k => spec_compareDigits.l0.eq_2 ..) ?_
    have h1 : ¬ i ≥ 0 := by omega
    simp only [if_neg h1]
    simp [cmp, val]
    exact Ev.now _
  | n + 1, i, hi, hn => by
    refine Ev.step (fun k => spec_compareDigits.l0.eq_2 ..) ?_
    have h1 : i ≥ 0 := by omega
    have h2 : i < (a.length : Int) := by omega
    have h3 : i < (b.length : Int) := by omega
    rw [w64 (x := i - 1) (by omega) (by omega), rd_nat a n i (by omega), rd_nat b n i (by omega)]
    simp only [if_pos h1, if_pos (show 0 ≤ i from h1), if_pos h2, if_pos h3]
    rw [take_succ_getD (by omega : n < a.length), take_succ_getD (by omega : n < b.length), val_append, val_append]
    simp only [val, Int.mul_zero, Int.add_zero, List.length_take, Nat.min_eq_left (by omega : n ≤ a.length), Nat.min_eq_left (by omega : n ≤ b.length)]
    by_cases e : a.getD n 0 = b.getD n 0
    · simp only [if_pos e]
      rw [e, cmp_same]
      exact spec_compare_l0 a b ha hb hl hm n (i - 1) (by omega) (by omega)
    · simp only [if_neg e]
      have q1 := (ha.take n).lt
      have q2 := (hb.take n).lt
      simp only [List.length_take, Nat.min_eq_left (by omega : n ≤ a.length), Nat.min_eq_left (by omega : n ≤ b.length)] at q1 q2
      rw [cmp_step (ha.take n).nonneg q1 (hb.take n).nonneg q2 e]
      by_cases f : a.getD n 0 < b.getD n 0
      · simp only [if_pos f]; exact Ev.now _
      · simp only [if_neg f]; exact Ev.now _
theorem cmp_dig_lt {a b : Nat} (h : a < b) : cmp a b = -1 := by unfold cmp; rw [if_pos (by omega)]
theorem cmp_dig_gt {a b : Nat} (h : b < a) : cmp a b = 1 := by unfold cmp; rw [if_neg (by omega), if_neg (by omega)]
theorem spec_compare_ev (a b : Nat) (ha : (dig a).length ≤ 1000000) (hb : (dig b).length ≤ 1000000) : Ev (fun k => spec_compareDigits.f k (dig a) (dig b)) (cmp a b) := by
  by_cases e : (dig a).length = (dig b).length
  · have h := spec_compare_l0 _ _ (dig_Dig a) (dig_Dig b) e ha (dig a).length _ rfl (Nat.le_refl _)
    rw [List.take_length, e, List.take_length, val_dig, val_dig] at h
    refine Ev.congr (fun k => ?_) h
    simp only [spec_compareDigits.f]
    rw [if_pos (by omega), w64 (by omega) (by omega), e]
  · have e' : ¬ ((dig a).length : Int) = (dig b).length := by omega
    by_cases f : (dig a).length < (dig b).length
    · rw [cmp_dig_lt (dig_length_lt f)]
      have f' : ((dig a).length : Int) < (dig b).length := by omega
      refine Ev.congr (fun k => ?_) (Ev.now _)
      simp only [spec_compareDigits.f]; rw [if_neg e', if_pos f']
    · rw [cmp_dig_gt (dig_length_lt (by omega))]
      have f' : ¬ ((dig a).length : Int) < (dig b).length := by omega
      refine Ev.congr (fun k => ?_) (Ev.now _)
      simp only [spec_compareDigits.f]; rw [if_neg e', if_neg f']
theorem impl_compare_l0 (a b : List Int) (ha : Dig a) (hb : Dig b) (hl : a.length = b.length) (hm : a.length ≤ 1000000) : ∀ (n : Nat) (i : Int), i = (n : Int) - 1 → n ≤ a.length → Ev (fun k => impl_magCmp.l0 k a b i) (cmp (val (a.take n)) (val (b.take n)))
  | 0, i, hi, _ => by
    refine Ev.step (fun k => impl_magCmp.l0.eq_2 ..) ?_
    have h1 : ¬ i ≥ 0 := by omega
    simp only [if_neg h1]
    simp [cmp, val]
    exact Ev.now _
  | n + 1, i, hi, hn => by
    refine Ev.step (fun k => impl_magCmp.l0.eq_2 ..) ?_
    have h1 : i ≥ 0 := by omega
    have h2 : i < (a.length : Int) := by omega
    have h3 : i < (b.length : Int) := by omega
    rw [w64 (x := i - 1) (by omega) (by omega), rd_nat a n i (by omega), rd_nat b n i (by omega)]
    simp only [if_pos h1, if_pos (show 0 ≤ i from h1), if_pos h2, if_pos h3]
    rw [take_succ_getD (by omega : n < a.length), take_succ_getD (by omega : n < b.length), val_append, val_append]
    simp only [val, Int.mul_zero, Int.add_zero, List.length_take, Nat.min_eq_left (by omega : n ≤ a.length), Nat.min_eq_left (by omega : n ≤ b.length)]
    by_cases e : a.getD n 0 = b.getD n 0
    · simp only [if_pos e]
      rw [e, cmp_same]
      exact impl_compare_l0 a b ha hb hl hm n (i - 1) (by omega) (by omega)
    · simp only [if_neg e]
      have q1 := (ha.take n).lt
      have q2 := (hb.take n).lt
      simp only [List.length_take, Nat.min_eq_left (by omega : n ≤ a.length), Nat.min_eq_left (by omega : n ≤ b.length)] at q1 q2
      rw [cmp_step (ha.take n).nonneg q1 (hb.take n).nonneg q2 e]
      by_cases f : a.getD n 0 < b.getD n 0
      · simp only [if_pos f]; exact Ev.now _
      · simp only [if_neg f]; exact Ev.now _
theorem impl_compare_ev (a b : Nat) (ha : (dig a).length ≤ 1000000) (hb : (dig b).length ≤ 1000000) : Ev (fun k => impl_magCmp.f k (dig a) (dig b)) (cmp a b) := by
  by_cases e : (dig a).length = (dig b).length
  · have h := impl_compare_l0 _ _ (dig_Dig a) (dig_Dig b) e ha (dig a).length _ rfl (Nat.le_refl _)
    rw [List.take_length, e, List.take_length, val_dig, val_dig] at h
    refine Ev.congr (fun k => ?_) h
    simp only [impl_magCmp.f]
    rw [if_pos (by omega), w64 (by omega) (by omega), e]
  · have e' : ¬ ((dig a).length : Int) = (dig b).length := by omega
    by_cases f : (dig a).length < (dig b).length
    · rw [cmp_dig_lt (dig_length_lt f)]
      have f' : ((dig a).length : Int) < (dig b).length := by omega
      refine Ev.congr (fun k => ?_) (Ev.now _)
      simp only [impl_magCmp.f]; rw [if_neg e', if_pos f']
    · rw [cmp_dig_gt (dig_length_lt (by omega))]
      have f' : ¬ ((dig a).length : Int) < (dig b).length := by omega
      refine Ev.congr (fun k => ?_) (Ev.now _)
      simp only [impl_magCmp.f]; rw [if_neg e', if_neg f']
end Go.Proofs.Ytccdaiagameobaa.IE
