/- The reference's decimal of a whole number: it always answers, in few bytes. -/
import Derived.Test.YtccdaiagameobaaRnd
import Derived.Test.YtccdaiagameobaaQ9
set_option linter.unusedSimpArgs false
set_option linter.unusedVariables false
namespace Go.Proofs.Ytccdaiagameobaa.RD
open Go.RowKit Go.Proofs.Ytccdaiagameobaa.Q Go.Proofs.YtccdaiagameobaaW.PrintWords

theorem positive_ev : ∀ (d : Nat) (x : Int) (s : ByteArray), x.natAbs < 10 ^ (d + 1) → d ≤ 18 → s.size + d ≤ 100000000 → ∃ t, Ev (fun k => spec_positive.l0 k x s) t ∧ t.size ≤ s.size + d + 1 := by
  intro d
  induction d with
  | zero =>
    intro x s hx hd hs
    have hx' : x.natAbs < 10 := by simpa using hx
    have e1 : Int.tdiv x 10 = 0 := by
      rw [← Int.natAbs_eq_zero, Int.natAbs_tdiv]
      exact Nat.div_eq_of_lt hx'
    have es : ∀ y : Int, (strOfNums [y]).size = 1 := fun y => by rw [strOfNums_size]; rfl
    refine ⟨if Int.tmod x 10 < 0 then strOfNums [(wrap64 (48 + (wrap64 (-(Int.tmod x 10))))) % 256] ++ s else strOfNums [(wrap64 (48 + (Int.tmod x 10))) % 256] ++ s, Ev.step (fun k => spec_positive.l0.eq_2 ..) ?_, by split <;> rw [ByteArray.size_append, es] <;> omega⟩
    rw [e1]
    have e0 : wrap64 0 = 0 := wr (by omega) (by omega)
    by_cases c : Int.tmod x 10 < 0
    · simp only [if_pos c, Option.bind_some, e0, es, if_true, show 1 + s.size ≤ 9223372036854775807 by omega]
      exact Ev.now _
    · simp only [if_neg c, Option.bind_some, e0, es, if_true, show 1 + s.size ≤ 9223372036854775807 by omega]
      exact Ev.now _
  | succ d ih =>
    intro x s hx hd hs
    have es : ∀ y : Int, (strOfNums [y]).size = 1 := fun y => by rw [strOfNums_size]; rfl
    have h1 : (Int.tdiv x 10).natAbs < 10 ^ (d + 1) := by
      rw [Int.natAbs_tdiv]
      rw [Nat.pow_succ] at hx
      exact Nat.div_lt_of_lt_mul (by rw [Nat.mul_comm]; exact hx)
    have h2 : (10 : Nat) ^ (d + 1) ≤ 1000000000000000000 := Nat.le_trans (Nat.pow_le_pow_right (by decide) (show d + 1 ≤ 18 by omega)) (by decide)
    have hw : wrap64 (Int.tdiv x 10) = Int.tdiv x 10 := wr (by omega) (by omega)
    by_cases c : Int.tmod x 10 < 0
    · obtain ⟨t, ht, hl⟩ := ih (Int.tdiv x 10) (strOfNums [(wrap64 (48 + (wrap64 (-(Int.tmod x 10))))) % 256] ++ s) h1 (by omega) (by rw [ByteArray.size_append, es]; omega)
      rw [ByteArray.size_append, es] at hl
      by_cases e : Int.tdiv x 10 = 0
      · refine ⟨strOfNums [(wrap64 (48 + (wrap64 (-(Int.tmod x 10))))) % 256] ++ s, Ev.step (fun k => spec_positive.l0.eq_2 ..) ?_, ?_⟩
        · simp only [hw, if_pos c, Option.bind_some, es, if_true, show 1 + s.size ≤ 9223372036854775807 by omega, if_pos e]
          exact Ev.now _
        · rw [ByteArray.size_append, es]; omega
      · refine ⟨t, Ev.step (fun k => spec_positive.l0.eq_2 ..) ?_, by omega⟩
        simp only [hw, if_pos c, Option.bind_some, es, if_true, show 1 + s.size ≤ 9223372036854775807 by omega, if_neg e]
        exact ht
    · obtain ⟨t, ht, hl⟩ := ih (Int.tdiv x 10) (strOfNums [(wrap64 (48 + (Int.tmod x 10))) % 256] ++ s) h1 (by omega) (by rw [ByteArray.size_append, es]; omega)
      rw [ByteArray.size_append, es] at hl
      by_cases e : Int.tdiv x 10 = 0
      · refine ⟨strOfNums [(wrap64 (48 + (Int.tmod x 10))) % 256] ++ s, Ev.step (fun k => spec_positive.l0.eq_2 ..) ?_, ?_⟩
        · simp only [hw, if_neg c, Option.bind_some, es, if_true, show 1 + s.size ≤ 9223372036854775807 by omega, if_pos e]
          exact Ev.now _
        · rw [ByteArray.size_append, es]; omega
      · refine ⟨t, Ev.step (fun k => spec_positive.l0.eq_2 ..) ?_, by omega⟩
        simp only [hw, if_neg c, Option.bind_some, es, if_true, show 1 + s.size ≤ 9223372036854775807 by omega, if_neg e]
        exact ht
theorem decimal_ev {x : Int} (h0 : -9999999999999999999 ≤ x) (h1 : x ≤ 9999999999999999999) : ∃ t, Ev (fun k => spec_decimal.f k x) t ∧ t.size ≤ 20 := by
  have e18 : (10 : Nat) ^ 19 = 10000000000000000000 := by decide
  have z0 : (⟨#[]⟩ : ByteArray).size = 0 := rfl
  obtain ⟨t, ht, hl⟩ := positive_ev 18 x ⟨#[]⟩ (by rw [e18]; omega) (by omega) (by omega)
  have hp : Ev (fun k => spec_positive.f k x) t := by unfold spec_positive.f; exact ht
  have hl2 : t.size ≤ 19 := by omega
  unfold spec_decimal.f
  by_cases c : x < 0
  · refine ⟨(⟨#[45]⟩ : ByteArray) ++ t, ?_, by rw [ByteArray.size_append]; have : (⟨#[45]⟩ : ByteArray).size = 1 := rfl
                                               omega⟩
    simp only [if_pos c]
    refine Ev.bind hp ?_
    simp only [show 1 + t.size ≤ 9223372036854775807 by omega, if_true]
    exact Ev.now _
  · refine ⟨t, ?_, by omega⟩
    simp only [if_neg c]
    exact Ev.bind hp (Ev.now _)
end Go.Proofs.Ytccdaiagameobaa.RD
