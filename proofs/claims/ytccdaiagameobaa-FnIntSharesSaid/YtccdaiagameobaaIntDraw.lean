/- The reference's drawing of integers' texts: it always answers, in few bytes. -/
import Derived.Test.YtccdaiagameobaaRndDec
import Derived.Test.YtccdaiagameobaaRndOne
import Derived.Test.YtccdaiagameobaaRndOf
import Derived.Test.YtccdaiagameobaaQ10
set_option linter.unusedSimpArgs false
set_option linter.unusedVariables false
namespace Go.Proofs.Ytccdaiagameobaa.RD
open Go.RowKit Go.Proofs.Ytccdaiagameobaa.Q Go.Proofs.YtccdaiagameobaaW.PrintWords

theorem integer_l0 {d : List Int} (hd : Bytes d) (m : Int) : ∀ (e : Nat) (i c : Int) (s : ByteArray), m - i ≤ e → e ≤ 100 → 0 ≤ i → i + e ≤ 1000 → 0 ≤ c → c + 3 * e ≤ 1000000000 → s.size + 20 * e ≤ 100000 →
    ∃ t c', Ev (fun k => spec_rnd_integer.l0 k s m i d c) (t, c') ∧ t.size ≤ s.size + 20 * e + 1 ∧ c ≤ c' ∧ c' ≤ c + 3 * e + 1 := by
  have stop : ∀ (e : Nat) (i c : Int) (s : ByteArray), ¬ i < m → 0 ≤ c → c ≤ 1000000000 → s.size ≤ 100000 →
      ∃ t c', Ev (fun k => spec_rnd_integer.l0 k s m i d c) (t, c') ∧ t.size ≤ s.size + 20 * e + 1 ∧ c ≤ c' ∧ c' ≤ c + 3 * e + 1 := by
    intro e i c s hi hc hc2 hs
    obtain ⟨v, c', he, g0, g1, g2, g3⟩ := pick_ok hd (n := 2) hc (by omega)
    by_cases hv : v = 0
    · refine ⟨(⟨#[45]⟩ : ByteArray) ++ s, c', Ev.step (fun k => spec_rnd_integer.l0.eq_2 ..) ?_, by rw [ByteArray.size_append]; have : (⟨#[45]⟩ : ByteArray).size = 1 := rfl
                                                                                                    omega, g2, by omega⟩
      simp only [if_neg hi, he, Option.bind_some, if_pos hv, show 1 + s.size ≤ 9223372036854775807 by omega, if_true]
      exact Ev.now _
    · refine ⟨s, c', Ev.step (fun k => spec_rnd_integer.l0.eq_2 ..) ?_, by omega, g2, by omega⟩
      simp only [if_neg hi, he, Option.bind_some, if_neg hv]
      exact Ev.now _
  intro e
  induction e with
  | zero =>
    intro i c s hm he hi hi2 hc hc2 hs
    exact stop 0 i c s (by omega) hc (by omega) (by omega)
  | succ e ih =>
    intro i c s hm he hi hi2 hc hc2 hs
    by_cases hlt : i < m
    · have j2 : ∀ (v c1 : Int), 0 ≤ v → v ≤ 10 → c ≤ c1 → c1 ≤ c + 1 → ∃ t c', Ev (fun k => spec_rnd_integer.j2 k s m i v d c1) (t, c') ∧ t.size ≤ s.size + 20 * (e + 1) + 1 ∧ c ≤ c' ∧ c' ≤ c + 3 * (e + 1) + 1 := by
        intro v c1 hv0 hv1 hc1 hc1'
        obtain ⟨u, c2, hu, g0, g1, g2, g3⟩ := pick_ok hd (n := 9) (c := c1) (by omega) (by omega)
        have hw : wrap64 (i + 1) = i + 1 := wr (by omega) (by omega)
        by_cases hz : u = 0
        · obtain ⟨y, c3, hy, hp, k2, k3⟩ := one_ok hd (c := c2) (by omega) (by omega) [9, 9, 1] (by decide) (by decide) (fun y => 0 ≤ y ∧ y ≤ 9) (by decide)
          obtain ⟨t, ht, hl⟩ := decimal_ev (x := y) (by omega) (by omega)
          obtain ⟨r, c', hr, hrl, q2, q3⟩ := ih (i + 1) c3 (s ++ t) (by omega) (by omega) (by omega) (by omega) (by omega) (by omega) (by rw [ByteArray.size_append]; omega)
          rw [ByteArray.size_append] at hrl
          refine ⟨r, c', Ev.step (fun k => spec_rnd_integer.j2.eq_2 ..) ?_, by omega, by omega, by omega⟩
          simp only [hu, Option.bind_some, if_pos hz, hy, hw]
          refine Ev.bind ht ?_
          simp only [show s.size + t.size ≤ 9223372036854775807 by omega, if_true]
          exact hr
        · obtain ⟨t, ht, hl⟩ := decimal_ev (x := v) (by omega) (by omega)
          obtain ⟨r, c', hr, hrl, q2, q3⟩ := ih (i + 1) c2 (s ++ t) (by omega) (by omega) (by omega) (by omega) (by omega) (by omega) (by rw [ByteArray.size_append]; omega)
          rw [ByteArray.size_append] at hrl
          refine ⟨r, c', Ev.step (fun k => spec_rnd_integer.j2.eq_2 ..) ?_, by omega, by omega, by omega⟩
          simp only [hu, Option.bind_some, if_neg hz, hw]
          refine Ev.bind ht ?_
          simp only [show s.size + t.size ≤ 9223372036854775807 by omega, if_true]
          exact hr
      obtain ⟨v, c1, hv, g0, g1, g2, g3⟩ := pick_ok hd (n := 10) hc (by omega)
      have g1 := g1 (by omega)
      by_cases hz : i = 0
      · obtain ⟨t, c', ht, hl, q2, q3⟩ := j2 (mx 1 v) c1 (by unfold mx; split <;> omega) (by unfold mx; split <;> omega) g2 g3
        refine ⟨t, c', Ev.step (fun k => spec_rnd_integer.l0.eq_2 ..) ?_, by omega, q2, by omega⟩
        simp only [if_pos hlt, hv, Option.bind_some, if_pos hz]
        exact ht
      · obtain ⟨t, c', ht, hl, q2, q3⟩ := j2 v c1 g0 (by omega) g2 g3
        refine ⟨t, c', Ev.step (fun k => spec_rnd_integer.l0.eq_2 ..) ?_, by omega, q2, by omega⟩
        simp only [if_pos hlt, hv, Option.bind_some, if_neg hz]
        exact ht
    · exact stop (e + 1) i c s hlt hc (by omega) (by omega)

/-- What a drawing of a text brings: an answer in few bytes, few bytes taken. -/
def Drawn (d : List Int) (c : Int) (f : Nat → Option (ByteArray × Int)) : Prop := ∃ t c', Ev f (t, c') ∧ t.size ≤ 100000 ∧ c ≤ c' ∧ c' ≤ c + 1000

theorem integer_j0 {d : List Int} (hd : Bytes d) {c : Int} (h0 : 0 ≤ c) (h1 : c ≤ 1000000) (b : Bool) : ∃ t c', Ev (fun k => spec_rnd_integer.j0 k b d c) (t, c') ∧ t.size ≤ 100000 ∧ c ≤ c' ∧ c' ≤ c + 900 := by
  cases b with
  | true =>
    obtain ⟨v, c1, hv, g0, g1, g2, g3⟩ := pick_ok hd (n := 2000) h0 (by omega)
    have g1 := g1 (by omega)
    obtain ⟨t, ht, hl⟩ := decimal_ev (x := v - 1000) (by omega) (by omega)
    refine ⟨t, c1, Ev.step (fun k => spec_rnd_integer.j0.eq_2 ..) ?_, by omega, g2, by omega⟩
    simp only [if_true, hv, Option.bind_some, wr (x := v - 1000) (by omega) (by omega)]
    exact Ev.bind ht (Ev.now _)
  | false =>
    obtain ⟨m, c1, hm, hp, g2, g3⟩ := one_ok hd (c := c) h0 (by omega) [2, 5, 12, 19, 20, 38, 39, 40, 40, 41] (by decide) (by decide) (fun y => 0 ≤ y ∧ y ≤ 41) (by decide)
    have z0 : (⟨#[]⟩ : ByteArray).size = 0 := rfl
    obtain ⟨t, c', ht, hl, q2, q3⟩ := integer_l0 hd m 41 0 c1 ⟨#[]⟩ (by omega) (by omega) (by omega) (by omega) (by omega) (by omega) (by rw [z0]; omega)
    refine ⟨t, c', Ev.step (fun k => spec_rnd_integer.j0.eq_2 ..) ?_, by omega, by omega, by omega⟩
    simp only [Bool.false_eq_true, if_false, hm, Option.bind_some]
    exact ht
theorem integer_ev {d : List Int} (hd : Bytes d) {c : Int} (h0 : 0 ≤ c) (h1 : c ≤ 100000) : Drawn d c (fun k => spec_rnd_integer.f k d c) := by
  obtain ⟨v, c1, hv, g0, g1, g2, g3⟩ := pick_ok hd (n := 14) h0 (by omega)
  unfold spec_rnd_integer.f Drawn
  simp only [hv, Option.bind_some]
  by_cases c0 : v = 0
  · obtain ⟨t, c2, ht, hp, k2, k3⟩ := of_ok hd (c := c1) (by omega) (by omega) [(⟨#[]⟩ : ByteArray), (⟨#[45]⟩ : ByteArray), (⟨#[45, 48]⟩ : ByteArray), (⟨#[48, 49]⟩ : ByteArray), (⟨#[49, 97]⟩ : ByteArray), (⟨#[32, 49]⟩ : ByteArray), (⟨#[43, 49]⟩ : ByteArray), (⟨#[48, 48]⟩ : ByteArray)] (by decide) (by decide) (fun y => y.size ≤ 100000) (by decide)
    refine ⟨t, c2, ?_, hp, by omega, by omega⟩
    simp only [if_pos c0, ht, Option.bind_some]
    exact Ev.now _
  · simp only [if_neg c0]
    by_cases c1' : v = 1
    · obtain ⟨t, c2, ht, hp, k2, k3⟩ := of_ok hd (c := c1) (by omega) (by omega) [(⟨#[48]⟩ : ByteArray), (⟨#[49]⟩ : ByteArray), (⟨#[45, 49]⟩ : ByteArray), (⟨#[57]⟩ : ByteArray), (⟨#[49, 48]⟩ : ByteArray), (⟨#[45, 49, 48]⟩ : ByteArray), (⟨#[57, 57]⟩ : ByteArray), (⟨#[49, 48, 48]⟩ : ByteArray)] (by decide) (by decide) (fun y => y.size ≤ 100000) (by decide)
      refine ⟨t, c2, ?_, hp, by omega, by omega⟩
      simp only [if_pos c1', ht, Option.bind_some]
      exact Ev.now _
    · simp only [if_neg c1']
      have key : ∀ b, ∃ t c', Ev (fun k => spec_rnd_integer.j0 k b d c1) (t, c') ∧ t.size ≤ 100000 ∧ c ≤ c' ∧ c' ≤ c + 1000 := fun b => by
        obtain ⟨t, c', ht, hl, q2, q3⟩ := integer_j0 hd (c := c1) (by omega) (by omega) b
        exact ⟨t, c', ht, hl, by omega, by omega⟩
      by_cases c2 : v = 2
      · simp only [if_pos c2]; exact key _
      · simp only [if_neg c2]
        by_cases c3 : v = 3
        · simp only [if_pos c3]; exact key _
        · simp only [if_neg c3]; exact key _
end Go.Proofs.Ytccdaiagameobaa.RD
