/- Drawn lists and cuts: the drawing always answers, the lists are short. -/
import Derived.Test.YtbojiadjeggkhaaRndOften
import Derived.Test.YtbojiadjeggkhaaLsBase
import Derived.Test.YtbojiadjeggkhaaQ1
import Derived.Test.YtbojiadjeggkhaaQ2
set_option linter.unusedSimpArgs false
set_option linter.unusedVariables false
namespace Go.Proofs.Ytbojiadjeggkhaa.RD
open Go.RowKit Go.Proofs.Ytbojiadjeggkhaa.Q Go.Proofs.YtbojiadjeggkhaaW.PrintWords

theorem numbers_l {d : List Int} (hd : Bytes d) (m : Int) : ∀ (e : Nat) (x c : Int) (l : List Int), x ≤ e → e ≤ 1000 → 0 ≤ c → c + e ≤ 10000000 → l.length + e ≤ 10000 →
    ∃ r c', Ev (fun k => spec_rnd_numbers.l0 k m l x d c) (r, c') ∧ r.length ≤ l.length + e ∧ c ≤ c' ∧ c' ≤ c + e := by
  intro e
  induction e with
  | zero =>
    intro x c l hx he hc hc2 hl
    refine ⟨l, c, Ev.step (fun k => spec_rnd_numbers.l0.eq_2 ..) ?_, by omega, by omega, by omega⟩
    simp only [if_neg (show ¬ x > 0 by omega)]
    exact Ev.now _
  | succ e ih =>
    intro x c l hx he hc hc2 hl
    by_cases h : x > 0
    · obtain ⟨v, c1, hv, g0, g1, g2, g3⟩ := pick_ok hd (n := m) hc (by omega)
      obtain ⟨r, c', hr, hrl, k2, k3⟩ := ih (x - 1) c1 (l ++ [v]) (by omega) (by omega) (by omega) (by omega) (by rw [List.length_append, List.length_singleton]; omega)
      rw [List.length_append, List.length_singleton] at hrl
      refine ⟨r, c', Ev.step (fun k => spec_rnd_numbers.l0.eq_2 ..) ?_, by omega, by omega, by omega⟩
      simp only [if_pos h, hv, Option.bind_some, if_pos (show l.length < 17592186044416 by omega), wr (x := x - 1) (by omega) (by omega)]
      exact hr
    · refine ⟨l, c, Ev.step (fun k => spec_rnd_numbers.l0.eq_2 ..) ?_, by omega, by omega, by omega⟩
      simp only [if_neg h]
      exact Ev.now _
theorem numbers_ev {d : List Int} (hd : Bytes d) (n m : Int) (hn0 : 0 ≤ n) (hn : n ≤ 100) {c : Int} (h0 : 0 ≤ c) (h1 : c ≤ 1000000) : ∃ r c', Ev (fun k => spec_rnd_numbers.f k d c n m) (r, c') ∧ r.length ≤ n ∧ c ≤ c' ∧ c' ≤ c + 200 := by
  obtain ⟨v, c1, hv, g0, g1, g2, g3⟩ := pick_ok hd (n := n + 1) h0 (by omega)
  have g1 := g1 (by omega)
  obtain ⟨r, c', hr, hrl, k2, k3⟩ := numbers_l hd m v.toNat v c1 [] (by omega) (by omega) (by omega) (by omega) (by simp; omega)
  refine ⟨r, c', ?_, by simp at hrl; omega, by omega, by omega⟩
  unfold spec_rnd_numbers.f
  have e4 : wrap64 (n + 1) = n + 1 := wr (x := n + 1) (by omega) (by omega)
  simp only [e4, hv, Option.bind_some]
  exact hr
theorem cut_ev {d : List Int} (hd : Bytes d) {c : Int} (h0 : 0 ≤ c) (h1 : c ≤ 100000) : ∃ c0 c1 s a b c', Ev (fun k => spec_rnd_cut.f k d c) (c0, c1, s, a, b, c') ∧ c ≤ c' ∧ c' ≤ c + 100 := by
  have j0 : ∀ (c : Int), 0 ≤ c → c ≤ 100050 → ∀ (f t s : Int) (a b : Bool), ∃ c0 c1 s' a' b' c', Ev (fun k => spec_rnd_cut.j0 k d c f t s a b) (c0, c1, s', a', b', c') ∧ c ≤ c' ∧ c' ≤ c + 50 := by
    intro c h0 h1 f t s a b
    obtain ⟨v, c1, hv, p0, p1, p2, p3⟩ := pick_ok hd (n := 4) h0 (by omega)
    by_cases e : v > 0
    · obtain ⟨v2, c2, hv2, q0, q1, q2, q3⟩ := pick_ok hd (n := 16) (c := c1) (by omega) (by omega)
      obtain ⟨v3, c3, hv3, r2, r3⟩ := often_ok hd (c := c2) (by omega) (by omega) (wrap64 (v2 - 8))
      obtain ⟨v4, c4, hv4, s0, s1, s2, s3⟩ := pick_ok hd (n := 30) (c := c3) (by omega) (by omega)
      by_cases e4 : v4 = 0
      · refine ⟨1, v3, s, a, true, c4, Ev.step (fun k => spec_rnd_cut.j0.eq_2 ..) ?_, by omega, by omega⟩
        simp only [hv, Option.bind_some, if_pos e, hv2, hv3, hv4, if_pos e4]
        exact Ev.now _
      · refine ⟨f, v3, s, a, true, c4, Ev.step (fun k => spec_rnd_cut.j0.eq_2 ..) ?_, by omega, by omega⟩
        simp only [hv, Option.bind_some, if_pos e, hv2, hv3, hv4, if_neg e4]
        exact Ev.now _
    · obtain ⟨v4, c4, hv4, s0, s1, s2, s3⟩ := pick_ok hd (n := 30) (c := c1) (by omega) (by omega)
      by_cases e4 : v4 = 0
      · refine ⟨1, t, s, a, b, c4, Ev.step (fun k => spec_rnd_cut.j0.eq_2 ..) ?_, by omega, by omega⟩
        simp only [hv, Option.bind_some, if_neg e, hv4, if_pos e4]
        exact Ev.now _
      · refine ⟨f, t, s, a, b, c4, Ev.step (fun k => spec_rnd_cut.j0.eq_2 ..) ?_, by omega, by omega⟩
        simp only [hv, Option.bind_some, if_neg e, hv4, if_neg e4]
        exact Ev.now _
  obtain ⟨v1, c1, hv1, p2, p3⟩ := often_ok hd h0 (by omega) 1
  obtain ⟨v2, c2, hv2, -, q2, q3⟩ := one_ok hd (c := c1) (by omega) (by omega) [1, 1, 1, (-1), 2, (-2), 3, (-3), 7, v1, 0] (by simp) (by simp) (fun _ => True) (fun _ _ => trivial)
  obtain ⟨v3, c3, hv3, r0, r1, r2, r3⟩ := pick_ok hd (n := 4) (c := c2) (by omega) (by omega)
  by_cases e : v3 > 0
  · obtain ⟨v4, c4, hv4, s0, s1, s2, s3⟩ := pick_ok hd (n := 16) (c := c3) (by omega) (by omega)
    obtain ⟨v5, c5, hv5, t2, t3⟩ := often_ok hd (c := c4) (by omega) (by omega) (wrap64 (v4 - 8))
    obtain ⟨w0, w1, w2, w3, w4, c', hw, u0, u1⟩ := j0 c5 (by omega) (by omega) v5 0 v2 true false
    refine ⟨w0, w1, w2, w3, w4, c', ?_, by omega, by omega⟩
    unfold spec_rnd_cut.f
    simp only [hv1, Option.bind_some, hv2, hv3, if_pos e, hv4, hv5]
    exact hw
  · obtain ⟨w0, w1, w2, w3, w4, c', hw, u0, u1⟩ := j0 c3 (by omega) (by omega) 0 0 v2 false false
    refine ⟨w0, w1, w2, w3, w4, c', ?_, by omega, by omega⟩
    unfold spec_rnd_cut.f
    simp only [hv1, Option.bind_some, hv2, hv3, if_neg e]
    exact hw
end Go.Proofs.Ytbojiadjeggkhaa.RD
