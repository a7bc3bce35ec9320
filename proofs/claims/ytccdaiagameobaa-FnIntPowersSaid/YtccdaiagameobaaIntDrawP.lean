/- The reference's drawing of an integer and an exponent: it always answers, in few bytes. -/
import Derived.Test.YtccdaiagameobaaIntDraw
import Derived.Test.YtccdaiagameobaaIntEv4
import Derived.Test.YtccdaiagameobaaQ22
set_option linter.unusedSimpArgs false
set_option linter.unusedVariables false
namespace Go.Proofs.Ytccdaiagameobaa.RD
open Go.RowKit Go.Proofs.Ytccdaiagameobaa.Q Go.Proofs.YtccdaiagameobaaW.PrintWords Go.Proofs.Ytccdaiagameobaa.IE

theorem small_ev {d : List Int} (hd : Bytes d) {c : Int} (h0 : 0 ≤ c) (h1 : c ≤ 1000000) : ∃ t c', Ev (fun k => spec_rnd_small.f k d c) (t, c') ∧ t.size ≤ 100 ∧ c ≤ c' ∧ c' ≤ c + 2 := by
  obtain ⟨v, c1, hv, g0, g1, g2, g3⟩ := pick_ok hd (n := 100) h0 (by omega)
  have g1 := g1 (by omega)
  obtain ⟨m, c2, hm, hp, k2, k3⟩ := one_ok hd (c := c1) (by omega) (by omega) [0, 1, 2, 3, 4, 5, 7, 10, v] (by simp) (by simp) (fun y => 0 ≤ y ∧ y ≤ 100) (by intro x hx; simp only [List.mem_cons, List.not_mem_nil, or_false] at hx; omega)
  obtain ⟨t, ht, hl⟩ := decimal_ev (x := m) (by omega) (by omega)
  refine ⟨t, c2, ?_, by omega, by omega, by omega⟩
  unfold spec_rnd_small.f
  simp only [hv, Option.bind_some, hm]
  exact Ev.bind ht (Ev.now _)
theorem odd_ok {d : List Int} (hd : Bytes d) {c : Int} (h0 : 0 ≤ c) (h1 : c ≤ 1000000) : ∃ v c', spec_rnd_odd.f d c = some (v, c') ∧ c ≤ c' ∧ c' ≤ c + 1 := by
  obtain ⟨m, c2, hm, hp, k2, k3⟩ := one_ok hd (c := c) (by omega) (by omega) [(-1), 4611686018427387904, (-4611686018427387904), 1001, 7, 1000001, (-9223372036854775808), 9223372036854775807] (by simp) (by simp) (fun _ => True) (by simp)
  refine ⟨m, c2, ?_, k2, k3⟩
  unfold spec_rnd_odd.f
  simp only [hm, Option.bind_some]
theorem often_ok {d : List Int} (hd : Bytes d) {c : Int} (h0 : 0 ≤ c) (h1 : c ≤ 100000) (x : Int) : ∃ v c', spec_rnd_often.f d c x = some (v, c') ∧ c ≤ c' ∧ c' ≤ c + 2 := by
  obtain ⟨v, c1, hv, g0, g1, g2, g3⟩ := pick_ok hd (n := 16) h0 (by omega)
  obtain ⟨m, c2, hm, k2, k3⟩ := odd_ok hd (c := c1) (by omega) (by omega)
  unfold spec_rnd_often.f
  rw [hv]
  simp only [Option.bind_some]
  by_cases e : v = 0
  · rw [if_pos e, hm]
    exact ⟨m, c2, rfl, by omega, by omega⟩
  · rw [if_neg e]
    exact ⟨x, c1, rfl, by omega, by omega⟩
theorem DrawIntPow_ev {l : List Int} (h : Bytes l) : ∃ (a : List UInt8) (n : Int), Ev (fun k => spec_DrawIntPow.f k l) (mkS a, n) ∧ a.length ≤ 1000000000000000 := by
  obtain ⟨d, hn, hd, -⟩ := newRnd_ok h
  obtain ⟨t, c1, ht, hl, q2, q3⟩ := integer_ev hd (c := 0) (by omega) (by omega)
  obtain ⟨t2, c2, ht2, hl2, k2, k3⟩ := small_ev hd (c := c1) (by omega) (by omega)
  obtain ⟨t3, c3, ht3, hl3, m2, m3⟩ := small_ev hd (c := c2) (by omega) (by omega)
  obtain ⟨x, c4, hx, hxs, n2, n3⟩ := of_ok hd (c := c3) (by omega) (by omega) [t, t2, (⟨#[45]⟩ : ByteArray) ++ t3, (⟨#[50]⟩ : ByteArray), (⟨#[45, 51]⟩ : ByteArray), (⟨#[49, 48]⟩ : ByteArray)] (by simp) (by simp) (fun y => y.size ≤ 200000)
    (by
      intro y hy
      have z1 : (⟨#[45]⟩ : ByteArray).size = 1 := rfl
      have z2 : (⟨#[50]⟩ : ByteArray).size = 1 := rfl
      have z3 : (⟨#[45, 51]⟩ : ByteArray).size = 2 := rfl
      have z4 : (⟨#[49, 48]⟩ : ByteArray).size = 2 := rfl
      simp only [List.mem_cons, List.not_mem_nil, or_false] at hy
      rcases hy with h | h | h | h | h | h <;> subst h
      · omega
      · omega
      · rw [ByteArray.size_append]; omega
      · omega
      · omega
      · omega)
  obtain ⟨p, c5, hp, -, -, o2, o3⟩ := pick_ok hd (n := 30) (c := c4) (by omega) (by omega)
  obtain ⟨e, c6, he, -, p2, p3⟩ := one_ok hd (c := c5) (by omega) (by omega) [0, 1, 2, 3, 10, 40, 130, 200, p] (by simp) (by simp) (fun _ => True) (by simp)
  obtain ⟨f, c7, hf, r2, r3⟩ := often_ok hd (c := c6) (by omega) (by omega) e
  obtain ⟨a, rfl, la⟩ := toL (s := x) (by omega)
  refine ⟨a, f, ?_, la⟩
  unfold spec_DrawIntPow.f
  simp only [hn, Option.bind_some]
  refine Ev.bind ht (Ev.bind ht2 (Ev.bind ht3 ?_))
  simp only [show 1 + t3.size ≤ 9223372036854775807 by omega, if_true, hx, Option.bind_some, hp, he, hf]
  exact Ev.now _
end Go.Proofs.Ytccdaiagameobaa.RD
