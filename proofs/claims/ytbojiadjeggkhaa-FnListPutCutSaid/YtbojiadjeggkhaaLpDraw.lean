/- Drawn cuts and what is put into them. -/
import Derived.Test.YtbojiadjeggkhaaLcDraw
import Derived.Test.YtbojiadjeggkhaaLcEv1
import Derived.Test.YtbojiadjeggkhaaQ1
import Derived.Test.YtbojiadjeggkhaaQ4
import Derived.Test.YtbojiadjeggkhaaQ7
set_option linter.unusedSimpArgs false
set_option linter.unusedVariables false
namespace Go.Proofs.Ytbojiadjeggkhaa.RD
open Go.RowKit Go.Proofs.Ytbojiadjeggkhaa.Q Go.Proofs.YtbojiadjeggkhaaW.PrintWords Go.Proofs.Ytbojiadjeggkhaa.GE Go.Proofs.LC

theorem news_l {d : List Int} (hd : Bytes d) (R : List Int) (m f t s : Int) (a b : Bool) (hm : m ≤ 1000) : ∀ (e : Nat) (x c : Int) (l : List Int), m - x ≤ e → 0 ≤ x → e ≤ 1000 → 0 ≤ c → c + e ≤ 10000000 → l.length + e ≤ 10000 →
    ∃ X, Ev (fun k => spec_DrawListPutCut.l0 k R l m x d c f t s a b) (R, f, t, s, a, b, X) ∧ X.length ≤ l.length + e := by
  intro e
  induction e with
  | zero =>
    intro x c l hx h0 he hc hc2 hl
    refine ⟨l, Ev.step (fun k => spec_DrawListPutCut.l0.eq_2 ..) ?_, by omega⟩
    simp only [if_neg (show ¬ x < m by omega)]
    exact Ev.now _
  | succ e ih =>
    intro x c l hx h0 he hc hc2 hl
    by_cases h : x < m
    · obtain ⟨v, c1, hv, g0, g1, g2, g3⟩ := pick_ok hd (n := 50) hc (by omega)
      obtain ⟨X, hX, hXl⟩ := ih (x + 1) c1 (l ++ [v]) (by omega) (by omega) (by omega) (by omega) (by omega) (by rw [List.length_append, List.length_singleton]; omega)
      rw [List.length_append, List.length_singleton] at hXl
      refine ⟨X, Ev.step (fun k => spec_DrawListPutCut.l0.eq_2 ..) ?_, by omega⟩
      simp only [if_pos h, hv, Option.bind_some, if_pos (show l.length < 17592186044416 by omega), wr (x := x + 1) (by omega) (by omega)]
      exact hX
    · refine ⟨l, Ev.step (fun k => spec_DrawListPutCut.l0.eq_2 ..) ?_, by omega⟩
      simp only [if_neg h]
      exact Ev.now _
theorem DrawPut_ev {l d : List Int} {c : Int} (hn : spec_newRnd.f l = some (d, c)) (hd : Bytes d) (h0 : c = 0) : ∃ r f t s a b X, Ev (fun k => spec_DrawListPutCut.f k l) (r, f, t, s, a, b, X) ∧ r.length ≤ 12 ∧ X.length ≤ 2000 := by
  subst h0
  obtain ⟨r, c1, hr, hrl, p0, p1⟩ := numbers_ev hd 12 50 (by omega) (by omega) (c := 0) (by omega) (by omega)
  obtain ⟨f, t, s, a, b, c2, hc, q0, q1⟩ := cut_ev hd (c := c1) (by omega) (by omega)
  obtain ⟨X, c3, hX, hXl, s0, s1⟩ := numbers_ev hd 6 50 (by omega) (by omega) (c := c2) (by omega) (by omega)
  have j0 : ∀ m : Int, 0 ≤ m → m ≤ 12 → ∃ X', Ev (fun k => spec_DrawListPutCut.j0 k r X m d c3 f t s a b) (r, f, t, s, a, b, X') ∧ X'.length ≤ 2000 := by
    intro m hm0 hm
    obtain ⟨v, c4, hv, g0, g1, g2, g3⟩ := pick_ok hd (n := 2) (c := c3) (by omega) (by omega)
    by_cases e : v = 0
    · obtain ⟨X', hX', hl'⟩ := news_l hd r m f t s a b (by omega) m.toNat 0 c4 [] (by omega) (by omega) (by omega) (by omega) (by omega) (by simp; omega)
      rw [List.length_nil] at hl'
      refine ⟨X', Ev.step (fun k => spec_DrawListPutCut.j0.eq_2 ..) ?_, by omega⟩
      simp only [hv, Option.bind_some, if_pos e]
      exact hX'
    · refine ⟨X, Ev.step (fun k => spec_DrawListPutCut.j0.eq_2 ..) ?_, by omega⟩
      simp only [hv, Option.bind_some, if_neg e]
      exact Ev.now _
  have rng : ∀ {c0 c1 s : Int} {a b : Bool}, vcut c0 c1 s a b = true → 0 ≤ (cutRange r.length c0 c1 s a b).2 ∧ (cutRange r.length c0 c1 s a b).2 ≤ 12 := by
    intro c0 c1 s a b hv
    obtain ⟨-, -, ⟨g4, g5⟩, hs0, -, -⟩ := vcut_iff.1 hv
    obtain ⟨r0, r1, r2, r3, r4⟩ := cutRange_ok (n := (r.length : Int)) (c0 := c0) (c1 := c1) (a := a) (b := b) (by omega) (by omega) hs0 g4 g5
    exact ⟨r0, by omega⟩
  have hv0 : vcut 0 0 1 false false = true := by decide
  cases hv : vcut f t s a b with
  | true =>
    obtain ⟨X', hX', hl'⟩ := j0 _ (rng hv).1 (rng hv).2
    refine ⟨r, f, t, s, a, b, X', ?_, by omega, hl'⟩
    unfold spec_DrawListPutCut.f
    simp only [hn, Option.bind_some]
    refine Ev.bind hr (Ev.bind hc (Ev.bind hX (Ev.bind (cutOf_ev r.length 0 0 1 false false (by omega) (by omega) hv0) ?_)))
    simp only [validCut_eq, hv, Option.bind_some, if_true]
    exact Ev.bind (cutOf_ev r.length f t s a b (by omega) (by omega) hv) hX'
  | false =>
    obtain ⟨X', hX', hl'⟩ := j0 _ (rng hv0).1 (rng hv0).2
    refine ⟨r, f, t, s, a, b, X', ?_, by omega, hl'⟩
    unfold spec_DrawListPutCut.f
    simp only [hn, Option.bind_some]
    refine Ev.bind hr (Ev.bind hc (Ev.bind hX (Ev.bind (cutOf_ev r.length 0 0 1 false false (by omega) (by omega) hv0) ?_)))
    simp only [validCut_eq, hv, Option.bind_some, Bool.false_eq_true, if_false]
    exact hX'
end Go.Proofs.Ytbojiadjeggkhaa.RD
