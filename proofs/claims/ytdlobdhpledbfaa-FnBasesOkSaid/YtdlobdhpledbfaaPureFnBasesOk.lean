/- Proved: classes have an order; no condition beyond the statement's. -/
import Derived.Test.YtdlobdhpledbfaaClDraw
import Derived.Test.YtdlobdhpledbfaaQ4
import Derived.Test.YtdlobdhpledbfaaQ19
set_option linter.unusedSimpArgs false
set_option linter.unusedVariables false
namespace Go.Proofs.Ytdlobdhpledbfaa.Pure
open Go.RowKit Go.Proofs.Ytdlobdhpledbfaa.Q Go.Proofs.YtdlobdhpledbfaaW.PrintWords Go.Proofs.GR Go.Proofs.Ytdlobdhpledbfaa.GE Go.Proofs.Ytdlobdhpledbfaa.RD Go.Proofs.Ytdlobdhpledbfaa.CL
theorem basesOk_l (g : List (List Int)) (hs : BSz g) (hv : Val g) (hm : ∀ i : Nat, i < g.length → ∃ l, Ev (fun k => impl_mro.f k g (i : Int)) (l, true)) : ∀ (e n : Nat), g.length - n = e → n ≤ g.length → Ev (fun k => laws_FnBasesOk.l0 k g (n : Int)) true := by
  intro e
  induction e with
  | zero =>
    intro n h1 h2
    obtain rfl : n = g.length := by omega
    refine Ev.step (fun k => laws_FnBasesOk.l0.eq_2 ..) ?_
    simp only [if_neg (show ¬ (g.length : Int) < (g.length : Int) by omega), if_pos (show (g.length : Int) ≤ 8 by have := hv.1; omega)]
    exact Ev.now _
  | succ e ih =>
    intro n h1 h2
    have hn : n < g.length := by omega
    obtain ⟨r, q1, q2, q3, q4, q5⟩ := mros g hs (n : Int)
    obtain ⟨l, hl⟩ := hm n hn
    have := ev_one (q5 hv (by omega) (by omega)) hl
    subst this
    obtain ⟨k1, k2, k3, k4⟩ := q4 rfl
    obtain ⟨m, e1, e2⟩ := k4.head
    rw [Int.toNat_natCast] at e1
    subst e1
    refine Ev.step (fun k => laws_FnBasesOk.l0.eq_2 ..) ?_
    simp only [if_pos (show (n : Int) < (g.length : Int) by omega)]
    refine Ev.bind q1 ?_
    have e3 : rd ((n : Int) :: m) 0 = (n : Int) := rfl
    simp only [if_true, List.length_cons, if_neg (show ¬ (((m.length + 1 : Nat) : Int) = 0) by omega), if_pos (show (0 : Int) < ((m.length + 1 : Nat) : Int) by omega), e3, wr2 (show n ≤ 100000000 by have := hv.1; omega)]
    exact ih (n + 1) (by omega) (by omega)
theorem FnBasesOk : laws_FnBasesOk.Pure := by
  intro code _ _ hw
  refine Ev.rounds (?_ : Ev (fun k => laws_FnBasesOk.f k code) true)
  unfold laws_FnBasesOk.f
  by_cases h : (code.length : Int) > 1048576
  · simp only [if_pos h]; exact Ev.now _
  simp only [if_neg h]
  obtain ⟨g, e1, hs⟩ := draw_bases h hw
  refine Ev.bind e1 ?_
  obtain ⟨b, b1, b2, b3⟩ := bases g hs
  refine Ev.bind b1 (Ev.bind b2 ?_)
  simp only [beq_self_eq_true, if_true]
  cases b with
  | false => simp only [Bool.false_eq_true, if_false]; exact Ev.now _
  | true =>
    simp only [if_true]
    exact basesOk_l g hs (b3 rfl).1 (b3 rfl).2 _ 0 rfl (by omega)
end Go.Proofs.Ytdlobdhpledbfaa.Pure
