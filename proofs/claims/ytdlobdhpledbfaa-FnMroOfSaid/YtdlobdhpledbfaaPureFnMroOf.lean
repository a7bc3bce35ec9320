/- Proved: orders keep those of the bases; no condition beyond the statement's. -/
import Derived.Test.YtdlobdhpledbfaaClDraw
import Derived.Test.YtdlobdhpledbfaaClWithin
import Derived.Test.YtdlobdhpledbfaaGrSame
import Derived.Test.YtdlobdhpledbfaaQ0
import Derived.Test.YtdlobdhpledbfaaQ22
set_option linter.unusedSimpArgs false
set_option linter.unusedVariables false
namespace Go.Proofs.Ytdlobdhpledbfaa.Pure
open Go.RowKit Go.Proofs.Ytdlobdhpledbfaa.Q Go.Proofs.YtdlobdhpledbfaaW.PrintWords Go.Proofs.GR Go.Proofs.Ytdlobdhpledbfaa.GE Go.Proofs.Ytdlobdhpledbfaa.RD Go.Proofs.Ytdlobdhpledbfaa.CL
theorem nodup_at {l : List Int} (h : l.Nodup) {n : Nat} (hn : n < l.length) : l.getD n 0 ∉ l.take n := fun z => by
  obtain ⟨i, hi, e⟩ := List.getElem_of_mem z
  rw [List.getElem_take, getD_lt hn] at e
  have hi' : i < n := by rw [List.length_take] at hi; omega
  exact absurd e ((List.pairwise_iff_getElem.1 h) i n (by omega) hn hi')
theorem FnMroOf : laws_FnMroOf.Pure := by
  intro code _ _ hw
  refine Ev.rounds (?_ : Ev (fun k => laws_FnMroOf.f k code) true)
  unfold laws_FnMroOf.f
  by_cases h : (code.length : Int) > 1048576
  · simp only [if_pos h]; exact Ev.now _
  simp only [if_neg h]
  obtain ⟨g, a, e1, hs⟩ := draw_mro h hw
  refine Ev.bind e1 ?_
  obtain ⟨r, q1, q2, q3, q4, q5⟩ := mros g hs a
  refine Ev.bind q1 (Ev.bind q2 ?_)
  have hl : r.1.length ≤ 1000 := by
    cases hr : r.2 with
    | false => rw [q3 hr]; simp
    | true => have := fct_len (q4 hr).2.2.2 (q4 hr).2.2.1 (q4 hr).1; omega
  refine Ev.bind (SameInts_ev r.1 r.1 (by omega)) ?_
  simp only [decide_true, if_true, beq_self_eq_true]
  refine Ev.step (fun k => laws_FnMroOf.j0.eq_2 ..) ?_
  simp only [if_true]
  refine Ev.step (fun k => laws_FnMroOf.j1.eq_2 ..) ?_
  cases hr : r.2 with
  | false => simp only [Bool.not_false, if_true]; exact Ev.now _
  | true =>
    obtain ⟨hv, h0, ha, hF⟩ := q4 hr
    have ea : ((a.toNat : Nat) : Int) = a := by omega
    simp only [Bool.not_true, Bool.false_eq_true, if_false]
    have er : rd_L1 g a = at_ g a := rfl
    have hrow : (at_ g a).length ≤ 6 := by
      have := (hv.2 a.toNat (by omega)).1
      rwa [ea] at this
    have hsub := hF.row
    rw [ea] at hsub
    obtain ⟨m, em, _⟩ := hF.head
    rw [ea] at em
    have l1 : ∀ (e n : Nat), r.1.length - n = e → n ≤ r.1.length → Ev (fun k => laws_FnMroOf.l1 k g a r.1 (n : Int)) true := by
      intro e
      induction e with
      | zero =>
        intro n h1 h2
        obtain rfl : n = r.1.length := by omega
        refine Ev.step (fun k => laws_FnMroOf.l1.eq_2 ..) ?_
        have e3 : rd r.1 0 = a := by rw [em]; rfl
        have e4 : 0 < r.1.length := by rw [em]; simp
        simp only [if_neg (show ¬ (r.1.length : Int) < (r.1.length : Int) by omega), if_pos (show (0 : Int) < (r.1.length : Int) by omega), e3, if_true, if_pos h0, if_pos ha, er]
        exact Ev.bind (within_ev _ r.1 (by omega) hl hsub) (Ev.now _)
      | succ e ih =>
        intro n h1 h2
        have hn : n < r.1.length := by omega
        refine Ev.step (fun k => laws_FnMroOf.l1.eq_2 ..) ?_
        simp only [if_pos (show (n : Int) < (r.1.length : Int) by omega), if_pos (show (0 : Int) ≤ (n : Int) by omega), if_pos (show (n : Int) ≤ (r.1.length : Int) by omega), Int.toNat_natCast, rd_nat r.1 n _ rfl]
        refine Ev.bind (HasInt_ev (r.1.take n) _ (by rw [List.length_take]; omega)) ?_
        simp only [decide_eq_false (nodup_at hF.nodup hn), Bool.false_eq_true, if_false, wr2 (show n ≤ 100000000 by omega)]
        exact ih (n + 1) (by omega) (by omega)
    have l0 : ∀ (e n : Nat), (at_ g a).length - n = e → n ≤ (at_ g a).length → Ev (fun k => laws_FnMroOf.l0 k g a r.1 (n : Int)) true := by
      intro e
      induction e with
      | zero =>
        intro n h1 h2
        obtain rfl : n = (at_ g a).length := by omega
        refine Ev.step (fun k => laws_FnMroOf.l0.eq_2 ..) ?_
        simp only [er, if_pos h0, if_pos ha, if_neg (show ¬ ((at_ g a).length : Int) < ((at_ g a).length : Int) by omega)]
        exact l1 _ 0 rfl (by omega)
      | succ e ih =>
        intro n h1 h2
        have hn : n < (at_ g a).length := by omega
        obtain ⟨ld, k1, k2, k3, k4⟩ := below_mro hs hv ha hF (hsub.subset (getD_mem (d := 0) hn))
        refine Ev.step (fun k => laws_FnMroOf.l0.eq_2 ..) ?_
        simp only [er, if_pos h0, if_pos ha, if_pos (show (n : Int) < ((at_ g a).length : Int) by omega), if_pos (show (0 : Int) ≤ (n : Int) by omega), rd_nat (at_ g a) n _ rfl]
        refine Ev.bind k1 ?_
        simp only [if_true]
        refine Ev.bind (within_ev ld r.1 (by have := k3.length_le; omega) hl k3) ?_
        simp only [if_true, wr2 (show n ≤ 100000000 by omega)]
        exact ih (n + 1) (by omega) (by omega)
    exact l0 _ 0 rfl (by omega)
end Go.Proofs.Ytdlobdhpledbfaa.Pure
