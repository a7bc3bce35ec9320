/- Proved: being below goes on; no condition beyond the statement's. -/
import Derived.Test.YtdlobdhpledbfaaClDraw
import Derived.Test.YtdlobdhpledbfaaClWithin
import Derived.Test.YtdlobdhpledbfaaQ0
import Derived.Test.YtdlobdhpledbfaaQ5
import Derived.Test.YtdlobdhpledbfaaQ11
import Derived.Test.YtdlobdhpledbfaaQ18
set_option linter.unusedSimpArgs false
set_option linter.unusedVariables false
namespace Go.Proofs.Ytdlobdhpledbfaa.Pure
open Go.RowKit Go.Proofs.Ytdlobdhpledbfaa.Q Go.Proofs.YtdlobdhpledbfaaW.PrintWords Go.Proofs.GR Go.Proofs.Ytdlobdhpledbfaa.GE Go.Proofs.Ytdlobdhpledbfaa.RD Go.Proofs.Ytdlobdhpledbfaa.CL
theorem isSub_of {g : List (List Int)} (hs : BSz g) {a x : Int} {r : List Int × Bool} (h : Ev (fun k => impl_MroOf.f k g a) r) : Ev (fun k => impl_IsSub.f k g a x) (r.2 && decide (x ∈ r.1)) := by
  obtain ⟨r', q1, q2, q3, q4, q5, q6⟩ := subs g hs a x
  have := ev_one q1 h
  subst this
  exact q5
theorem FnIsSub : laws_FnIsSub.Pure := by
  intro code _ _ hw
  refine Ev.rounds (?_ : Ev (fun k => laws_FnIsSub.f k code) true)
  unfold laws_FnIsSub.f
  by_cases h : (code.length : Int) > 1048576
  · simp only [if_pos h]; exact Ev.now _
  simp only [if_neg h]
  obtain ⟨g, a, d, e1, hs⟩ := draw_sub h hw
  refine Ev.bind e1 ?_
  obtain ⟨r, q1, q2, q3, q4, q5, q6⟩ := subs g hs a d
  refine Ev.bind q5 (Ev.bind q6 ?_)
  simp only [beq_self_eq_true, if_true]
  cases hb : (r.2 && decide (d ∈ r.1)) with
  | false => simp only [Bool.false_eq_true, if_false]; exact Ev.now _
  | true =>
    simp only [if_true]
    rw [Bool.and_eq_true, decide_eq_true_eq] at hb
    obtain ⟨hr, hd⟩ := hb
    obtain ⟨hv, h0, ha, hF⟩ := q4 hr
    obtain ⟨d0, d1, d2⟩ := mem_lt h0 ha hF hd
    have er : rd_L1 g d = at_ g d := rfl
    have hrow : (at_ g d).length ≤ 6 := by
      have := (hv.2 d.toNat (by omega)).1
      rwa [show ((d.toNat : Nat) : Int) = d by omega] at this
    have sub_in : ∀ x ∈ r.1, Ev (fun k => impl_IsSub.f k g a x) true := fun x hx => by
      have := isSub_of hs (x := x) q1
      rwa [hr, decide_eq_true hx] at this
    have key : ∀ (e n : Nat), (at_ g d).length - n = e → n ≤ (at_ g d).length → Ev (fun k => laws_FnIsSub.l0 k g a d (n : Int)) true := by
      intro e
      induction e with
      | zero =>
        intro n h1 h2
        obtain rfl : n = (at_ g d).length := by omega
        refine Ev.step (fun k => laws_FnIsSub.l0.eq_2 ..) ?_
        simp only [er, if_pos d0, if_pos d1, if_neg (show ¬ ((at_ g d).length : Int) < ((at_ g d).length : Int) by omega), if_pos (show a ≥ d from d2)]
        have ha' : a ∈ r.1 := by
          obtain ⟨m, e, _⟩ := hF.head
          rw [e, show ((a.toNat : Nat) : Int) = a by omega]
          exact List.mem_cons_self
        refine Ev.bind (sub_in a ha') ?_
        simp only [if_true]
        by_cases c : a = d
        · simp only [if_pos c]; exact Ev.now _
        · simp only [if_neg c]
          obtain ⟨ld, k1, k2, k3, k4⟩ := below_mro hs hv ha hF hd
          have hno : a ∉ ld := fun z => by
            have := k4.range a z; omega
          have := isSub_of hs (x := a) k1
          rw [decide_eq_false hno, Bool.and_false] at this
          refine Ev.bind this ?_
          simp only [Bool.false_eq_true, if_false]
          exact Ev.now _
      | succ e ih =>
        intro n h1 h2
        have hn : n < (at_ g d).length := by omega
        refine Ev.step (fun k => laws_FnIsSub.l0.eq_2 ..) ?_
        simp only [er, if_pos d0, if_pos d1, if_pos (show (n : Int) < ((at_ g d).length : Int) by omega), if_pos (show (0 : Int) ≤ (n : Int) by omega), rd_nat (at_ g d) n _ rfl]
        refine Ev.bind (sub_in _ (hF.sup d hd _ (getD_mem hn))) ?_
        simp only [if_true, wr2 (show n ≤ 100000000 by omega)]
        exact ih (n + 1) (by omega) (by omega)
    exact key _ 0 rfl (by omega)
end Go.Proofs.Ytdlobdhpledbfaa.Pure
