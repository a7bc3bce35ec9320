/- Proved: fewer references come from outside; no condition beyond the statement's. -/
import Derived.Test.YtljieofkagmdaaaGrEv4
import Derived.Test.YtljieofkagmdaaaGrSame
import Derived.Test.YtljieofkagmdaaaGrDraw
import Derived.Test.YtljieofkagmdaaaGrDrawSet
import Derived.Test.YtljieofkagmdaaaQ19
import Derived.Test.YtljieofkagmdaaaQ20
set_option linter.unusedSimpArgs false
set_option linter.unusedVariables false
namespace Go.Proofs.Ytljieofkagmdaaa.Pure
open Go.RowKit Go.Proofs.Ytljieofkagmdaaa.Q Go.Proofs.YtljieofkagmdaaaW.PrintWords Go.Proofs.YtljieofkagmdaaaW.PrintLast Go.Proofs.GR Go.Proofs.Ytljieofkagmdaaa.GE Go.Proofs.Ytljieofkagmdaaa.RD

theorem FnTrialOf : laws_FnTrialOf.Pure := by
  intro l h0 h1 hw
  refine Ev.rounds (g := fun k => laws_FnTrialOf.f k l) ?_
  unfold laws_FnTrialOf.f
  by_cases c0 : (l.length : Int) > 1048576
  · simp only [if_pos c0]; exact Ev.now _
  · simp only [if_neg c0]
    have hB := Bytes.of c0 hw
    obtain ⟨d, hn, hd, -⟩ := newRnd_ok hB
    obtain ⟨g, r, c1, hgr, hsm, hrl, p0, p1⟩ := graph_ev hd
    have hgl := hsm.1
    obtain ⟨s, c2, hs, hsl, q0, q1⟩ := set_ev hd g.length (by omega) (c := c1) p0 (by omega)
    have hdr : Ev (fun k => spec_DrawTrialOf.f k l) (g, r, s) := by
      unfold spec_DrawTrialOf.f
      simp only [hn, Option.bind_some]
      exact Ev.bind hgr (Ev.bind hs (Ev.now _))
    have hz := hsm.sz
    refine Ev.bind hdr (Ev.bind (impl_TrialOf_ev g hz r (by omega) s (by omega)) (Ev.bind (spec_TrialOf_ev g hz r (by omega) s (by omega)) ?_))
    have htl : (trialR g r s).length ≤ 1000 := by
      unfold trialR
      split
      · rw [trial_length]; omega
      · simp
    refine Ev.bind (SameInts_ev (trialR g r s) (trialR g r s) (by omega)) ?_
    simp only [decide_true, if_true]
    refine Ev.step (fun k => laws_FnTrialOf.j0.eq_2 ..) ?_
    by_cases hok : (okG g && okR g r && setB g.length s) = true
    · obtain ⟨k1, k2, k3, k4, k5⟩ := ok_split hok
      have ht : trialR g r s = trial g r s := by unfold trialR; rw [if_pos hok]
      rw [ht]
      cases hzero : (((trial g r s).length : Int) == 0) with
      | true => simp only [if_true]; exact Ev.now _
      | false =>
        simp only [Bool.false_eq_true, if_false]
        have hc : Ev (fun k => impl_CountsOf.f k g r) (counts g r) := by
          unfold impl_CountsOf.f
          refine Ev.bind (impl_GraphOk_ev g hz r (by omega)) ?_
          rw [Bool.and_eq_true] at hok
          simp only [hok.1, if_true]
          exact Ev.bind (impl_counts_ev g (Gr.of k1) r k2 (by omega)) (Ev.now _)
        refine Ev.bind hc ?_
        have loop : ∀ (e n : Nat) (i : Int), i = n → n ≤ (trial g r s).length → (trial g r s).length - n ≤ e → Ev (fun k => laws_FnTrialOf.l0 k s (trial g r s) (counts g r) i) true := by
          have hl := trial_length g r s
          have stop : ∀ (n : Nat) (i : Int), i = n → n = (trial g r s).length → Ev (fun k => laws_FnTrialOf.l0 k s (trial g r s) (counts g r) i) true := by
            intro n i hi hn
            refine Ev.step (fun k => laws_FnTrialOf.l0.eq_2 ..) ?_
            simp only [if_neg (show ¬ i < ((trial g r s).length : Int) by omega), if_pos (show ((trial g r s).length : Int) = (s.length : Int) by omega)]
            exact Ev.now _
          intro e
          induction e with
          | zero => intro n i hi hn he; exact stop n i hi (by omega)
          | succ e ih =>
            intro n i hi hn he
            rcases Nat.lt_or_ge n (trial g r s).length with hlt | hge
            · have hns : n < s.length := by omega
              have hx := k4 _ (getD_mem (d := 0) hns)
              have hv := trial_nonneg (Gr.of k1) k2 k5 k4 (s.getD n 0).toNat
              have he' : (trial g r s).getD n 0 = (bumps (-1) (counts g r) (setRefs g s)).getD (s.getD n 0).toNat 0 := by
                unfold trial
                rw [getD_lt (by simpa using hns), List.getElem_map, ← getD_lt (d := 0) hns]
              rw [← he'] at hv
              have hcl := counts_length g r
              refine Ev.step (fun k => laws_FnTrialOf.l0.eq_2 ..) ?_
              simp only [if_pos (show i < ((trial g r s).length : Int) by omega), if_pos (show 0 ≤ i by omega), rd_nat (trial g r s) n i hi, rd_nat s n i hi, if_neg (show ¬ (trial g r s).getD n 0 < 0 by omega), if_pos (show i < (s.length : Int) by omega), if_pos hx.1, if_pos (show s.getD n 0 < ((counts g r).length : Int) by omega), rd_nat (counts g r) (s.getD n 0).toNat (s.getD n 0) (by omega), if_neg (show ¬ (trial g r s).getD n 0 > (counts g r).getD (s.getD n 0).toNat 0 by omega), w64 (x := i + 1) (by omega) (by omega)]
              exact ih (n + 1) (i + 1) (by omega) (by omega) (by omega)
            · exact stop n i hi (by omega)
        exact loop _ 0 0 rfl (Nat.zero_le _) (Nat.le_refl _)
    · have ht : trialR g r s = [] := by unfold trialR; rw [if_neg hok]
      rw [ht]
      simp only [List.length_nil, Int.natCast_zero, beq_self_eq_true, if_true]
      exact Ev.now _

end Go.Proofs.Ytljieofkagmdaaa.Pure
