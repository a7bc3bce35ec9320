/- Proved: what is freed is not reached; no condition beyond the statement's. -/
import Derived.Test.YtljieofkagmdaaaGrDrop
import Derived.Test.YtljieofkagmdaaaGrSame
import Derived.Test.YtljieofkagmdaaaGrHas
import Derived.Test.YtljieofkagmdaaaGrDrawDrop
import Derived.Test.YtljieofkagmdaaaQ26
set_option linter.unusedSimpArgs false
set_option linter.unusedVariables false
namespace Go.Proofs.Ytljieofkagmdaaa.Pure
open Go.RowKit Go.Proofs.Ytljieofkagmdaaa.Q Go.Proofs.YtljieofkagmdaaaW.PrintWords Go.Proofs.YtljieofkagmdaaaW.PrintLast Go.Proofs.GR Go.Proofs.Ytljieofkagmdaaa.GE Go.Proofs.Ytljieofkagmdaaa.RD

theorem FnDropRoot : laws_FnDropRoot.Pure := by
  intro l h0 h1 hw
  refine Ev.rounds (g := fun k => laws_FnDropRoot.f k l) ?_
  unfold laws_FnDropRoot.f
  by_cases c0 : (l.length : Int) > 1048576
  · simp only [if_pos c0]; exact Ev.now _
  · simp only [if_neg c0]
    obtain ⟨d, hn, hd, -⟩ := newRnd_ok (Bytes.of c0 hw)
    obtain ⟨g, r, at_, hdr, hsm, hrl⟩ := drawDrop_ev hn hd
    have hg1 := hsm.1
    have hz := hsm.sz
    obtain ⟨O, f1, f2, f3, f4⟩ := DropRoot_ev g hz r (by omega) at_
    refine Ev.bind hdr (Ev.bind f1 (Ev.bind f2 ?_))
    by_cases hok : okD g r at_
    · obtain ⟨ho, a0, a1⟩ := hok
      obtain ⟨k1, k2, k3, k4⟩ := okGR ho
      have hg := Gr.of k1
      obtain ⟨hch, hfirst⟩ := f4 ⟨ho, a0, a1⟩
      have hOl := nodup_len hch.nodup hch.idx
      refine Ev.bind (SameInts_ev O O (by omega)) ?_
      simp only [decide_true, if_true]
      refine Ev.step (fun k => laws_FnDropRoot.j0.eq_2 ..) ?_
      cases hzero : ((O.length : Int) == 0) with
      | true => simp only [if_true]; exact Ev.now _
      | false =>
        obtain ⟨m, rfl⟩ := Int.eq_ofNat_of_zero_le a0
        rw [show ((m : Int)).toNat = m from Int.toNat_natCast m] at hch hfirst
        have hm : m < r.length := by omega
        have htl : (r.take m).length = m := by rw [List.length_take]; omega
        have hdl : (r.drop (m + 1)).length = r.length - (m + 1) := List.length_drop
        have hw1 : wrap64 ((m : Int) + 1) = ((m + 1 : Nat) : Int) := by rw [w64 (by omega) (by omega)]; rfl
        simp only [Bool.false_eq_true, if_false, Option.bind_some, if_pos a0, if_pos (show (m : Int) ≤ (r.length : Int) by omega), Int.toNat_natCast, List.length_nil, Nat.zero_add, htl, if_pos (show m < 17592186044416 by omega), hw1, if_pos (show 0 ≤ ((m + 1 : Nat) : Int) by omega), if_pos (show ((m + 1 : Nat) : Int) ≤ (r.length : Int) by omega), List.nil_append, hdl, if_pos (show m + (r.length - (m + 1)) < 17592186044416 by omega)]
        have hwl := without_len r m
        refine Ev.bind (impl_ReachedFrom_ev g hz (without r m) (by omega)) ?_
        have ho' : (okG g && okR g (without r m)) = true := by
          rw [Bool.and_eq_true]
          refine ⟨k1, ?_⟩
          unfold okR
          rw [Bool.and_eq_true]
          exact ⟨idx_iff.2 fun x hx => k2 x (without_sub hx), by simp; omega⟩
        have k2' : ∀ x ∈ without r m, 0 ≤ x ∧ x < (g.length : Int) := fun x hx => k2 x (without_sub hx)
        have hrr : reachedR g (without r m) = idxs (flags g (without r m)) true := by unfold reachedR; rw [if_pos ho']
        have hrlen := reachedR_len g (without r m)
        have hfin : 0 < O.length ∧ O.getD 0 0 = r.getD m 0 := by
          rcases hfirst with e | ⟨s, e⟩
          · subst e; simp at hzero
          · subst e; exact ⟨by simp, rfl⟩
        have loop : ∀ (e n : Nat) (i : Int), i = n → n ≤ O.length → O.length - n ≤ e → Ev (fun k => laws_FnDropRoot.l0 k r (m : Int) O (reachedR g (without r m)) i) true := by
          have stop : ∀ (n : Nat) (i : Int), i = n → n = O.length → Ev (fun k => laws_FnDropRoot.l0 k r (m : Int) O (reachedR g (without r m)) i) true := by
            intro n i hi hn
            refine Ev.step (fun k => laws_FnDropRoot.l0.eq_2 ..) ?_
            simp only [if_neg (show ¬ i < (O.length : Int) by omega), if_pos (show 0 < (O.length : Int) by omega), if_pos a0, if_pos a1]
            rw [rd_nat O 0 0 rfl, rd_nat r m m rfl, hfin.2, beq_self_eq_true]
            exact Ev.now _
          intro e
          induction e with
          | zero => intro n i hi hn he; exact stop n i hi (by omega)
          | succ e ih =>
            intro n i hi hn he
            rcases Nat.lt_or_ge n O.length with hlt | hge
            · have hx := getD_mem (d := (0 : Int)) hlt
              refine Ev.step (fun k => laws_FnDropRoot.l0.eq_2 ..) ?_
              simp only [if_pos (show i < (O.length : Int) by omega), if_pos (show 0 ≤ i by omega), rd_nat O n i hi]
              refine Ev.bind (HasInt_ev (reachedR g (without r m)) _ (by omega)) ?_
              have e1 : ¬ O.getD n 0 ∈ reachedR g (without r m) := by
                rw [hrr, mem_reached hg k2']
                exact fun q => hch.unreached hg k2' q hx
              simp only [decide_eq_false e1, Bool.false_eq_true, if_false, if_pos (show i ≤ (O.length : Int) by omega)]
              rw [show i.toNat = n by omega]
              refine Ev.bind (HasInt_ev (O.take n) _ (by rw [List.length_take]; omega)) ?_
              have e2 : ¬ O.getD n 0 ∈ O.take n := by
                have hnd := hch.nodup
                rw [← List.take_append_drop n O, List.nodup_append] at hnd
                intro q
                exact hnd.2.2 _ q (O.getD n 0) (by rw [drop_cons (d := (0 : Int)) hlt]; simp) rfl
              simp only [decide_eq_false e2, Bool.false_eq_true, if_false]
              rw [w64 (x := i + 1) (by omega) (by omega)]
              exact ih (n + 1) (i + 1) (by omega) (by omega) (by omega)
            · exact stop n i hi (by omega)
        exact loop _ 0 0 rfl (Nat.zero_le _) (Nat.le_refl _)
    · rw [f3 hok]
      refine Ev.bind (SameInts_ev [] [] (by simp)) ?_
      simp only [decide_true, if_true, List.length_nil, Int.natCast_zero, beq_self_eq_true]
      refine Ev.step (fun k => laws_FnDropRoot.j0.eq_2 ..) ?_
      simp only [if_true]
      exact Ev.now _

end Go.Proofs.Ytljieofkagmdaaa.Pure
