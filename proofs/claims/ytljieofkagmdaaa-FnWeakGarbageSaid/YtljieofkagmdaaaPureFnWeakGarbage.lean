/- Proved: weak references die with garbage; no condition beyond the statement's. -/
import Derived.Test.YtljieofkagmdaaaGrEv5s
import Derived.Test.YtljieofkagmdaaaGrEv6
import Derived.Test.YtljieofkagmdaaaGrWeak
import Derived.Test.YtljieofkagmdaaaGrSame
import Derived.Test.YtljieofkagmdaaaGrHas
import Derived.Test.YtljieofkagmdaaaGrDraw
import Derived.Test.YtljieofkagmdaaaQ15
import Derived.Test.YtljieofkagmdaaaQ16
import Derived.Test.YtljieofkagmdaaaQ27
import Derived.Test.YtljieofkagmdaaaQ28
set_option linter.unusedSimpArgs false
set_option linter.unusedVariables false
namespace Go.Proofs.Ytljieofkagmdaaa.Pure
open Go.RowKit Go.Proofs.Ytljieofkagmdaaa.Q Go.Proofs.YtljieofkagmdaaaW.PrintWords Go.Proofs.YtljieofkagmdaaaW.PrintLast Go.Proofs.GR Go.Proofs.Ytljieofkagmdaaa.GE Go.Proofs.Ytljieofkagmdaaa.RD

theorem FnWeakGarbage : laws_FnWeakGarbage.Pure := by
  intro l h0 h1 hw
  refine Ev.rounds (g := fun k => laws_FnWeakGarbage.f k l) ?_
  unfold laws_FnWeakGarbage.f
  by_cases c0 : (l.length : Int) > 1048576
  · simp only [if_pos c0]; exact Ev.now _
  · simp only [if_neg c0]
    have hB := Bytes.of c0 hw
    obtain ⟨d, hn, hd, -⟩ := newRnd_ok hB
    obtain ⟨g, r, c1, hgr, hsm, hrl, p0, p1⟩ := graph_ev hd
    have hgl := hsm.1
    have hdr : Ev (fun k => spec_DrawReachedFrom.f k l) (g, r) := by
      unfold spec_DrawReachedFrom.f
      simp only [hn, Option.bind_some]
      exact Ev.bind hgr (Ev.now _)
    have hz := hsm.sz
    refine Ev.bind hdr (Ev.bind (impl_ReachedFrom_ev g hz r (by omega)) (Ev.bind (spec_ReachedFrom_ev g hz r (by omega)) ?_))
    have hrlen := reachedR_len g r
    refine Ev.bind (SameInts_ev (reachedR g r) (reachedR g r) (by omega)) ?_
    simp only [decide_true, if_true]
    have fin : Ev (fun k => (impl_WeakLeft.f k g r (allL g.length)).bind fun t798 => ((impl_GarbageOf.f k g r (allL g.length)).bind fun t801 => (laws_FnWeakGarbage.l1 k t798 t801 0))) true := by
      have hal := allL_length g.length
      refine Ev.bind (impl_WeakLeft_ev g hz r (by omega) (allL g.length) (by omega)) (Ev.bind (impl_GarbageOf_ev g hz r (by omega) (allL g.length) (by omega)) ?_)
      have hgar := garbR_len g r (allL g.length)
      have loop : ∀ (e n : Nat) (i : Int), i = n → n ≤ (weakR g r (allL g.length)).length → (weakR g r (allL g.length)).length - n ≤ e → Ev (fun k => laws_FnWeakGarbage.l1 k (weakR g r (allL g.length)) (garbR g r (allL g.length)) i) true := by
        have hwl : (weakR g r (allL g.length)).length ≤ g.length := by
          unfold weakR
          split
          · rw [List.length_map, allL_length]; omega
          · simp
        have stop : ∀ (n : Nat) (i : Int), i = n → n = (weakR g r (allL g.length)).length → Ev (fun k => laws_FnWeakGarbage.l1 k (weakR g r (allL g.length)) (garbR g r (allL g.length)) i) true := by
          intro n i hi hn
          refine Ev.step (fun k => laws_FnWeakGarbage.l1.eq_2 ..) ?_
          simp only [if_neg (show ¬ i < ((weakR g r (allL g.length)).length : Int) by omega)]
          exact Ev.now _
        intro e
        induction e with
        | zero => intro n i hi hn he; exact stop n i hi (by omega)
        | succ e ih =>
          intro n i hi hn he
          rcases Nat.lt_or_ge n (weakR g r (allL g.length)).length with hlt | hge
          · refine Ev.step (fun k => laws_FnWeakGarbage.l1.eq_2 ..) ?_
            simp only [if_pos (show i < ((weakR g r (allL g.length)).length : Int) by omega), if_pos (show 0 ≤ i by omega), rd_nat (weakR g r (allL g.length)) n i hi]
            refine Ev.bind (HasInt_ev _ _ (by omega)) ?_
            have key : decide ((weakR g r (allL g.length)).getD n 0 < 0) = decide (i ∈ garbR g r (allL g.length)) := by
              by_cases hok : (okG g && okR g r) = true ∧ (allL g.length).length ≤ 12 ∧ wok g.length (allL g.length) = true
              · obtain ⟨q1, q2, q3, q4⟩ := okGR hok.1
                have hset : setB g.length (allL g.length) = true := by
                  unfold setB
                  rw [idx_iff.2 (fun x hx => mem_allL.1 hx), decide_eq_true (allL_asc _)]; rfl
                have e1 : weakR g r (allL g.length) = (allL g.length).map (left (flags g r)) := by unfold weakR; rw [if_pos hok]
                have e2 : garbR g r (allL g.length) = garb g r (allL g.length) := by unfold garbR; rw [if_pos (by rw [hok.1, hset]; rfl)]
                rw [e2, e1]
                rw [e1, List.length_map, allL_length] at hlt
                have e3 : ((allL g.length).map (left (flags g r))).getD n 0 = left (flags g r) (n : Int) := by
                  unfold allL
                  rw [List.map_map, List.getD_eq_getElem?_getD, List.getElem?_map, List.getElem?_range hlt]; rfl
                rw [e3, Bool.eq_iff_iff, decide_eq_true_eq, decide_eq_true_eq, hi, mem_garb_all (Gr.of q1) q2]
                unfold left
                have e4 := flags_getD g r n hlt
                rw [Int.toNat_natCast]
                constructor
                · intro h
                  refine ⟨by omega, fun q => ?_⟩
                  rw [if_pos ⟨by omega, e4.2 q⟩] at h
                  omega
                · rintro ⟨h5, h6⟩
                  rw [if_neg (fun q => h6 (e4.1 q.2))]
                  decide
              · have e1 : weakR g r (allL g.length) = [] := by unfold weakR; rw [if_neg hok]
                rw [e1] at hlt
                simp at hlt
            simp only [key, bne_self_eq_false, Bool.false_eq_true, if_false, w64 (x := i + 1) (by omega) (by omega)]
            exact ih (n + 1) (i + 1) (by omega) (by omega) (by omega)
          · exact stop n i hi (by omega)
      exact loop _ 0 0 rfl (Nat.zero_le _) (Nat.le_refl _)
    have fill : ∀ (e n : Nat) (i : Int), i = n → n ≤ g.length → g.length - n ≤ e → Ev (fun k => laws_FnWeakGarbage.l0 k g r (allL n) i) true := by
      have stop : ∀ (n : Nat) (i : Int), i = n → n = g.length → Ev (fun k => laws_FnWeakGarbage.l0 k g r (allL n) i) true := by
        intro n i hi hn
        refine Ev.step (fun k => laws_FnWeakGarbage.l0.eq_2 ..) ?_
        simp only [if_neg (show ¬ i < (g.length : Int) by omega)]
        rw [hn]
        exact fin
      intro e
      induction e with
      | zero => intro n i hi hn he; exact stop n i hi (by omega)
      | succ e ih =>
        intro n i hi hn he
        rcases Nat.lt_or_ge n g.length with hlt | hge
        · have hal := allL_length n
          refine Ev.step (fun k => laws_FnWeakGarbage.l0.eq_2 ..) ?_
          simp only [if_pos (show i < (g.length : Int) by omega), if_pos (show (allL n).length < 17592186044416 by omega), w64 (x := i + 1) (by omega) (by omega)]
          have h1 := ih (n + 1) (i + 1) (by omega) (by omega) (by omega)
          have e : allL (n + 1) = allL n ++ [(n : Int)] := by unfold allL; rw [List.range_succ, List.map_append]; rfl
          rw [e] at h1
          rw [hi]
          rw [hi] at h1
          exact h1
        · exact stop n i hi (by omega)
    exact fill g.length 0 0 rfl (Nat.zero_le _) (by omega)

end Go.Proofs.Ytljieofkagmdaaa.Pure
