/- Proved: weak references live with what they refer to; no condition beyond the statement's. -/
import Derived.Test.YtljieofkagmdaaaGrEv5
import Derived.Test.YtljieofkagmdaaaGrWeakS
import Derived.Test.YtljieofkagmdaaaGrSame
import Derived.Test.YtljieofkagmdaaaGrHas
import Derived.Test.YtljieofkagmdaaaGrDrawWeak
import Derived.Test.YtljieofkagmdaaaQ23
set_option linter.unusedSimpArgs false
set_option linter.unusedVariables false
namespace Go.Proofs.Ytljieofkagmdaaa.Pure
open Go.RowKit Go.Proofs.Ytljieofkagmdaaa.Q Go.Proofs.YtljieofkagmdaaaW.PrintWords Go.Proofs.YtljieofkagmdaaaW.PrintLast Go.Proofs.GR Go.Proofs.Ytljieofkagmdaaa.GE Go.Proofs.Ytljieofkagmdaaa.RD

theorem FnWeakLeft : laws_FnWeakLeft.Pure := by
  intro l h0 h1 hw
  refine Ev.rounds (g := fun k => laws_FnWeakLeft.f k l) ?_
  unfold laws_FnWeakLeft.f
  by_cases c0 : (l.length : Int) > 1048576
  · simp only [if_pos c0]; exact Ev.now _
  · simp only [if_neg c0]
    obtain ⟨g, r, w, hdr, hsm, hrl, hwl⟩ := DrawWeakLeft_ev (Bytes.of c0 hw)
    have hz := hsm.sz
    have hgl := hsm.1
    have hlen : (weakR g r w).length ≤ w.length := by
      unfold weakR
      split
      · rw [List.length_map]; omega
      · simp
    refine Ev.bind hdr (Ev.bind (impl_WeakLeft_ev g hz r (by omega) w (by omega)) (Ev.bind (spec_WeakLeft_ev g hz r (by omega) w (by omega)) ?_))
    refine Ev.bind (SameInts_ev (weakR g r w) (weakR g r w) (by omega)) ?_
    simp only [decide_true, if_true]
    refine Ev.step (fun k => laws_FnWeakLeft.j0.eq_2 ..) ?_
    by_cases hok : (okG g && okR g r) = true ∧ w.length ≤ 12 ∧ wok g.length w = true
    · obtain ⟨q1, q2, q3, q4⟩ := okGR hok.1
      have e1 : weakR g r w = w.map (left (flags g r)) := by unfold weakR; rw [if_pos hok]
      cases hzero : (((weakR g r w).length : Int) == 0) with
      | true => simp only [if_true]; exact Ev.now _
      | false =>
        simp only [Bool.false_eq_true, if_false]
        refine Ev.bind (impl_ReachedFrom_ev g hz r (by omega)) ?_
        have hrr : reachedR g r = idxs (flags g r) true := by unfold reachedR; rw [if_pos hok.1]
        have hrlen := reachedR_len g r
        have hidx := wok_iff.1 hok.2.2
        have hll : ∀ x, -1 ≤ x ∧ x < (g.length : Int) → (-1 ≤ left (flags g r) x ∧ left (flags g r) x < (g.length : Int)) ∧ left (flags g r) (left (flags g r) x) = left (flags g r) x ∧ (left (flags g r) x ≠ -1 → left (flags g r) x = x ∧ Rch g r x) := by
          intro x hx
          unfold left
          by_cases c : x ≥ 0 ∧ (flags g r).getD x.toNat false = true
          · rw [if_pos c]
            refine ⟨hx, by rw [if_pos c], fun _ => ⟨rfl, (flags_iff c.1 hx.2).1 c.2⟩⟩
          · rw [if_neg c]
            refine ⟨by omega, by rw [if_neg (by omega)], fun q => absurd rfl q⟩
        have again : weakR g r (weakR g r w) = weakR g r w := by
          rw [e1]
          have hok2 : (okG g && okR g r) = true ∧ (w.map (left (flags g r))).length ≤ 12 ∧ wok g.length (w.map (left (flags g r))) = true := by
            refine ⟨hok.1, by rw [List.length_map]; exact hok.2.1, wok_iff.2 (fun x hx => ?_)⟩
            obtain ⟨y, hy, rfl⟩ := List.mem_map.1 hx
            exact (hll y (hidx y hy)).1
          unfold weakR
          rw [if_pos hok2, List.map_map]
          refine List.map_congr_left (fun x hx => ?_)
          exact (hll x (hidx x hx)).2.1
        have hl2 : (weakR g r w).length = w.length := by rw [e1, List.length_map]
        have loop : ∀ (e n : Nat) (i : Int), i = n → n ≤ w.length → w.length - n ≤ e → Ev (fun k => laws_FnWeakLeft.l0 k g r w (weakR g r w) (reachedR g r) i) true := by
          have stop : ∀ (n : Nat) (i : Int), i = n → n = w.length → Ev (fun k => laws_FnWeakLeft.l0 k g r w (weakR g r w) (reachedR g r) i) true := by
            intro n i hi hn
            refine Ev.step (fun k => laws_FnWeakLeft.l0.eq_2 ..) ?_
            simp only [if_neg (show ¬ i < ((weakR g r w).length : Int) by omega), if_pos (show ((weakR g r w).length : Int) = (w.length : Int) by omega)]
            refine Ev.bind (impl_WeakLeft_ev g hz r (by omega) (weakR g r w) (by omega)) ?_
            rw [again]
            refine Ev.bind (SameInts_ev (weakR g r w) (weakR g r w) (by omega)) ?_
            simp only [decide_true]
            exact Ev.now _
          intro e
          induction e with
          | zero => intro n i hi hn he; exact stop n i hi (by omega)
          | succ e ih =>
            intro n i hi hn he
            rcases Nat.lt_or_ge n w.length with hlt | hge
            · have h3 := hll _ (hidx _ (getD_mem (d := 0) hlt))
              have e3 : (weakR g r w).getD n 0 = left (flags g r) (w.getD n 0) := by
                rw [e1, getD_lt (by rw [List.length_map]; exact hlt), List.getElem_map, ← getD_lt (d := 0) hlt]
              refine Ev.step (fun k => laws_FnWeakLeft.l0.eq_2 ..) ?_
              simp only [if_pos (show i < ((weakR g r w).length : Int) by omega), if_pos (show 0 ≤ i by omega), rd_nat (weakR g r w) n i hi, rd_nat w n i hi, e3, if_pos (show i < (w.length : Int) by omega), w64 (x := i + 1) (by omega) (by omega)]
              by_cases c : left (flags g r) (w.getD n 0) = -1
              · simp only [if_pos c]
                exact ih (n + 1) (i + 1) (by omega) (by omega) (by omega)
              · obtain ⟨h4, h5⟩ := h3.2.2 c
                simp only [if_neg c, if_pos h4]
                refine Ev.bind (HasInt_ev (reachedR g r) _ (by omega)) ?_
                have h6 : left (flags g r) (w.getD n 0) ∈ reachedR g r := by rw [hrr, mem_reached (Gr.of q1) q2, h4]; exact h5
                simp only [decide_eq_true h6, if_true]
                exact ih (n + 1) (i + 1) (by omega) (by omega) (by omega)
            · exact stop n i hi (by omega)
        exact loop w.length 0 0 rfl (Nat.zero_le _) (by omega)
    · have e1 : weakR g r w = [] := by unfold weakR; rw [if_neg hok]
      rw [e1]
      simp only [List.length_nil, Int.natCast_zero, beq_self_eq_true, if_true]
      exact Ev.now _

end Go.Proofs.Ytljieofkagmdaaa.Pure
