/- Proved: garbage is not reached; no condition beyond the statement's. -/
import Derived.Test.YtdhjkfoijaifcaaGrEv5
import Derived.Test.YtdhjkfoijaifcaaGrEv8
import Derived.Test.YtdhjkfoijaifcaaGrSame
import Derived.Test.YtdhjkfoijaifcaaGrHas
import Derived.Test.YtdhjkfoijaifcaaGrDraw
import Derived.Test.YtdhjkfoijaifcaaGrDrawSet
import Derived.Test.YtdhjkfoijaifcaaQ19
import Derived.Test.YtdhjkfoijaifcaaQ23
set_option linter.unusedSimpArgs false
set_option linter.unusedVariables false
namespace Go.Proofs.Ytdhjkfoijaifcaa.Pure
open Go.RowKit Go.Proofs.Ytdhjkfoijaifcaa.Q Go.Proofs.YtdhjkfoijaifcaaW.PrintWords Go.Proofs.YtdhjkfoijaifcaaW.PrintLast Go.Proofs.GR Go.Proofs.Ytdhjkfoijaifcaa.GE Go.Proofs.Ytdhjkfoijaifcaa.RD

theorem FnGarbageOf : laws_FnGarbageOf.Pure := by
  intro l h0 h1 hw
  refine Ev.rounds (g := fun k => laws_FnGarbageOf.f k l) ?_
  unfold laws_FnGarbageOf.f
  by_cases c0 : (l.length : Int) > 1048576
  · simp only [if_pos c0]; exact Ev.now _
  · simp only [if_neg c0]
    have hB := Bytes.of c0 hw
    obtain ⟨d, hn, hd, -⟩ := newRnd_ok hB
    obtain ⟨g, r, c1, hgr, hsm, hrl, p0, p1⟩ := graph_ev hd
    have hgl := hsm.1
    obtain ⟨s, c2, hs, hsl, q0, q1⟩ := set_ev hd g.length (by omega) (c := c1) p0 (by omega)
    have hdr : Ev (fun k => spec_DrawGarbageOf.f k l) (g, r, s) := by
      unfold spec_DrawGarbageOf.f
      simp only [hn, Option.bind_some]
      exact Ev.bind hgr (Ev.bind hs (Ev.now _))
    have hz := hsm.sz
    refine Ev.bind hdr (Ev.bind (impl_GarbageOf_ev g hz r (by omega) s (by omega)) (Ev.bind (spec_GarbageOf_ev g hz r (by omega) s (by omega)) ?_))
    have htl := garbR_len g r s
    refine Ev.bind (SameInts_ev (garbR g r s) (garbR g r s) (by omega)) ?_
    simp only [decide_true, if_true]
    refine Ev.step (fun k => laws_FnGarbageOf.j0.eq_2 ..) ?_
    by_cases hok : (okG g && okR g r && setB g.length s) = true
    · obtain ⟨k1, k2, k3, k4, k5⟩ := ok_split hok
      have ht : garbR g r s = garb g r s := by unfold garbR; rw [if_pos hok]
      rw [ht] at htl ⊢
      cases hzero : (((garb g r s).length : Int) == 0) with
      | true => simp only [if_true]; exact Ev.now _
      | false =>
        simp only [Bool.false_eq_true, if_false]
        refine Ev.bind (impl_ReachedFrom_ev g hz r (by omega)) ?_
        have hokgr : (okG g && okR g r) = true := (Bool.and_eq_true _ _ ▸ hok : _ ∧ _).1
        have hrr : reachedR g r = idxs (flags g r) true := by unfold reachedR; rw [if_pos hokgr]
        have hrlen := reachedR_len g r
        have loop : ∀ (e n : Nat) (i : Int), i = n → n ≤ (garb g r s).length → (garb g r s).length - n ≤ e → Ev (fun k => laws_FnGarbageOf.l0 k g s (garb g r s) (reachedR g r) i) true := by
          have stop : ∀ (n : Nat) (i : Int), i = n → n = (garb g r s).length → Ev (fun k => laws_FnGarbageOf.l0 k g s (garb g r s) (reachedR g r) i) true := by
            intro n i hi hn
            refine Ev.step (fun k => laws_FnGarbageOf.l0.eq_2 ..) ?_
            simp only [if_neg (show ¬ i < ((garb g r s).length : Int) by omega)]
            by_cases c : (s.length : Int) < (g.length : Int)
            · simp only [if_pos c]; exact Ev.now _
            · simp only [if_neg c]
              have hall : s = allL g.length := all_of_len k5 k4 (by omega)
              have e1 : garb g r s = idxs (flags g r) false := by
                refine asc_ext ?_ (idxs_asc _ _) (fun x => ?_)
                · unfold garb; exact asc_filter k5 _
                · rw [hall, mem_garb_all (Gr.of k1) k2, mem_idxs, flags_length]
                  constructor
                  · rintro ⟨⟨a, b⟩, c⟩
                    rw [← flags_iff a b] at c
                    exact ⟨a, b, by simpa using c⟩
                  · rintro ⟨a, b, c⟩
                    refine ⟨⟨a, b⟩, fun q => ?_⟩
                    rw [← flags_iff a b, c] at q
                    simp at q
              have e2 : (idxs (flags g r) false).length + (idxs (flags g r) true).length = g.length := by
                have : ∀ (p : Nat → Bool) (l : List Nat), (l.filter fun i => p i == false).length + (l.filter fun i => p i == true).length = l.length := by
                  intro p l
                  induction l with
                  | nil => rfl
                  | cons a l ih => cases h : p a <;> simp [List.filter, h] <;> simp at ih <;> omega
                have h2 := this (fun i => (flags g r).getD i false) (List.range (flags g r).length)
                unfold idxs
                rw [List.length_map, List.length_map]
                rw [List.length_range, flags_length] at h2
                rw [flags_length]
                exact h2
              rw [hrr, e1, w64 (by omega) (by omega)]
              simp only [if_pos (show ((idxs (flags g r) false).length : Int) = (g.length : Int) - ((idxs (flags g r) true).length : Int) by omega)]
              exact Ev.now _
          intro e
          induction e with
          | zero => intro n i hi hn he; exact stop n i hi (by omega)
          | succ e ih =>
            intro n i hi hn he
            rcases Nat.lt_or_ge n (garb g r s).length with hlt | hge
            · have hx := getD_mem (d := (0 : Int)) hlt
              have hx1 := garb_unreached (Gr.of k1) k2 k5 k4 hx
              have hx2 := ((mem_garb k4).1 hx).1
              refine Ev.step (fun k => laws_FnGarbageOf.l0.eq_2 ..) ?_
              simp only [if_pos (show i < ((garb g r s).length : Int) by omega), if_pos (show 0 ≤ i by omega), rd_nat (garb g r s) n i hi]
              refine Ev.bind (HasInt_ev (reachedR g r) _ (by omega)) ?_
              have e1 : ¬ (garb g r s).getD n 0 ∈ reachedR g r := by rw [hrr, mem_reached (Gr.of k1) k2]; exact hx1
              simp only [decide_eq_false e1, Bool.false_eq_true, if_false]
              refine Ev.bind (HasInt_ev s _ (by omega)) ?_
              simp only [decide_eq_true hx2, if_true, w64 (x := i + 1) (by omega) (by omega)]
              exact ih (n + 1) (i + 1) (by omega) (by omega) (by omega)
            · exact stop n i hi (by omega)
        exact loop _ 0 0 rfl (Nat.zero_le _) (Nat.le_refl _)
    · have ht : garbR g r s = [] := by unfold garbR; rw [if_neg hok]
      rw [ht]
      simp only [List.length_nil, Int.natCast_zero, beq_self_eq_true, if_true]
      exact Ev.now _

end Go.Proofs.Ytdhjkfoijaifcaa.Pure
