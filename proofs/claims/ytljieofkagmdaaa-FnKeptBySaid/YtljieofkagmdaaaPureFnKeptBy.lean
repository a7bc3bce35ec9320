/- Proved: counts keep what is reached; no condition beyond the statement's. -/
import Derived.Test.YtljieofkagmdaaaGrKept
import Derived.Test.YtljieofkagmdaaaGrSame
import Derived.Test.YtljieofkagmdaaaGrDraw
import Derived.Test.YtljieofkagmdaaaQ18
import Derived.Test.YtljieofkagmdaaaQ28
set_option linter.unusedSimpArgs false
set_option linter.unusedVariables false
namespace Go.Proofs.Ytljieofkagmdaaa.Pure
open Go.RowKit Go.Proofs.Ytljieofkagmdaaa.Q Go.Proofs.YtljieofkagmdaaaW.PrintWords Go.Proofs.YtljieofkagmdaaaW.PrintLast Go.Proofs.GR Go.Proofs.Ytljieofkagmdaaa.GE Go.Proofs.Ytljieofkagmdaaa.RD

theorem asc_getD {l : List Int} (h : asc l) {n : Nat} (h0 : 0 < n) (hn : n < l.length) : l.getD (n - 1) 0 < l.getD n 0 := by
  unfold asc at h
  rw [List.pairwise_iff_getElem] at h
  rw [getD_lt (by omega), getD_lt hn]
  exact h (n - 1) n (by omega) hn (by omega)
theorem Ascends_ev (l : List Int) (hl : l.length ≤ 1000000) (h : asc l) : Ev (fun k => spec_Ascends.f k l) true := by
  have key : ∀ (d n : Nat) (i : Int), i = n → 0 < n → l.length - n ≤ d → Ev (fun k => spec_Ascends.l0 k l i) true := by
    intro d
    induction d with
    | zero =>
      intro n i hi h0 hd
      refine Ev.step (fun k => spec_Ascends.l0.eq_2 ..) ?_
      simp only [if_neg (show ¬ i < (l.length : Int) by omega)]
      exact Ev.now _
    | succ d ih =>
      intro n i hi h0 hd
      refine Ev.step (fun k => spec_Ascends.l0.eq_2 ..) ?_
      by_cases c : i < (l.length : Int)
      · have ha := asc_getD h h0 (show n < l.length by omega)
        rw [w64 (x := i - 1) (by omega) (by omega), w64 (x := i + 1) (by omega) (by omega)]
        simp only [if_pos c, if_pos (show 0 ≤ i by omega), if_pos (show 0 ≤ i - 1 by omega), if_pos (show i - 1 < (l.length : Int) by omega)]
        rw [rd_nat l n i hi, rd_nat l (n - 1) (i - 1) (by omega)]
        simp only [if_neg (show ¬ l.getD n 0 ≤ l.getD (n - 1) 0 by omega)]
        exact ih (n + 1) (i + 1) (by omega) (by omega) (by omega)
      · simp only [if_neg c]
        exact Ev.now _
  exact key l.length 1 1 rfl (by omega) (by omega)

theorem FnKeptBy : laws_FnKeptBy.Pure := by
  intro l h0 h1 hw
  refine Ev.rounds (g := fun k => laws_FnKeptBy.f k l) ?_
  unfold laws_FnKeptBy.f
  by_cases c0 : (l.length : Int) > 1048576
  · simp only [if_pos c0]; exact Ev.now _
  · simp only [if_neg c0]
    obtain ⟨d, hn, hd, -⟩ := newRnd_ok (Bytes.of c0 hw)
    obtain ⟨g, r, c1, hgr, hsm, hrl, p0, p1⟩ := graph_ev hd
    have hg1 := hsm.1
    have hz := hsm.sz
    have hdr : Ev (fun k => spec_DrawKeptBy.f k l) (g, r) := by
      unfold spec_DrawKeptBy.f
      simp only [hn, Option.bind_some]
      exact Ev.bind hgr (Ev.now _)
    obtain ⟨K, f1, f2, fl, f3, f4⟩ := KeptBy_ev g hz r (by omega)
    refine Ev.bind hdr (Ev.bind f1 (Ev.bind f2 (Ev.bind (SameInts_ev K K (by omega)) ?_)))
    simp only [decide_true, if_true]
    refine Ev.step (fun k => laws_FnKeptBy.j0.eq_2 ..) ?_
    cases hzero : ((K.length : Int) == 0) with
    | true => simp only [if_true]; exact Ev.now _
    | false =>
      simp only [Bool.false_eq_true, if_false]
      refine Ev.bind (impl_ReachedFrom_ev g hz r (by omega)) ?_
      have hrlen := reachedR_len g r
      have ho : (okG g && okR g r) = true := by
        rcases Decidable.em ((okG g && okR g r) = true) with q | q
        · exact q
        · rw [f3 q] at hzero; simp at hzero
      obtain ⟨k1, k2, k3, k4⟩ := okGR ho
      have hg := Gr.of k1
      obtain ⟨F, hch, hfull, rfl⟩ := f4 ho
      have hrr : reachedR g r = idxs (flags g r) true := by unfold reachedR; rw [if_pos ho]
      have loop : ∀ (e n : Nat) (i : Int), i = n → n ≤ (reachedR g r).length → (reachedR g r).length - n ≤ e → Ev (fun k => laws_FnKeptBy.l0 k (keepTo F g.length) (reachedR g r) i) true := by
        have stop : ∀ (n : Nat) (i : Int), i = n → n = (reachedR g r).length → Ev (fun k => laws_FnKeptBy.l0 k (keepTo F g.length) (reachedR g r) i) true := by
          intro n i hi hn
          refine Ev.step (fun k => laws_FnKeptBy.l0.eq_2 ..) ?_
          simp only [if_neg (show ¬ i < ((reachedR g r).length : Int) by omega)]
          exact Ev.bind (Ascends_ev _ (by omega) (asc_filter (allL_asc _) _)) (Ev.now _)
        intro e
        induction e with
        | zero => intro n i hi hn he; exact stop n i hi (by omega)
        | succ e ih =>
          intro n i hi hn he
          rcases Nat.lt_or_ge n (reachedR g r).length with hlt | hge
          · have hx := getD_mem (d := (0 : Int)) hlt
            refine Ev.step (fun k => laws_FnKeptBy.l0.eq_2 ..) ?_
            simp only [if_pos (show i < ((reachedR g r).length : Int) by omega), if_pos (show 0 ≤ i by omega), rd_nat (reachedR g r) n i hi]
            refine Ev.bind (HasInt_ev (keepTo F g.length) _ (by omega)) ?_
            have e1 : (reachedR g r).getD n 0 ∈ keepTo F g.length := by
              rw [hrr, mem_reached hg k2, ← hrr] at hx
              exact mem_keepTo.2 ⟨hx.idx hg k2, hch.unreached hg k2 hx⟩
            simp only [decide_eq_true e1, if_true]
            rw [w64 (x := i + 1) (by omega) (by omega)]
            exact ih (n + 1) (i + 1) (by omega) (by omega) (by omega)
          · exact stop n i hi (by omega)
      exact loop _ 0 0 rfl (Nat.zero_le _) (Nat.le_refl _)

end Go.Proofs.Ytljieofkagmdaaa.Pure
