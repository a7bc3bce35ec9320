/- Proved: collections of all generations leave what is reached; no condition beyond the statement's. -/
import Derived.Test.YtdhjkfoijaifcaaGrEv5
import Derived.Test.YtdhjkfoijaifcaaGrEv9
import Derived.Test.YtdhjkfoijaifcaaGrSame
import Derived.Test.YtdhjkfoijaifcaaGrHas
import Derived.Test.YtdhjkfoijaifcaaGrDrawGens
import Derived.Test.YtdhjkfoijaifcaaQ18
set_option linter.unusedSimpArgs false
set_option linter.unusedVariables false
namespace Go.Proofs.Ytdhjkfoijaifcaa.Pure
open Go.RowKit Go.Proofs.Ytdhjkfoijaifcaa.Q Go.Proofs.YtdhjkfoijaifcaaW.PrintWords Go.Proofs.YtdhjkfoijaifcaaW.PrintLast Go.Proofs.GR Go.Proofs.Ytdhjkfoijaifcaa.GE Go.Proofs.Ytdhjkfoijaifcaa.RD

theorem FnCollectReached : laws_FnCollectReached.Pure := by
  intro l h0 h1 hw
  refine Ev.rounds (g := fun k => laws_FnCollectReached.f k l) ?_
  unfold laws_FnCollectReached.f
  by_cases c0 : (l.length : Int) > 1048576
  · simp only [if_pos c0]; exact Ev.now _
  · simp only [if_neg c0]
    have hB := Bytes.of c0 hw
    obtain ⟨d, hn, hd, -⟩ := newRnd_ok hB
    obtain ⟨g, r, gens, top, hdr, hsm, hrl, hgl⟩ := drawCollect_ev hn hd
    have hg1 := hsm.1
    have hz := hsm.sz
    refine Ev.bind hdr (Ev.bind (impl_CollectUpTo_ev g hz r (by omega) gens (by omega) top) (Ev.bind (spec_CollectUpTo_ev g hz r (by omega) gens (by omega) top) ?_))
    have hlen : ∀ t, (colR g r gens t).length ≤ 1001 := by
      intro t
      unfold colR
      split
      · rw [col_length]; exact hgl
      · simp
    refine Ev.bind (SameInts_ev _ _ (by have := hlen top; omega)) ?_
    simp only [decide_true, if_true]
    refine Ev.bind (impl_CollectUpTo_ev g hz r (by omega) gens (by omega) 2) (Ev.bind (impl_ReachedFrom_ev g hz r (by omega)) ?_)
    have hrlen := reachedR_len g r
    have hl2 := hlen 2
    -- what all of it tells: nothing, or all of the graph
    have hfacts : ∀ n : Nat, n < (colR g r gens 2).length → (0 ≤ (colR g r gens 2).getD n 0 ↔ (n : Int) ∈ reachedR g r) ∧ ((colR g r gens top).length = (colR g r gens 2).length → (colR g r gens top).getD n 0 < 0 → (colR g r gens 2).getD n 0 < 0) := by
      intro n hn
      by_cases hok : (okG g && okR g r) = true ∧ gens.length = g.length ∧ idx 3 gens = true ∧ 0 ≤ (2 : Int) ∧ (2 : Int) ≤ 2
      · obtain ⟨ho, hgl2, hid, -, -⟩ := hok
        have e2 : colR g r gens 2 = col g r gens 2 := by unfold colR; rw [if_pos ⟨ho, hgl2, hid, by omega, by omega⟩]
        rw [e2] at hn ⊢
        rw [col_length] at hn
        have hoG : okG g = true := (Bool.and_eq_true _ _ ▸ ho : _ ∧ _).1
        have hoR : okR g r = true := (Bool.and_eq_true _ _ ▸ ho : _ ∧ _).2
        have hg := Gr.of hoG
        have hri : ∀ x ∈ r, 0 ≤ x ∧ x < (g.length : Int) := by
          unfold okR at hoR
          rw [Bool.and_eq_true] at hoR
          exact idx_iff.1 hoR.1
        have hidx := idx_iff.1 hid
        have hall : upS gens 2 gens.length = allL g.length := by
          refine asc_ext (upS_asc _ _ _) (allL_asc _) (fun x => ?_)
          rw [mem_upS, mem_allL, hgl2]
          constructor
          · exact fun h => h.1
          · intro h
            refine ⟨h, ?_⟩
            have := hidx _ (getD_mem (l := gens) (n := x.toNat) (d := (0 : Int)) (by omega))
            omega
        have hpos : 0 ≤ gens.getD n 0 := (hidx _ (getD_mem (d := (0 : Int)) hn)).1
        have hrr : reachedR g r = idxs (flags g r) true := by unfold reachedR; rw [if_pos ho]
        have key : ((n : Int) ∈ garb g r (allL g.length)) ↔ ¬ Rch g r n := by
          rw [mem_garb_all hg hri]
          exact ⟨fun h => h.2, fun h => ⟨by omega, h⟩⟩
        have hx2 : 0 ≤ (col g r gens 2).getD n 0 ↔ Rch g r n := by
          rw [col_getD hgl2, hall]
          by_cases c : Rch g r n
          · rw [if_neg (by rw [key]; exact fun h => h c), if_pos (by rw [mem_allL]; omega)]
            exact ⟨fun _ => c, fun _ => by decide⟩
          · rw [if_pos (key.2 c)]
            exact ⟨fun h => by omega, fun h => absurd h c⟩
        refine ⟨?_, ?_⟩
        · rw [hx2, hrr, mem_reached hg hri]
        · intro hle hneg
          by_cases ht : 0 ≤ top ∧ top ≤ 2
          · have e3 : colR g r gens top = col g r gens top := by unfold colR; rw [if_pos ⟨ho, hgl2, hid, ht.1, ht.2⟩]
            rw [e3, col_getD hgl2] at hneg
            by_cases c : (n : Int) ∈ garb g r (upS gens top gens.length)
            · have hsi : ∀ x ∈ upS gens top gens.length, 0 ≤ x ∧ x < (g.length : Int) := fun x hx => by have := (mem_upS.1 hx).1; omega
              have := garb_unreached hg hri (upS_asc _ _ _) hsi c
              rw [← hx2] at this
              omega
            · rw [if_neg c] at hneg
              split at hneg
              · omega
              · omega
          · have e3 : colR g r gens top = [] := by unfold colR; rw [if_neg (fun h => ht ⟨h.2.2.2.1, h.2.2.2.2⟩)]
            rw [e3] at hle
            rw [col_length] at hle
            simp at hle
            omega
      · have e2 : colR g r gens 2 = [] := by unfold colR; rw [if_neg hok]
        rw [e2] at hn
        simp at hn
    have loop : ∀ (e n : Nat) (i : Int), i = n → n ≤ (colR g r gens 2).length → (colR g r gens 2).length - n ≤ e → Ev (fun k => laws_FnCollectReached.l0 k (colR g r gens top) (colR g r gens 2) (reachedR g r) i) true := by
      have stop : ∀ (n : Nat) (i : Int), i = n → n = (colR g r gens 2).length → Ev (fun k => laws_FnCollectReached.l0 k (colR g r gens top) (colR g r gens 2) (reachedR g r) i) true := by
        intro n i hi hn
        refine Ev.step (fun k => laws_FnCollectReached.l0.eq_2 ..) ?_
        simp only [if_neg (show ¬ i < ((colR g r gens 2).length : Int) by omega)]
        exact Ev.now _
      intro e
      induction e with
      | zero => intro n i hi hn he; exact stop n i hi (by omega)
      | succ e ih =>
        intro n i hi hn he
        rcases Nat.lt_or_ge n (colR g r gens 2).length with hlt | hge
        · obtain ⟨f1, f2⟩ := hfacts n hlt
          refine Ev.step (fun k => laws_FnCollectReached.l0.eq_2 ..) ?_
          simp only [if_pos (show i < ((colR g r gens 2).length : Int) by omega), if_pos (show 0 ≤ i by omega)]
          rw [rd_nat (colR g r gens 2) n i hi, rd_nat (colR g r gens top) n i hi]
          refine Ev.bind (HasInt_ev (reachedR g r) i (by omega)) ?_
          have e1 : ((decide ((colR g r gens 2).getD n 0 ≥ 0)) != decide (i ∈ reachedR g r)) = false := by
            have : decide ((colR g r gens 2).getD n 0 ≥ 0) = decide (i ∈ reachedR g r) := by
              rw [Bool.eq_iff_iff, decide_eq_true_eq, decide_eq_true_eq, hi]
              exact f1
            rw [this]; simp
          simp only [e1, Bool.false_eq_true, if_false]
          have go := ih (n + 1) (i + 1) (by omega) (by omega) (by omega)
          rw [w64 (x := i + 1) (by omega) (by omega)]
          by_cases c1 : ((colR g r gens top).length : Int) = ((colR g r gens 2).length : Int)
          · simp only [if_pos c1, if_pos (show i < ((colR g r gens top).length : Int) by omega)]
            by_cases c2 : (colR g r gens top).getD n 0 < 0
            · have := f2 (by omega) c2
              simp only [if_pos c2, if_neg (show ¬ (colR g r gens 2).getD n 0 ≥ 0 by omega)]
              exact go
            · simp only [if_neg c2]
              exact go
          · simp only [if_neg c1]
            exact go
        · exact stop n i hi (by omega)
    exact loop _ 0 0 rfl (Nat.zero_le _) (Nat.le_refl _)

end Go.Proofs.Ytdhjkfoijaifcaa.Pure
