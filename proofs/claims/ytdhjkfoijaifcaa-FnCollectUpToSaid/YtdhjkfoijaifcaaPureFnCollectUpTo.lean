/- Proved: what is collected is garbage, all else grows older; no condition beyond the statement's. -/
import Derived.Test.YtdhjkfoijaifcaaGrEv5
import Derived.Test.YtdhjkfoijaifcaaGrEv9
import Derived.Test.YtdhjkfoijaifcaaGrSame
import Derived.Test.YtdhjkfoijaifcaaGrHas
import Derived.Test.YtdhjkfoijaifcaaGrDrawGens
import Derived.Test.YtdhjkfoijaifcaaQ19
set_option linter.unusedSimpArgs false
set_option linter.unusedVariables false
namespace Go.Proofs.Ytdhjkfoijaifcaa.Pure
open Go.RowKit Go.Proofs.Ytdhjkfoijaifcaa.Q Go.Proofs.YtdhjkfoijaifcaaW.PrintWords Go.Proofs.YtdhjkfoijaifcaaW.PrintLast Go.Proofs.GR Go.Proofs.Ytdhjkfoijaifcaa.GE Go.Proofs.Ytdhjkfoijaifcaa.RD

/-- What a collection leaves of one object. -/
theorem col_facts {g : List (List Int)} {r gens : List Int} {top : Int} (ho : (okG g && okR g r) = true) (hgl : gens.length = g.length) (hid : idx 3 gens = true) (t0 : 0 ≤ top) (t2 : top ≤ 2) (n : Nat) (hn : n < gens.length) :
    ((col g r gens top).getD n 0 < 0 → (n : Int) ∉ reachedR g r) ∧ (0 ≤ (col g r gens top).getD n 0 → gens.getD n 0 ≤ (col g r gens top).getD n 0) ∧ (top = 2 → 0 ≤ (col g r gens top).getD n 0 → (n : Int) ∈ reachedR g r) := by
  have hoG : okG g = true := (Bool.and_eq_true _ _ ▸ ho : _ ∧ _).1
  obtain ⟨-, hri, -, -⟩ := okGR ho
  have hg := Gr.of hoG
  have hidx := idx_iff.1 hid
  have hpos := hidx _ (getD_mem (d := (0 : Int)) hn)
  have hrr : reachedR g r = idxs (flags g r) true := by unfold reachedR; rw [if_pos ho]
  have hsi : ∀ x ∈ upS gens top gens.length, 0 ≤ x ∧ x < (g.length : Int) := fun x hx => by have := (mem_upS.1 hx).1; omega
  rw [col_getD hgl, hrr, mem_reached hg hri]
  by_cases c : (n : Int) ∈ garb g r (upS gens top gens.length)
  · rw [if_pos c]
    exact ⟨fun _ => garb_unreached hg hri (upS_asc _ _ _) hsi c, fun h => by omega, fun _ h => by omega⟩
  · rw [if_neg c]
    by_cases c2 : (n : Int) ∈ upS gens top gens.length
    · rw [if_pos c2]
      have h3 := (mem_upS.1 c2).2
      rw [Int.toNat_natCast] at h3
      refine ⟨fun h => by omega, fun _ => by omega, fun ht _ => ?_⟩
      subst ht
      have hall : upS gens 2 gens.length = allL g.length := by
        refine asc_ext (upS_asc _ _ _) (allL_asc _) (fun x => ?_)
        rw [mem_upS, mem_allL, hgl]
        constructor
        · exact fun h => h.1
        · intro h
          refine ⟨h, ?_⟩
          have := hidx _ (getD_mem (l := gens) (n := x.toNat) (d := (0 : Int)) (by omega))
          omega
      rw [hall, mem_garb_all hg hri] at c
      rcases Classical.em (Rch g r (n : Int)) with q | q
      · exact q
      · exact absurd ⟨by omega, q⟩ c
    · rw [if_neg c2]
      refine ⟨fun h => by omega, fun _ => Int.le_refl _, fun ht _ => ?_⟩
      subst ht
      exact absurd (mem_upS.2 ⟨by omega, by rw [Int.toNat_natCast]; omega⟩) c2

theorem FnCollectUpTo : laws_FnCollectUpTo.Pure := by
  intro l h0 h1 hw
  refine Ev.rounds (g := fun k => laws_FnCollectUpTo.f k l) ?_
  unfold laws_FnCollectUpTo.f
  by_cases c0 : (l.length : Int) > 1048576
  · simp only [if_pos c0]; exact Ev.now _
  · simp only [if_neg c0]
    have hB := Bytes.of c0 hw
    obtain ⟨d, hn, hd, -⟩ := newRnd_ok hB
    obtain ⟨g, r, gens, top, hdr, hsm, hrl, hgl⟩ := drawCollect_ev hn hd
    have hg1 := hsm.1
    have hz := hsm.sz
    refine Ev.bind hdr (Ev.bind (impl_CollectUpTo_ev g hz r (by omega) gens (by omega) top) (Ev.bind (spec_CollectUpTo_ev g hz r (by omega) gens (by omega) top) ?_))
    have hlen : (colR g r gens top).length ≤ 1001 := by
      unfold colR
      split
      · rw [col_length]; exact hgl
      · simp
    refine Ev.bind (SameInts_ev _ _ (by omega)) ?_
    simp only [decide_true, if_true]
    refine Ev.step (fun k => laws_FnCollectUpTo.j0.eq_2 ..) ?_
    cases hzero : (((colR g r gens top).length : Int) == 0) with
    | true => simp only [if_true]; exact Ev.now _
    | false =>
      simp only [Bool.false_eq_true, if_false]
      refine Ev.bind (impl_ReachedFrom_ev g hz r (by omega)) ?_
      have hrlen := reachedR_len g r
      by_cases hok : (okG g && okR g r) = true ∧ gens.length = g.length ∧ idx 3 gens = true ∧ 0 ≤ top ∧ top ≤ 2
      · obtain ⟨ho, hgl2, hid, t0, t2⟩ := hok
        have e3 : colR g r gens top = col g r gens top := by unfold colR; rw [if_pos ⟨ho, hgl2, hid, t0, t2⟩]
        have hcl := col_length g r gens top
        rw [e3]
        generalize hC : col g r gens top = C at *
        have hf := fun n hn => col_facts (top := top) ho hgl2 hid t0 t2 n hn
        rw [hC] at hf
        have loop : ∀ (e n : Nat) (i : Int), i = n → n ≤ C.length → C.length - n ≤ e → Ev (fun k => laws_FnCollectUpTo.l0 k gens top C (reachedR g r) i) true := by
          have stop : ∀ (n : Nat) (i : Int), i = n → n = C.length → Ev (fun k => laws_FnCollectUpTo.l0 k gens top C (reachedR g r) i) true := by
            intro n i hi hn
            refine Ev.step (fun k => laws_FnCollectUpTo.l0.eq_2 ..) ?_
            simp only [if_neg (show ¬ i < (C.length : Int) by omega), if_pos (show (C.length : Int) = (gens.length : Int) by omega)]
            exact Ev.now _
          intro e
          induction e with
          | zero => intro n i hi hn he; exact stop n i hi (by omega)
          | succ e ih =>
            intro n i hi hn he
            rcases Nat.lt_or_ge n C.length with hlt | hge
            · obtain ⟨f1, f2, f3⟩ := hf n (by omega)
              have go : Ev (fun k => laws_FnCollectUpTo.j2 k gens top C (reachedR g r) i false) true := by
                refine Ev.step (fun k => laws_FnCollectUpTo.j2.eq_2 ..) ?_
                simp only [Bool.false_eq_true, if_false, w64 (x := i + 1) (show -1000000000000000000 ≤ i + 1 by omega) (show i + 1 ≤ 1000000000000000000 by omega)]
                exact ih (n + 1) (i + 1) (by omega) (by omega) (by omega)
              refine Ev.step (fun k => laws_FnCollectUpTo.l0.eq_2 ..) ?_
              simp only [if_pos (show i < (C.length : Int) by omega), if_pos (show 0 ≤ i by omega), rd_nat C n i hi, rd_nat gens n i hi]
              by_cases c1 : C.getD n 0 < 0
              · simp only [if_pos c1]
                refine Ev.bind (HasInt_ev (reachedR g r) i (by omega)) ?_
                have := f1 c1
                rw [← hi] at this
                simp only [decide_eq_false this, Bool.false_eq_true, if_false, if_neg (show ¬ C.getD n 0 ≥ 0 by omega)]
                by_cases c2 : top = 2
                · simp only [if_pos c2]; exact go
                · simp only [if_neg c2]; exact go
              · have := f2 (by omega)
                simp only [if_neg c1, if_pos (show C.getD n 0 ≥ 0 by omega), if_pos (show i < (gens.length : Int) by omega), if_neg (show ¬ C.getD n 0 < gens.getD n 0 by omega)]
                by_cases c2 : top = 2
                · simp only [if_pos c2]
                  refine Ev.bind (HasInt_ev (reachedR g r) i (by omega)) ?_
                  have := f3 c2 (by omega)
                  rw [← hi] at this
                  simp only [decide_eq_true this, Bool.not_true]
                  exact go
                · simp only [if_neg c2]; exact go
            · exact stop n i hi (by omega)
        exact loop _ 0 0 rfl (Nat.zero_le _) (Nat.le_refl _)
      · have e3 : colR g r gens top = [] := by unfold colR; rw [if_neg hok]
        rw [e3] at hzero
        simp at hzero

end Go.Proofs.Ytdhjkfoijaifcaa.Pure
