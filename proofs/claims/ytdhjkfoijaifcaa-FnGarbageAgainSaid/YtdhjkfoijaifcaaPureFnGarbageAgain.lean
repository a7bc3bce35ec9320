/- Proved: what is left is no garbage; no condition beyond the statement's. -/
import Derived.Test.YtdhjkfoijaifcaaGrEv8
import Derived.Test.YtdhjkfoijaifcaaGrSame
import Derived.Test.YtdhjkfoijaifcaaGrHas
import Derived.Test.YtdhjkfoijaifcaaGrDraw
import Derived.Test.YtdhjkfoijaifcaaGrDrawSet
import Derived.Test.YtdhjkfoijaifcaaQ19
import Derived.Test.YtdhjkfoijaifcaaQ22
set_option linter.unusedSimpArgs false
set_option linter.unusedVariables false
namespace Go.Proofs.Ytdhjkfoijaifcaa.Pure
open Go.RowKit Go.Proofs.Ytdhjkfoijaifcaa.Q Go.Proofs.YtdhjkfoijaifcaaW.PrintWords Go.Proofs.YtdhjkfoijaifcaaW.PrintLast Go.Proofs.GR Go.Proofs.Ytdhjkfoijaifcaa.GE Go.Proofs.Ytdhjkfoijaifcaa.RD

theorem FnGarbageAgain : laws_FnGarbageAgain.Pure := by
  intro l h0 h1 hw
  refine Ev.rounds (g := fun k => laws_FnGarbageAgain.f k l) ?_
  unfold laws_FnGarbageAgain.f
  by_cases c0 : (l.length : Int) > 1048576
  · simp only [if_pos c0]; exact Ev.now _
  · simp only [if_neg c0]
    have hB := Bytes.of c0 hw
    obtain ⟨d, hn, hd, -⟩ := newRnd_ok hB
    obtain ⟨g, r, c1, hgr, hsm, hrl, p0, p1⟩ := graph_ev hd
    have hgl := hsm.1
    obtain ⟨s, c2, hs, hsl, q0, q1⟩ := set_ev hd g.length (by omega) (c := c1) p0 (by omega)
    have hdr : Ev (fun k => spec_DrawGarbageOf.f k l) (g, r, s) := by
      unfold spec_DrawGarbageOf.f
      simp only [hn, Option.bind_some]
      exact Ev.bind hgr (Ev.bind hs (Ev.now _))
    have hz := hsm.sz
    refine Ev.bind hdr (Ev.bind (impl_GarbageOf_ev g hz r (by omega) s (by omega)) (Ev.bind (spec_GarbageOf_ev g hz r (by omega) s (by omega)) ?_))
    have htl := garbR_len g r s
    refine Ev.bind (SameInts_ev (garbR g r s) (garbR g r s) (by omega)) ?_
    simp only [decide_true, if_true]
    have key : (okG g && okR g r) = true → garbR g r (s.filter fun x => decide (x ∉ garbR g r s)) = [] := by
      intro hgr
      by_cases hset : setB g.length s = true
      · have hok : (okG g && okR g r && setB g.length s) = true := by rw [hgr, hset]; rfl
        obtain ⟨k1, k2, k3, k4, k5⟩ := ok_split hok
        have ht : garbR g r s = garb g r s := by unfold garbR; rw [if_pos hok]
        rw [ht]
        unfold garbR
        split
        · exact garb_again (Gr.of k1) k2 k5 k4 _ rfl
        · rfl
      · have hok : ¬ (okG g && okR g r && setB g.length s) = true := by rw [hgr]; simpa using hset
        have ht : garbR g r s = [] := by unfold garbR; rw [if_neg hok]
        rw [ht]
        have : (s.filter fun x => decide (x ∉ ([] : List Int))) = s := List.filter_eq_self.2 (fun x _ => by simp)
        rw [this]
        exact ht
    have loop : ∀ (e n : Nat) (i : Int), i = n → n ≤ s.length → s.length - n ≤ e → Ev (fun k => laws_FnGarbageAgain.l0 k g r s (garbR g r s) ((s.take n).filter fun x => decide (x ∉ garbR g r s)) i) true := by
      have stop : ∀ (n : Nat) (i : Int), i = n → n = s.length → Ev (fun k => laws_FnGarbageAgain.l0 k g r s (garbR g r s) ((s.take n).filter fun x => decide (x ∉ garbR g r s)) i) true := by
        intro n i hi hn
        refine Ev.step (fun k => laws_FnGarbageAgain.l0.eq_2 ..) ?_
        simp only [if_neg (show ¬ i < (s.length : Int) by omega)]
        rw [hn, List.take_length]
        refine Ev.bind (impl_GraphOk_ev g hz r (by omega)) ?_
        cases hg : (okG g && okR g r) with
        | false => simp only [Bool.false_eq_true, if_false]; exact Ev.now _
        | true =>
          simp only [if_true]
          have hfl : (s.filter fun x => decide (x ∉ garbR g r s)).length ≤ s.length := List.length_filter_le ..
          refine Ev.bind (impl_GarbageOf_ev g hz r (by omega) _ (by omega)) ?_
          rw [key hg]
          simp only [List.length_nil, Int.natCast_zero, if_true]
          exact Ev.now _
      intro e
      induction e with
      | zero => intro n i hi hn he; exact stop n i hi (by omega)
      | succ e ih =>
        intro n i hi hn he
        rcases Nat.lt_or_ge n s.length with hlt | hge
        · have hl := filter_take_len (p := fun x => decide (x ∉ garbR g r s)) (l := s) (n := n)
          refine Ev.step (fun k => laws_FnGarbageAgain.l0.eq_2 ..) ?_
          simp only [if_pos (show i < (s.length : Int) by omega), if_pos (show 0 ≤ i by omega), rd_nat s n i hi]
          refine Ev.bind (HasInt_ev (garbR g r s) _ (by omega)) ?_
          have h1 := ih (n + 1) (i + 1) (by omega) (by omega) (by omega)
          rw [filter_take_succ hlt] at h1
          by_cases c : s.getD n 0 ∈ garbR g r s
          · rw [if_neg (by simpa using c)] at h1
            simp only [decide_eq_true c, if_true, w64 (x := i + 1) (by omega) (by omega)]
            exact h1
          · rw [if_pos (by simpa using c)] at h1
            have hl' : ((s.take n).filter fun x => decide (x ∉ garbR g r s)).length < 17592186044416 := by omega
            simp only [decide_eq_false c, Bool.false_eq_true, if_false, if_pos hl', w64 (x := i + 1) (by omega) (by omega)]
            exact h1
        · exact stop n i hi (by omega)
    exact loop s.length 0 0 rfl (Nat.zero_le _) (by omega)

end Go.Proofs.Ytdhjkfoijaifcaa.Pure
