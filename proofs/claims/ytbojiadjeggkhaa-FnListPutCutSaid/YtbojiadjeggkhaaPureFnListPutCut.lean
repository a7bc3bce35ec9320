/- Proved: what is put into a cut of a list is there; no condition beyond the statement's. -/
import Derived.Test.YtbojiadjeggkhaaLpEv
import Derived.Test.YtbojiadjeggkhaaLsSame
import Derived.Test.YtbojiadjeggkhaaLpDraw
import Derived.Test.YtbojiadjeggkhaaQ4
import Derived.Test.YtbojiadjeggkhaaQ9
set_option linter.unusedSimpArgs false
set_option linter.unusedVariables false
namespace Go.Proofs.Ytbojiadjeggkhaa.Pure
open Go.RowKit Go.Proofs.Ytbojiadjeggkhaa.Q Go.Proofs.YtbojiadjeggkhaaW.PrintWords Go.Proofs.YtbojiadjeggkhaaW.PrintLast Go.Proofs.GR Go.Proofs.LC Go.Proofs.Ytbojiadjeggkhaa.GE Go.Proofs.Ytbojiadjeggkhaa.RD

theorem putR_length (l : List Int) (f t s : Int) (a b : Bool) (X : List Int) : (putR l f t s a b X).1.length ≤ 60 := by
  unfold putR
  split
  · rename_i h
    rw [Bool.and_eq_true, decide_eq_true_eq] at h
    split
    · rename_i hs
      subst hs
      have h1 := cutRange_one (n := (l.length : Int)) (c0 := f) (c1 := t) (a := a) (b := b) (by omega)
      split
      · simp
      · simp only [List.length_append, List.length_take, List.length_drop]; omega
    · split
      · rw [setAll_length]; omega
      · simp
  · simp
theorem FnListPutCut : laws_FnListPutCut.Pure := by
  intro l h0 h1 hw
  refine Ev.rounds (g := fun k => laws_FnListPutCut.f k l) ?_
  unfold laws_FnListPutCut.f
  by_cases c0 : (l.length : Int) > 1048576
  · simp only [if_pos c0]; exact Ev.now _
  · simp only [if_neg c0]
    obtain ⟨d, hn, hd, -⟩ := newRnd_ok (Bytes.of c0 hw)
    obtain ⟨r, f, t, s, a, b, X, hdr, hrl, hXl⟩ := DrawPut_ev hn hd rfl
    refine Ev.bind hdr (Ev.bind (impl_Put_ev r f t s a b X (by omega)) (Ev.bind (spec_Put_ev r f t s a b X (by omega)) ?_))
    have hl := putR_length r f t s a b X
    refine Ev.bind (SameInts_ev _ _ (by omega)) ?_
    simp only [decide_true, if_true, beq_self_eq_true]
    refine Ev.step (fun k => laws_FnListPutCut.j0.eq_2 ..) ?_
    simp only [if_true]
    refine Ev.step (fun k => laws_FnListPutCut.j1.eq_2 ..) ?_
    cases hz : (putR r f t s a b X).2 with
    | false => simp only [Bool.not_false, if_true]; exact Ev.now _
    | true =>
      simp only [Bool.not_true, Bool.false_eq_true, if_false]
      have hv : (decide (r.length ≤ 60) && vcut f t s a b) = true := by
        cases hq : (decide (r.length ≤ 60) && vcut f t s a b) with
        | true => rfl
        | false => unfold putR at hz; rw [hq] at hz; simp at hz
      have hvc : vcut f t s a b = true := by
        rw [Bool.and_eq_true] at hv; exact hv.2
      obtain ⟨-, -, ⟨g4, g5⟩, hs0, -, -⟩ := vcut_iff.1 hvc
      obtain ⟨r0, r1, r2, r3, r4⟩ := cutRange_ok (n := (r.length : Int)) (c0 := f) (c1 := t) (a := a) (b := b) (by omega) (by omega) hs0 g4 g5
      have hcut : cutR r f t s a b = cutL (cutP r.length f t s a b) r := by unfold cutR; rw [hv]; rfl
      have hcl : (cutR r f t s a b).length = (cutRange r.length f t s a b).2.toNat := by rw [hcut]; unfold cutL cutP; rw [List.length_map, places_length]
      refine Ev.bind (impl_Cut_ev r f t s a b) (Ev.bind (impl_Put_ev r f t s a b _ (by omega)) ?_)
      rw [CutRange_eq r.length f t s a b (by omega) (by omega) hvc]
      simp only [Option.bind_some]
      by_cases hs : s = 1
      · subst hs
        simp only [if_true]
        have h1 := cutRange_one (n := (r.length : Int)) (c0 := f) (c1 := t) (a := a) (b := b) (by omega)
        have hback : putR r f t 1 a b (cutR r f t 1 a b) = (r, true) := by
          unfold putR
          rw [if_pos hv, if_pos rfl, if_neg (by omega), hcut]
          congr 1
          unfold cutL cutP
          have e := cut_run r (cutRange r.length f t 1 a b).2.toNat (cutRange r.length f t 1 a b).1.toNat (by omega)
          rw [show (((cutRange r.length f t 1 a b).1.toNat : Nat) : Int) = (cutRange r.length f t 1 a b).1 by omega] at e
          rw [e, show ((cutRange r.length f t 1 a b).1 + (cutRange r.length f t 1 a b).2).toNat = (cutRange r.length f t 1 a b).1.toNat + (cutRange r.length f t 1 a b).2.toNat by omega, List.append_assoc, ← List.drop_drop, List.take_append_drop, List.take_append_drop]
        rw [hback]
        simp only [if_true]
        refine Ev.bind (SameInts_ev _ _ (by omega)) ?_
        simp only [decide_true, if_true]
        have hout : ((putR r f t 1 a b X).1.length : Int) = (r.length : Int) - (cutRange r.length f t 1 a b).2 + (X.length : Int) := by
          unfold putR at hz ⊢
          rw [if_pos hv, if_pos rfl] at hz ⊢
          split at hz
          · simp at hz
          · rename_i hg
            rw [if_neg hg]
            simp only [List.length_append, List.length_take, List.length_drop]
            omega
        rw [w64 (x := (r.length : Int) - (cutRange r.length f t 1 a b).2) (by omega) (by omega), w64 (x := (r.length : Int) - (cutRange r.length f t 1 a b).2 + (X.length : Int)) (by omega) (by omega), if_pos hout]
        exact Ev.now _
      · simp only [if_neg hs]
        have hback : putR r f t s a b (cutR r f t s a b) = (r, true) := by
          unfold putR
          rw [if_pos hv, if_neg hs, if_pos (by omega), hcut]
          congr 1
          unfold cutL
          exact setAll_self r _
        rw [hback]
        simp only [if_true]
        refine Ev.bind (SameInts_ev _ _ (by omega)) ?_
        simp only [decide_true, if_true]
        have hx : (X.length : Int) = (cutRange r.length f t s a b).2 := by
          unfold putR at hz
          rw [if_pos hv, if_neg hs] at hz
          by_cases hx : (X.length : Int) = (cutRange r.length f t s a b).2
          · exact hx
          · rw [if_neg hx] at hz; simp at hz
        have hout : (putR r f t s a b X).1 = setAll r (cutP r.length f t s a b) X := by
          unfold putR
          rw [if_pos hv, if_neg hs, if_pos hx]
        rw [hout]
        have hcut2 : cutR (setAll r (cutP r.length f t s a b) X) f t s a b = X := by
          unfold cutR
          rw [setAll_length, hv, if_pos rfl]
          unfold cutL cutP
          exact cut_setAll hs0 _ _ X r (by omega) r4
        refine Ev.bind (impl_Cut_ev _ f t s a b) ?_
        rw [hcut2]
        refine Ev.bind (SameInts_ev _ _ (by omega)) ?_
        simp only [decide_true]
        exact Ev.now _
end Go.Proofs.Ytbojiadjeggkhaa.Pure
