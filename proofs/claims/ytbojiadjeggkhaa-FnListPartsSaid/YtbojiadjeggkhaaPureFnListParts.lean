/- Proved: what is cut out of a list and put back makes the list; no condition beyond the statement's. -/
import Derived.Test.YtbojiadjeggkhaaLpEv
import Derived.Test.YtbojiadjeggkhaaLsSame
import Derived.Test.YtbojiadjeggkhaaLcDraw
import Derived.Test.YtbojiadjeggkhaaQ4
import Derived.Test.YtbojiadjeggkhaaQ10
import Derived.Test.YtbojiadjeggkhaaQ11
set_option linter.unusedSimpArgs false
set_option linter.unusedVariables false
namespace Go.Proofs.Ytbojiadjeggkhaa.Pure
open Go.RowKit Go.Proofs.Ytbojiadjeggkhaa.Q Go.Proofs.YtbojiadjeggkhaaW.PrintWords Go.Proofs.YtbojiadjeggkhaaW.PrintLast Go.Proofs.GR Go.Proofs.LC Go.Proofs.Ytbojiadjeggkhaa.GE Go.Proofs.Ytbojiadjeggkhaa.RD

theorem cutRange_at {n f : Int} (h0 : 0 ≤ f) (h1 : f ≤ n) : cutRange n f f 1 true true = (f, 0) := by
  have e : cutBound n 0 n true f 0 = f ∧ cutBound n 0 n true f n = f := by
    unfold cutBound
    simp only [if_true]
    constructor <;> (repeat' split) <;> omega
  simp only [cutRange, if_neg (show ¬ (1 : Int) < 0 by omega), if_pos (show (1 : Int) > 0 by omega)]
  rw [e.1, e.2, if_neg (by omega)]
theorem FnListParts : laws_FnListParts.Pure := by
  intro l h0 h1 hw
  refine Ev.rounds (g := fun k => laws_FnListParts.f k l) ?_
  unfold laws_FnListParts.f
  by_cases c0 : (l.length : Int) > 1048576
  · simp only [if_pos c0]; exact Ev.now _
  · simp only [if_neg c0]
    obtain ⟨d, hn, hd, -⟩ := newRnd_ok (Bytes.of c0 hw)
    obtain ⟨r, c1, hr, hrl, p0, p1⟩ := numbers_ev hd 12 50 (by omega) (by omega) (c := 0) (by omega) (by omega)
    obtain ⟨f, t, s, a, b, c2, hc, q0, q1⟩ := cut_ev hd (c := c1) (by omega) (by omega)
    have hdr : Ev (fun k => spec_DrawListCut.f k l) (r, f, t, s, a, b) := by
      unfold spec_DrawListCut.f
      simp only [hn, Option.bind_some]
      exact Ev.bind hr (Ev.bind hc (Ev.now _))
    have cl : ∀ f t s a b, (cutR r f t s a b).length ≤ 12 := by
      intro f t s a b
      unfold cutR
      split
      · rename_i hv
        rw [Bool.and_eq_true] at hv
        have := (cutP_len r.length f t s a b (by omega) hv.2).1
        unfold cutL
        rw [List.length_map]
        omega
      · simp
    refine Ev.bind hdr (Ev.bind (impl_Cut_ev r f t s a b) (Ev.bind (spec_Cut_ev r f t s a b) ?_))
    refine Ev.bind (SameInts_ev _ _ (by have := cl f t s a b; omega)) ?_
    simp only [decide_true, if_true, CutOk_eq, Option.bind_some]
    cases hv : vcut f t 1 a b with
    | false =>
      simp only [Bool.false_eq_true, if_false]
      refine Ev.step (fun k => laws_FnListParts.j0.eq_2 ..) ?_
      simp only [if_true]
      exact Ev.now _
    | true =>
      simp only [if_true]
      rw [decide_eq_false (show ¬ (r.length : Int) > 60 by omega)]
      refine Ev.step (fun k => laws_FnListParts.j0.eq_2 ..) ?_
      simp only [Bool.false_eq_true, if_false]
      have hvv : (decide (r.length ≤ 60) && vcut f t 1 a b) = true := by rw [hv, decide_eq_true (show r.length ≤ 60 by omega)]; rfl
      have h1 := cutRange_one (n := (r.length : Int)) (c0 := f) (c1 := t) (a := a) (b := b) (by omega)
      rw [CutRange_eq r.length f t 1 a b (by omega) (by omega) hv]
      simp only [Option.bind_some]
      refine Ev.bind (impl_Cut_ev r f t 1 a b) (Ev.bind (impl_Drop_ev r f t 1 a b) ?_)
      have e1 : cutR r f t 1 a b = (r.drop (cutRange r.length f t 1 a b).1.toNat).take (cutRange r.length f t 1 a b).2.toNat := by
        unfold cutR
        rw [hvv, if_pos rfl]
        unfold cutL cutP
        have e := cut_run r (cutRange r.length f t 1 a b).2.toNat (cutRange r.length f t 1 a b).1.toNat (by omega)
        rwa [show (((cutRange r.length f t 1 a b).1.toNat : Nat) : Int) = (cutRange r.length f t 1 a b).1 by omega] at e
      have e2 : dropR r f t 1 a b = r.take (cutRange r.length f t 1 a b).1.toNat ++ r.drop ((cutRange r.length f t 1 a b).1.toNat + (cutRange r.length f t 1 a b).2.toNat) := by
        unfold dropR
        rw [hvv, if_pos rfl]
        unfold dropL cutP
        have e := left_run r (cutRange r.length f t 1 a b).1.toNat (cutRange r.length f t 1 a b).2.toNat (by omega)
        rwa [show (((cutRange r.length f t 1 a b).1.toNat : Nat) : Int) = (cutRange r.length f t 1 a b).1 by omega] at e
      rw [e1, e2]
      generalize hF : (cutRange r.length f t 1 a b).1 = F at *
      generalize hC : (cutRange r.length f t 1 a b).2 = C at *
      refine Ev.bind (impl_Put_ev _ F F 1 true true _ (by rw [List.length_take, List.length_drop]; omega)) ?_
      have hback : putR (r.take F.toNat ++ r.drop (F.toNat + C.toNat)) F F 1 true true ((r.drop F.toNat).take C.toNat) = (r, true) := by
        have hl : (r.take F.toNat ++ r.drop (F.toNat + C.toNat)).length = r.length - C.toNat := by
          rw [List.length_append, List.length_take, List.length_drop]; omega
        have hv2 : vcut F F 1 true true = true := vcut_iff.2 ⟨by omega, by omega, by omega, by omega, .inl rfl, .inl rfl⟩
        unfold putR
        rw [hl, hv2, decide_eq_true (show r.length - C.toNat ≤ 60 by omega), if_pos (show (true && true) = true from rfl), if_pos rfl, cutRange_at h1.1 (by omega)]
        simp only [Int.add_zero]
        rw [if_neg (by rw [List.length_take, List.length_drop]; omega)]
        congr 1
        have hF2 : (r.take F.toNat).length = F.toNat := by rw [List.length_take]; omega
        have e3 : (r.take F.toNat).drop F.toNat = [] := List.drop_of_length_le (by omega)
        rw [List.take_append_of_le_length (by omega), List.take_of_length_le (by omega), List.drop_append_of_le_length (by omega), e3, List.nil_append, List.append_assoc, ← List.drop_drop, List.take_append_drop, List.take_append_drop]
      rw [hback]
      simp only [if_true]
      refine Ev.bind (SameInts_ev _ _ (by omega)) ?_
      simp only [decide_true]
      exact Ev.now _
end Go.Proofs.Ytbojiadjeggkhaa.Pure
