/- Proved: arguments given by name may come in any order; no condition beyond the statement's. -/
import Derived.Test.YtpilehndngclhaaBiLaw
import Derived.Test.YtpilehndngclhaaBiDraw
import Derived.Test.YtpilehndngclhaaLsSame
import Derived.Test.YtpilehndngclhaaQ4
import Derived.Test.YtpilehndngclhaaQ7
import Derived.Test.YtpilehndngclhaaQ9
set_option linter.unusedSimpArgs false
set_option linter.unusedVariables false
namespace Go.Proofs.Ytpilehndngclhaa.Pure
open Go.RowKit Go.Proofs.Ytpilehndngclhaa.Q Go.Proofs.YtpilehndngclhaaW.PrintWords Go.Proofs.YtpilehndngclhaaW.PrintLast Go.Proofs.GR Go.Proofs.BI Go.Proofs.Ytpilehndngclhaa.MO Go.Proofs.Ytpilehndngclhaa.BE Go.Proofs.Ytpilehndngclhaa.RD Go.Proofs.Ytpilehndngclhaa.GE

theorem turned_l (P : List ByteArray) (D A : List Int) (N : List ByteArray) (X : List Int) (n : Nat) (hn : n + N.length = A.length) (hA : A.length ≤ 1000) (R : Bool)
    (hR : Ev (fun k => (impl_BindArgs.f k P D (A.take n ++ (A.drop n).reverse) N.reverse).bind fun bt360 => (if bt360.2 = 0 then ((spec_SameInts.f k bt360.1 X).bind fun t364 => (some t364)) else (some false))) R) :
    ∀ (j : Nat) (x : Int), j ≤ N.length → x = (j : Int) - 1 → Ev (fun k => laws_FnBindOrder.l0 k P D A N X (n : Int) (A.take n ++ ((A.drop n).drop j).reverse) (N.drop j).reverse x) R := by
  intro j
  induction j with
  | zero =>
    intro x hj hx
    refine Ev.step (fun k => laws_FnBindOrder.l0.eq_2 ..) ?_
    simp only [if_neg (show ¬ x ≥ 0 by omega), List.drop_zero]
    exact hR
  | succ j ih =>
    intro x hj hx
    have hxj : x = (j : Int) := by omega
    subst hxj
    refine Ev.step (fun k => laws_FnBindOrder.l0.eq_2 ..) ?_
    simp only [if_pos (show (j : Int) ≥ 0 by omega), if_pos (show (0 : Int) ≤ (j : Int) by omega)]
    rw [BE.w64 (x := (n : Int) + (j : Int)) (by omega) (by omega), BE.w64 (x := (j : Int) - 1) (by omega) (by omega)]
    have g1 : (A.take n ++ ((A.drop n).drop (j + 1)).reverse).length < 17592186044416 := by rw [List.length_append, List.length_reverse, List.length_take, List.length_drop, List.length_drop]; omega
    have g2 : (N.drop (j + 1)).reverse.length < 8796093022208 := by rw [List.length_reverse, List.length_drop]; omega
    simp only [if_pos (show 0 ≤ (n : Int) + (j : Int) by omega), if_pos (show (n : Int) + (j : Int) < (A.length : Int) by omega), if_pos g1, if_pos (show (j : Int) < (N.length : Int) by omega), if_pos g2]
    have := ih ((j : Int) - 1) (by omega) rfl
    rw [drop_getD (A.drop n) 0 (show j < (A.drop n).length by rw [List.length_drop]; omega), drop_getD N ByteArray.empty (show j < N.length by omega), List.reverse_cons, List.reverse_cons, ← List.append_assoc] at this
    have e1 : (A.drop n).getD j 0 = rd A ((n : Int) + (j : Int)) := by
      rw [show (n : Int) + (j : Int) = ((n + j : Nat) : Int) by omega, rdi, List.getD_eq_getElem?_getD, List.getD_eq_getElem?_getD, List.getElem?_drop]
    rw [e1, ← rdOf_nat] at this
    exact this
theorem FnBindOrder : laws_FnBindOrder.Pure := by
  intro l h0 h1 hw
  refine Ev.rounds (g := fun k => laws_FnBindOrder.f k l) ?_
  unfold laws_FnBindOrder.f
  by_cases c0 : (l.length : Int) > 1048576
  · simp only [if_pos c0]; exact Ev.now _
  · simp only [if_neg c0]
    obtain ⟨d, hn, hd, -⟩ := newRnd_ok (Bytes.of c0 hw)
    obtain ⟨P, D, A, N, hdr, hP, hD, hA, hN⟩ := DrawBind_ev hn hd
    have hPl : P.length ≤ maxLen := by have := hP.1; unfold maxLen; omega
    have hNl : N.length ≤ maxLen := by unfold maxLen; omega
    have hPs : ∀ x ∈ P, x.size ≤ maxLen := fun x hx => by have := hP.2 x hx; unfold maxLen; omega
    refine Ev.bind hdr (Ev.bind (impl_Bind_ev P D A N hPl hNl hPs) (Ev.bind (spec_Bind_ev P D A N hPl hNl hPs) ?_))
    have hout := bindA_len (P := P) (D := D) (A := A) (N := N) (by have := hP.1; omega)
    simp only [if_true]
    refine Ev.bind (SameInts_ev _ _ (by omega)) ?_
    simp only [decide_true, if_true]
    have back : Ev (fun k => laws_FnBindOrder.j0 k P D A N (bindA P D A N).1 (bindA P D A N).2 (bindA P D A N).1 (bindA P D A N).2 true) true := by
      refine Ev.step (fun k => laws_FnBindOrder.j0.eq_2 ..) ?_
      simp only [if_true]
      refine Ev.bind (SameInts_ev _ _ (by omega)) ?_
      simp only [decide_true]
      exact Ev.now _
    by_cases hz : (bindA P D A N).2 = 0
    · simp only [if_pos hz]
      by_cases h2 : (N.length : Int) < 2
      · rw [decide_eq_true h2]
        exact back
      · rw [decide_eq_false h2]
        obtain ⟨hk, he⟩ := bindA_fine hz
        obtain ⟨k1, k2, k3, k4, k5, k6⟩ := okB_iff.1 hk
        refine Ev.step (fun k => laws_FnBindOrder.j0.eq_2 ..) ?_
        simp only [Bool.false_eq_true, if_false, Option.bind_some, List.length_nil, List.nil_append]
        rw [BE.w64 (x := (A.length : Int) - (N.length : Int)) (by omega) (by omega), BE.w64 (x := (N.length : Int) - 1) (by omega) (by omega)]
        have hnn : (A.length : Int) - (N.length : Int) = ((A.length - N.length : Nat) : Int) := by omega
        rw [hnn, Int.toNat_natCast]
        simp only [if_pos (show 0 ≤ ((A.length - N.length : Nat) : Int) by omega), if_pos (show ((A.length - N.length : Nat) : Int) ≤ (A.length : Int) by omega), if_pos (show 0 + (A.take (A.length - N.length)).length < 17592186044416 by rw [List.length_take]; omega)]
        have ht : bindA P D (A.take (A.length - N.length) ++ (A.drop (A.length - N.length)).reverse) N.reverse = bindA P D A N := by
          rw [he] at hz ⊢
          unfold bindA
          have hl : (A.take (A.length - N.length) ++ (A.drop (A.length - N.length)).reverse).length = A.length := by rw [List.length_append, List.length_reverse, List.length_take, List.length_drop]; omega
          rw [if_pos (okB_iff.2 ⟨k1, k2, k3, by omega, difB_reverse k5, by rw [List.length_reverse]; omega⟩)]
          exact bindR_turned k6 hz
        have fin_ := turned_l P D A N (bindA P D A N).1 (A.length - N.length) (by omega) (by omega) true (by
          refine Ev.bind (impl_Bind_ev P D _ N.reverse hPl (by rw [List.length_reverse]; exact hNl) hPs) ?_
          rw [ht, hz]
          simp only [if_true]
          refine Ev.bind (SameInts_ev _ _ (by omega)) ?_
          simp only [decide_true]
          exact Ev.now _) N.length ((N.length : Int) - 1) (Nat.le_refl _) rfl
        rw [List.drop_of_length_le (show (A.drop (A.length - N.length)).length ≤ N.length by rw [List.length_drop]; omega), List.drop_length, List.reverse_nil, List.reverse_nil, List.append_nil] at fin_
        exact fin_
    · simp only [if_neg hz]
      exact back
end Go.Proofs.Ytpilehndngclhaa.Pure
