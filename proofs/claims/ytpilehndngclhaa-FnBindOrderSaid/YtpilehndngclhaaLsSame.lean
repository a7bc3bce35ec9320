/- Lists of whole numbers: the same, holding, for the reference. -/
import Derived.Test.YtpilehndngclhaaLsBase
import Derived.Test.YtpilehndngclhaaQ7
set_option linter.unusedSimpArgs false
set_option linter.unusedVariables false
namespace Go.Proofs.Ytpilehndngclhaa.GE
open Go.RowKit Go.Proofs.Ytpilehndngclhaa.Q Go.Proofs.YtpilehndngclhaaW.PrintWords Go.Proofs.GR

theorem spec_sameNums_l (a b : List Int) (hl : a.length = b.length) (hm : a.length ≤ 1000000) : ∀ (d n : Nat) (i : Int), i = n → n ≤ a.length → a.length - n ≤ d →
    Ev (fun k => spec_sameNums.l0 k a b i) (decide (a.drop n = b.drop n)) := by
  have stop : ∀ (n : Nat) (i : Int), i = n → n = a.length → Ev (fun k => spec_sameNums.l0 k a b i) (decide (a.drop n = b.drop n)) := by
    intro n i hi hn
    refine Ev.step (fun k => spec_sameNums.l0.eq_2 ..) ?_
    simp only [if_neg (show ¬ i < (a.length : Int) by omega)]
    rw [hn, List.drop_length, hl, List.drop_length, decide_eq_true rfl]
    exact Ev.now _
  intro d
  induction d with
  | zero => intro n i hi hn hd; exact stop n i hi (by omega)
  | succ d ih =>
    intro n i hi hn hd
    rcases Nat.lt_or_ge n a.length with hlt | hge
    · refine Ev.step (fun k => spec_sameNums.l0.eq_2 ..) ?_
      simp only [if_pos (show i < (a.length : Int) by omega), if_pos (show 0 ≤ i by omega), if_pos (show i < (b.length : Int) by omega)]
      rw [rd_nat a n i hi, rd_nat b n i hi, w64 (x := i + 1) (by omega) (by omega), drop_cons (d := (0 : Int)) hlt, drop_cons (d := (0 : Int)) (show n < b.length by omega)]
      by_cases c : a.getD n 0 = b.getD n 0
      · simp only [if_pos c]
        have := ih (n + 1) (i + 1) (by omega) (by omega) (by omega)
        have e : decide (a.getD n 0 :: a.drop (n + 1) = b.getD n 0 :: b.drop (n + 1)) = decide (a.drop (n + 1) = b.drop (n + 1)) := by
          rw [Bool.eq_iff_iff, decide_eq_true_eq, decide_eq_true_eq, List.cons.injEq]
          exact ⟨fun q => q.2, fun q => ⟨c, q⟩⟩
        rw [e]
        exact this
      · simp only [if_neg c]
        rw [decide_eq_false (fun q => c (List.cons.inj q).1)]
        exact Ev.now _
    · exact stop n i hi (by omega)
theorem SameInts_ev (a b : List Int) (hm : a.length ≤ 1000000) : Ev (fun k => spec_SameInts.f k a b) (decide (a = b)) := by
  unfold spec_SameInts.f
  refine Ev.bind (a := decide (a = b)) ?_ (Ev.now _)
  unfold spec_sameNums.f
  by_cases c : (a.length : Int) = (b.length : Int)
  · simp only [if_pos c]
    have := spec_sameNums_l a b (by omega) hm a.length 0 0 rfl (Nat.zero_le _) (by omega)
    rw [List.drop_zero, List.drop_zero] at this
    exact this
  · simp only [if_neg c]
    rw [decide_eq_false (fun q => c (by rw [q]))]
    exact Ev.now _
end Go.Proofs.Ytpilehndngclhaa.GE
