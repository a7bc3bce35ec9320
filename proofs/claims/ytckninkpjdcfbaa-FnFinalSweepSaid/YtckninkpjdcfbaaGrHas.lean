/- Whether a list of whole numbers has one, for the reference. -/
import Derived.Test.YtckninkpjdcfbaaGrEv1
import Derived.Test.YtckninkpjdcfbaaQ10
import Derived.Test.YtckninkpjdcfbaaQ25
set_option linter.unusedSimpArgs false
set_option linter.unusedVariables false
namespace Go.Proofs.Ytckninkpjdcfbaa.GE
open Go.RowKit Go.Proofs.Ytckninkpjdcfbaa.Q Go.Proofs.YtckninkpjdcfbaaW.PrintWords Go.Proofs.GR

theorem spec_inList_l (a : List Int) (x : Int) (hm : a.length ≤ 100000000) : ∀ (d n : Nat) (i : Int), i = n → n ≤ a.length → a.length - n ≤ d →
    Ev (fun k => spec_inList.l0 k a x i) (decide (x ∈ a.drop n)) := by
  have stop : ∀ (n : Nat) (i : Int), i = n → n = a.length → Ev (fun k => spec_inList.l0 k a x i) (decide (x ∈ a.drop n)) := by
    intro n i hi hn
    refine Ev.step (fun k => spec_inList.l0.eq_2 ..) ?_
    simp only [if_neg (show ¬ i < (a.length : Int) by omega)]
    rw [hn, List.drop_length, decide_eq_false (by simp)]
    exact Ev.now _
  intro d
  induction d with
  | zero => intro n i hi hn hd; exact stop n i hi (by omega)
  | succ d ih =>
    intro n i hi hn hd
    rcases Nat.lt_or_ge n a.length with hlt | hge
    · refine Ev.step (fun k => spec_inList.l0.eq_2 ..) ?_
      simp only [if_pos (show i < (a.length : Int) by omega), if_pos (show 0 ≤ i by omega)]
      rw [rd_nat a n i hi, w64 (x := i + 1) (by omega) (by omega), drop_cons (d := (0 : Int)) hlt]
      by_cases c : a.getD n 0 = x
      · simp only [if_pos c]
        rw [decide_eq_true (by rw [c]; exact List.mem_cons_self)]
        exact Ev.now _
      · simp only [if_neg c]
        have e : decide (x ∈ a.getD n 0 :: a.drop (n + 1)) = decide (x ∈ a.drop (n + 1)) := by
          rw [Bool.eq_iff_iff, decide_eq_true_eq, decide_eq_true_eq, List.mem_cons]
          exact ⟨fun q => q.elim (fun q => absurd q.symm c) id, .inr⟩
        rw [e]
        exact ih (n + 1) (i + 1) (by omega) (by omega) (by omega)
    · exact stop n i hi (by omega)
theorem inList_ev (a : List Int) (x : Int) (hm : a.length ≤ 100000000) : Ev (fun k => spec_inList.f k a x) (decide (x ∈ a)) := by
  unfold spec_inList.f
  have := spec_inList_l a x hm a.length 0 0 rfl (Nat.zero_le _) (by omega)
  rw [List.drop_zero] at this
  exact this
theorem HasInt_ev (a : List Int) (x : Int) (hm : a.length ≤ 100000000) : Ev (fun k => spec_HasInt.f k a x) (decide (x ∈ a)) := by
  unfold spec_HasInt.f
  exact Ev.bind (inList_ev a x hm) (Ev.now _)
end Go.Proofs.Ytckninkpjdcfbaa.GE
