/- The places at which a flag is as wanted, for the reference and for the program. -/
import Derived.Test.YtckninkpjdcfbaaGrEv1
import Derived.Test.YtckninkpjdcfbaaQ4
set_option linter.unusedSimpArgs false
set_option linter.unusedVariables false
namespace Go.Proofs.Ytckninkpjdcfbaa.GE
open Go.RowKit Go.Proofs.Ytckninkpjdcfbaa.Q Go.Proofs.YtckninkpjdcfbaaW.PrintWords Go.Proofs.GR

theorem rdOf_nat (l : List Bool) (n : Nat) (i : Int) (h : i = n) : rdOf false l i = l.getD n false := by unfold rdOf; rw [h]; simp
theorem spec_indices_l (l : List Bool) (b : Bool) (hm : l.length ≤ 100000000) : ∀ (d n : Nat) (i : Int), i = n → n ≤ l.length → l.length - n ≤ d →
    Ev (fun k => spec_indices.l0 k l b (idxsTo l b n) i) (idxs l b) := by
  have stop : ∀ (n : Nat) (i : Int), i = n → n = l.length → Ev (fun k => spec_indices.l0 k l b (idxsTo l b n) i) (idxs l b) := by
    intro n i hi hn
    refine Ev.step (fun k => spec_indices.l0.eq_2 ..) ?_
    simp only [if_neg (show ¬ i < (l.length : Int) by omega)]
    rw [hn, idxsTo_all]
    exact Ev.now _
  intro d
  induction d with
  | zero => intro n i hi hn hd; exact stop n i hi (by omega)
  | succ d ih =>
    intro n i hi hn hd
    rcases Nat.lt_or_ge n l.length with hlt | hge
    · refine Ev.step (fun k => spec_indices.l0.eq_2 ..) ?_
      have hlen := idxsTo_len l b n
      simp only [if_pos (show i < (l.length : Int) by omega), if_pos (show 0 ≤ i by omega), rdOf_nat l n i hi, if_pos (show (idxsTo l b n).length < 17592186044416 by omega)]
      rw [w64 (x := i + 1) (by omega) (by omega)]
      have h1 := ih (n + 1) (i + 1) (by omega) (by omega) (by omega)
      rw [idxsTo_succ] at h1
      by_cases c : (l.getD n false == b) = true
      · rw [if_pos c] at h1
        simp only [if_pos c, hi] at h1 ⊢
        exact h1
      · rw [if_neg c] at h1
        simp only [if_neg c]
        exact h1
    · exact stop n i hi (by omega)
theorem spec_indices_ev (l : List Bool) (b : Bool) (hm : l.length ≤ 100000000) : Ev (fun k => spec_indices.f k l b) (idxs l b) := by
  unfold spec_indices.f
  have := spec_indices_l l b hm l.length 0 0 rfl (Nat.zero_le _) (by omega)
  rw [idxsTo_zero] at this
  exact this
theorem impl_marked_l (l : List Bool) (b : Bool) (hm : l.length ≤ 100000000) : ∀ (d n : Nat) (i : Int), i = n → n ≤ l.length → l.length - n ≤ d →
    Ev (fun k => impl_marked.l0 k b (idxsTo l b n) l l.length i) (idxs l b) := by
  have stop : ∀ (n : Nat) (i : Int), i = n → n = l.length → Ev (fun k => impl_marked.l0 k b (idxsTo l b n) l l.length i) (idxs l b) := by
    intro n i hi hn
    refine Ev.step (fun k => impl_marked.l0.eq_2 ..) ?_
    simp only [if_neg (show ¬ i < (l.length : Int) by omega)]
    rw [hn, idxsTo_all]
    exact Ev.now _
  intro d
  induction d with
  | zero => intro n i hi hn hd; exact stop n i hi (by omega)
  | succ d ih =>
    intro n i hi hn hd
    rcases Nat.lt_or_ge n l.length with hlt | hge
    · refine Ev.step (fun k => impl_marked.l0.eq_2 ..) ?_
      have hlen := idxsTo_len l b n
      simp only [if_pos (show i < (l.length : Int) by omega), if_pos (show 0 ≤ i by omega), rdOf_nat l n i hi, if_pos (show (idxsTo l b n).length < 17592186044416 by omega)]
      rw [w64 (x := i + 1) (by omega) (by omega)]
      have h1 := ih (n + 1) (i + 1) (by omega) (by omega) (by omega)
      rw [idxsTo_succ] at h1
      by_cases c : (l.getD n false == b) = true
      · rw [if_pos c] at h1
        simp only [if_pos c, hi] at h1 ⊢
        exact h1
      · rw [if_neg c] at h1
        simp only [if_neg c]
        exact h1
    · exact stop n i hi (by omega)
theorem impl_marked_ev (l : List Bool) (b : Bool) (hm : l.length ≤ 100000000) : Ev (fun k => impl_marked.f k l b) (idxs l b) := by
  unfold impl_marked.f
  have := impl_marked_l l b hm l.length 0 0 rfl (Nat.zero_le _) (by omega)
  rw [idxsTo_zero] at this
  exact this
end Go.Proofs.Ytckninkpjdcfbaa.GE
