/- What garbage of a set is, for the reference. -/
import Derived.Test.YtckninkpjdcfbaaGrEv6
import Derived.Test.YtckninkpjdcfbaaQ11
set_option linter.unusedSimpArgs false
set_option linter.unusedVariables false
namespace Go.Proofs.Ytckninkpjdcfbaa.GE
open Go.RowKit Go.Proofs.Ytckninkpjdcfbaa.Q Go.Proofs.YtckninkpjdcfbaaW.PrintWords Go.Proofs.GR

theorem spec_Garbage_l1 (f : List Bool) (s : List Int) (hi : ∀ x ∈ s, 0 ≤ x ∧ x < (f.length : Int)) (hs : s.length ≤ 2000000) :
    ∀ (d n : Nat) (i : Int), i = n → n ≤ s.length → s.length - n ≤ d → Ev (fun k => spec_garbage.l1 k s f ((s.take n).filter fun x => !f.getD x.toNat false) i) (s.filter fun x => !f.getD x.toNat false) := by
  have stop : ∀ (n : Nat) (i : Int), i = n → n = s.length → Ev (fun k => spec_garbage.l1 k s f ((s.take n).filter fun x => !f.getD x.toNat false) i) (s.filter fun x => !f.getD x.toNat false) := by
    intro n i hi' hn
    refine Ev.step (fun k => spec_garbage.l1.eq_2 ..) ?_
    simp only [if_neg (show ¬ i < (s.length : Int) by omega)]
    rw [hn, List.take_length]
    exact Ev.now _
  intro d
  induction d with
  | zero => intro n i hi' hn hd; exact stop n i hi' (by omega)
  | succ d ih =>
    intro n i hi' hn hd
    rcases Nat.lt_or_ge n s.length with hlt | hge
    · have hx := hi _ (getD_mem (d := 0) hlt)
      have hl := filter_take_len (p := fun x => !f.getD x.toNat false) (l := s) (n := n)
      refine Ev.step (fun k => spec_garbage.l1.eq_2 ..) ?_
      simp only [if_pos (show i < (s.length : Int) by omega), if_pos (show 0 ≤ i by omega), rd_nat s n i hi', if_pos hx.1, if_pos hx.2, rdOf_nat f (s.getD n 0).toNat (s.getD n 0) (by omega), w64 (x := i + 1) (by omega) (by omega)]
      have h1 := ih (n + 1) (i + 1) (by omega) (by omega) (by omega)
      rw [filter_take_succ hlt] at h1
      by_cases c : f.getD (s.getD n 0).toNat false = true
      · rw [if_neg (by rw [c]; simp)] at h1
        simp only [if_pos c]
        exact h1
      · have c' : f.getD (s.getD n 0).toNat false = false := by simpa using c
        rw [if_pos (by rw [c']; rfl)] at h1
        have hl' : ((s.take n).filter fun x => !f.getD x.toNat false).length < 17592186044416 := by omega
        simp only [if_neg c, if_pos hl']
        exact h1
    · exact stop n i hi' (by omega)
theorem spec_Garbage_l0 (g : List (List Int)) (hg : Gr g) (r s : List Int) (hi : ∀ x ∈ s, 0 ≤ x ∧ x < (g.length : Int)) (hs : s.length ≤ 2000000) :
    ∀ (d n : Nat) (i : Int), i = n → n ≤ s.length → s.length - n ≤ d → Ev (fun k => spec_garbage.l0 k g s (trial g r s) ((s.take n).filter fun x => decide (0 < tv g r s x)) i) (garb g r s) := by
  have htl := trial_length g r s
  have stop : ∀ (n : Nat) (i : Int), i = n → n = s.length → Ev (fun k => spec_garbage.l0 k g s (trial g r s) ((s.take n).filter fun x => decide (0 < tv g r s x)) i) (garb g r s) := by
    intro n i hi' hn
    refine Ev.step (fun k => spec_garbage.l0.eq_2 ..) ?_
    simp only [if_neg (show ¬ i < (s.length : Int) by omega)]
    rw [hn, List.take_length]
    have hfl : (fromL g r s).length ≤ s.length := List.length_filter_le ..
    refine Ev.bind (spec_marked_ev g hg (fromL g r s) (fromL_idx hi) (by omega)) ?_
    exact spec_Garbage_l1 (flags g (fromL g r s)) s (by rw [flags_length]; exact hi) hs s.length 0 0 rfl (Nat.zero_le _) (by omega)
  intro d
  induction d with
  | zero => intro n i hi' hn hd; exact stop n i hi' (by omega)
  | succ d ih =>
    intro n i hi' hn hd
    rcases Nat.lt_or_ge n s.length with hlt | hge
    · have hl := filter_take_len (p := fun x => decide (0 < tv g r s x)) (l := s) (n := n)
      refine Ev.step (fun k => spec_garbage.l0.eq_2 ..) ?_
      have hl' : ((s.take n).filter fun x => decide (0 < tv g r s x)).length < 17592186044416 := by omega
      simp only [if_pos (show i < (s.length : Int) by omega), if_pos (show i < ((trial g r s).length : Int) by omega), if_pos (show 0 ≤ i by omega), rd_nat (trial g r s) n i hi', trial_tv hlt, rd_nat s n i hi', if_pos hl', w64 (x := i + 1) (by omega) (by omega)]
      have h1 := ih (n + 1) (i + 1) (by omega) (by omega) (by omega)
      rw [filter_take_succ hlt] at h1
      by_cases c : tv g r s (s.getD n 0) > 0
      · rw [if_pos (decide_eq_true c)] at h1
        simp only [if_pos c]
        exact h1
      · rw [if_neg (by rw [decide_eq_false c]; simp)] at h1
        simp only [if_neg c]
        exact h1
    · exact stop n i hi' (by omega)
theorem spec_garbage_ev (g : List (List Int)) (hg : Gr g) (r s : List Int) (hr : ∀ x ∈ r, 0 ≤ x ∧ x < (g.length : Int)) (hrl : r.length ≤ 2000000) (hi : ∀ x ∈ s, 0 ≤ x ∧ x < (g.length : Int)) (hs : s.length ≤ 2000000) : Ev (fun k => spec_garbage.f k g r s) (garb g r s) := by
  unfold spec_garbage.f
  refine Ev.bind (spec_countsOf_ev g hg r hr hrl) (Ev.bind (spec_outside_ev g hg r s hr hrl hi hs) ?_)
  exact spec_Garbage_l0 g hg r s hi hs s.length 0 0 rfl (Nat.zero_le _) (by omega)
end Go.Proofs.Ytckninkpjdcfbaa.GE
