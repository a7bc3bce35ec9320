/- What garbage of a set is, for the program. -/
import Derived.Test.YtckninkpjdcfbaaGrEv2
import Derived.Test.YtckninkpjdcfbaaGrEv4
import Derived.Test.YtckninkpjdcfbaaGrIdxs
import Derived.Test.YtckninkpjdcfbaaGrGarb
import Derived.Test.YtckninkpjdcfbaaQ12
set_option linter.unusedSimpArgs false
set_option linter.unusedVariables false
namespace Go.Proofs.Ytckninkpjdcfbaa.GE
open Go.RowKit Go.Proofs.Ytckninkpjdcfbaa.Q Go.Proofs.YtckninkpjdcfbaaW.PrintWords Go.Proofs.GR

theorem filter_take_succ {p : Int → Bool} {l : List Int} {n : Nat} (h : n < l.length) : (l.take (n + 1)).filter p = if p (l.getD n 0) = true then (l.take n).filter p ++ [l.getD n 0] else (l.take n).filter p := by
  rw [take_succ (d := (0 : Int)) h, List.filter_append]
  by_cases c : p (l.getD n 0) = true
  · rw [if_pos c, List.filter_cons_of_pos c]; rfl
  · rw [if_neg c, List.filter_cons_of_neg c]; simp
theorem filter_take_len {p : Int → Bool} {l : List Int} {n : Nat} : ((l.take n).filter p).length ≤ n := Nat.le_trans (List.length_filter_le ..) (by rw [List.length_take]; omega)
theorem trial_tv {g : List (List Int)} {r s : List Int} {n : Nat} (h : n < s.length) : (trial g r s).getD n 0 = tv g r s (s.getD n 0) := by
  unfold trial tv
  rw [getD_lt (by simpa using h), List.getElem_map, ← getD_lt (d := 0) h]

theorem impl_Garbage_l1 (f : List Bool) (s : List Int) (hi : ∀ x ∈ s, 0 ≤ x ∧ x < (f.length : Int)) (hs : s.length ≤ 2000000) :
    ∀ (d n : Nat) (i : Int), i = n → n ≤ s.length → s.length - n ≤ d → Ev (fun k => impl_GarbageOf.l1 k f ((s.take n).filter fun x => !f.getD x.toNat false) s s.length i) (s.filter fun x => !f.getD x.toNat false) := by
  have stop : ∀ (n : Nat) (i : Int), i = n → n = s.length → Ev (fun k => impl_GarbageOf.l1 k f ((s.take n).filter fun x => !f.getD x.toNat false) s s.length i) (s.filter fun x => !f.getD x.toNat false) := by
    intro n i hi' hn
    refine Ev.step (fun k => impl_GarbageOf.l1.eq_2 ..) ?_
    simp only [if_neg (show ¬ i < (s.length : Int) by omega)]
    rw [hn, List.take_length]
    exact Ev.now _
  intro d
  induction d with
  | zero => intro n i hi' hn hd; exact stop n i hi' (by omega)
  | succ d ih =>
    intro n i hi' hn hd
    rcases Nat.lt_or_ge n s.length with hlt | hge
    · have hx := hi _ (getD_mem (d := 0) hlt)
      have hl := filter_take_len (p := fun x => !f.getD x.toNat false) (l := s) (n := n)
      refine Ev.step (fun k => impl_GarbageOf.l1.eq_2 ..) ?_
      simp only [if_pos (show i < (s.length : Int) by omega), if_pos (show 0 ≤ i by omega), rd_nat s n i hi', if_pos hx.1, if_pos hx.2, rdOf_nat f (s.getD n 0).toNat (s.getD n 0) (by omega), w64 (x := i + 1) (by omega) (by omega)]
      have h1 := ih (n + 1) (i + 1) (by omega) (by omega) (by omega)
      rw [filter_take_succ hlt] at h1
      by_cases c : f.getD (s.getD n 0).toNat false = true
      · rw [if_neg (by rw [c]; simp)] at h1
        simp only [if_pos c]
        exact h1
      · have c' : f.getD (s.getD n 0).toNat false = false := by simpa using c
        rw [if_pos (by rw [c']; rfl)] at h1
        have hl' : ((s.take n).filter fun x => !f.getD x.toNat false).length < 17592186044416 := by omega
        simp only [if_neg c, if_pos hl']
        exact h1
    · exact stop n i hi' (by omega)
theorem impl_Garbage_l0 (g : List (List Int)) (hg : Gr g) (r s : List Int) (hi : ∀ x ∈ s, 0 ≤ x ∧ x < (g.length : Int)) (hs : s.length ≤ 2000000) :
    ∀ (d n : Nat) (i : Int), i = n → n ≤ s.length → s.length - n ≤ d → Ev (fun k => impl_GarbageOf.l0 k g s ((s.take n).filter fun x => decide (0 < tv g r s x)) (trial g r s) (trial g r s).length i) (garb g r s) := by
  have htl := trial_length g r s
  have stop : ∀ (n : Nat) (i : Int), i = n → n = s.length → Ev (fun k => impl_GarbageOf.l0 k g s ((s.take n).filter fun x => decide (0 < tv g r s x)) (trial g r s) (trial g r s).length i) (garb g r s) := by
    intro n i hi' hn
    refine Ev.step (fun k => impl_GarbageOf.l0.eq_2 ..) ?_
    simp only [if_neg (show ¬ i < ((trial g r s).length : Int) by omega)]
    rw [hn, List.take_length]
    have hfl : (fromL g r s).length ≤ s.length := List.length_filter_le ..
    refine Ev.bind (impl_reached_ev g hg (fromL g r s) (fromL_idx hi) (by omega)) ?_
    exact impl_Garbage_l1 (flags g (fromL g r s)) s (by rw [flags_length]; exact hi) hs s.length 0 0 rfl (Nat.zero_le _) (by omega)
  intro d
  induction d with
  | zero => intro n i hi' hn hd; exact stop n i hi' (by omega)
  | succ d ih =>
    intro n i hi' hn hd
    rcases Nat.lt_or_ge n s.length with hlt | hge
    · have hl := filter_take_len (p := fun x => decide (0 < tv g r s x)) (l := s) (n := n)
      refine Ev.step (fun k => impl_GarbageOf.l0.eq_2 ..) ?_
      have hl' : ((s.take n).filter fun x => decide (0 < tv g r s x)).length < 17592186044416 := by omega
      simp only [if_pos (show i < ((trial g r s).length : Int) by omega), if_pos (show 0 ≤ i by omega), rd_nat (trial g r s) n i hi', trial_tv hlt, rd_nat s n i hi', if_pos (show i < (s.length : Int) by omega), if_pos hl', w64 (x := i + 1) (by omega) (by omega)]
      have h1 := ih (n + 1) (i + 1) (by omega) (by omega) (by omega)
      rw [filter_take_succ hlt] at h1
      by_cases c : tv g r s (s.getD n 0) > 0
      · rw [if_pos (decide_eq_true c)] at h1
        simp only [if_pos c]
        exact h1
      · rw [if_neg (by rw [decide_eq_false c]; simp)] at h1
        simp only [if_neg c]
        exact h1
    · exact stop n i hi' (by omega)
noncomputable def garbR (g : List (List Int)) (r s : List Int) : List Int := if (okG g && okR g r && setB g.length s) = true then garb g r s else []
theorem impl_GarbageOf_ev (g : List (List Int)) (hz : Sz g) (r : List Int) (hr : r.length ≤ 2000000) (s : List Int) (hs : s.length ≤ 2000000) : Ev (fun k => impl_GarbageOf.f k g r s) (garbR g r s) := by
  unfold impl_GarbageOf.f garbR
  refine Ev.bind (impl_setOk_ev g hz r hr s hs) ?_
  by_cases h : (okG g && okR g r && setB g.length s) = true
  · rw [if_pos h]
    obtain ⟨h1, h2, h3, h4, h5⟩ := ok_split h
    simp only [h, if_true]
    refine Ev.bind (impl_trial_ev g (Gr.of h1) r s h2 hr h4 hs) ?_
    exact impl_Garbage_l0 g (Gr.of h1) r s h4 hs s.length 0 0 rfl (Nat.zero_le _) (by omega)
  · rw [if_neg h]
    simp only [h, Bool.false_eq_true, if_false]
    exact Ev.now _
theorem garbR_len (g : List (List Int)) (r s : List Int) : (garbR g r s).length ≤ s.length := by
  unfold garbR garb
  split
  · exact List.length_filter_le ..
  · simp
end Go.Proofs.Ytckninkpjdcfbaa.GE
