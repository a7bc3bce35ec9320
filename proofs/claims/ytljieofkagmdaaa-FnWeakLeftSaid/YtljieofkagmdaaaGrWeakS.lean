/- Weak references, for the reference. -/
import Derived.Test.YtljieofkagmdaaaGrWeak
import Derived.Test.YtljieofkagmdaaaQ22
set_option linter.unusedSimpArgs false
set_option linter.unusedVariables false
namespace Go.Proofs.Ytljieofkagmdaaa.GE
open Go.RowKit Go.Proofs.Ytljieofkagmdaaa.Q Go.Proofs.YtljieofkagmdaaaW.PrintWords Go.Proofs.GR

theorem spec_validWeaks_l (r : List Int) (n : Nat) (hr : r.length ≤ 100000) (hn : n ≤ 100000) : ∀ (d m : Nat) (i : Int), i = m → m ≤ r.length → r.length - m ≤ d →
    Ev (fun k => spec_validWeaks.l0 k r n i) (wok n (r.drop m) && decide (r.length ≤ 12)) := by
  have stop : ∀ (i : Int), i = (r.length : Nat) → Ev (fun k => spec_validWeaks.l0 k r n i) (wok n (r.drop r.length) && decide (r.length ≤ 12)) := by
    intro i hi
    refine Ev.step (fun k => spec_validWeaks.l0.eq_2 ..) ?_
    simp only [if_neg (show ¬ i < (r.length : Int) by omega)]
    rw [List.drop_length]
    have : decide ((r.length : Int) ≤ 12) = decide (r.length ≤ 12) := by rw [Bool.eq_iff_iff, decide_eq_true_eq, decide_eq_true_eq]; omega
    rw [this, show wok n [] = true from rfl, Bool.true_and]
    exact Ev.now _
  intro d
  induction d with
  | zero =>
    intro m i hi hm hd
    have : m = r.length := by omega
    subst this
    exact stop i hi
  | succ d ih =>
    intro m i hi hm hd
    rcases Nat.lt_or_ge m r.length with hlt | hge
    · refine Ev.step (fun k => spec_validWeaks.l0.eq_2 ..) ?_
      simp only [if_pos (show i < (r.length : Int) by omega), if_pos (show 0 ≤ i by omega), inRange_eq, Option.bind_some]
      rw [rd_nat _ m i hi, w64 (x := (n : Int) - 1) (by omega) (by omega), w64 (x := i + 1) (by omega) (by omega), drop_cons (d := 0) hlt, wok_cons]
      by_cases c : -1 ≤ r.getD m 0 ∧ r.getD m 0 ≤ (n : Int) - 1
      · rw [decide_eq_true c, decide_eq_true (show -1 ≤ r.getD m 0 ∧ r.getD m 0 < (n : Int) by omega), Bool.true_and]
        simp only [if_true]
        exact ih (m + 1) (i + 1) (by omega) (by omega) (by omega)
      · rw [decide_eq_false c, decide_eq_false (show ¬ (-1 ≤ r.getD m 0 ∧ r.getD m 0 < (n : Int)) by omega), Bool.false_and, Bool.false_and]
        simp only [Bool.false_eq_true, if_false]
        exact Ev.now _
    · have : m = r.length := by omega
      subst this
      exact stop i hi
theorem spec_Weak_l0 (f : List Bool) (N : Nat) (hf : f.length = N) (w : List Int) (hw : w.length ≤ 12) (hok : wok N w = true) : ∀ (d n : Nat) (i : Int), i = n → n ≤ w.length → w.length - n ≤ d →
    Ev (fun k => spec_WeakLeft.l0 k w f ((w.take n).map (left f)) i) (w.map (left f)) := by
  have stop : ∀ (n : Nat) (i : Int), i = n → n = w.length → Ev (fun k => spec_WeakLeft.l0 k w f ((w.take n).map (left f)) i) (w.map (left f)) := by
    intro n i hi hn
    refine Ev.step (fun k => spec_WeakLeft.l0.eq_2 ..) ?_
    simp only [if_neg (show ¬ i < (w.length : Int) by omega)]
    rw [hn, List.take_length]
    exact Ev.now _
  intro d
  induction d with
  | zero => intro n i hi hn hd; exact stop n i hi (by omega)
  | succ d ih =>
    intro n i hi hn hd
    rcases Nat.lt_or_ge n w.length with hlt | hge
    · have h1 := ih (n + 1) (i + 1) (by omega) (by omega) (by omega)
      rw [take_succ (d := (0 : Int)) hlt, List.map_append] at h1
      have hx := wok_iff.1 hok _ (getD_mem (d := 0) hlt)
      have hl : ((w.take n).map (left f)).length < 17592186044416 := by rw [List.length_map, List.length_take]; omega
      refine Ev.step (fun k => spec_WeakLeft.l0.eq_2 ..) ?_
      simp only [if_pos (show i < (w.length : Int) by omega), if_pos (show 0 ≤ i by omega), rd_nat w n i hi, w64 (x := i + 1) (by omega) (by omega), if_pos hl]
      by_cases c1 : w.getD n 0 ≥ 0
      · simp only [if_pos c1, if_pos (show 0 ≤ w.getD n 0 from c1), if_pos (show w.getD n 0 < (f.length : Int) by omega)]
        rw [show rdOf false f (w.getD n 0) = f.getD (w.getD n 0).toNat false from rfl]
        by_cases c2 : f.getD (w.getD n 0).toNat false = true
        · simp only [if_pos c2]
          have e : [w.getD n 0].map (left f) = [w.getD n 0] := by simp only [List.map_cons, List.map_nil]; unfold left; rw [if_pos ⟨c1, c2⟩]
          rw [e] at h1
          exact h1
        · simp only [if_neg c2]
          have e : [w.getD n 0].map (left f) = [-1] := by simp only [List.map_cons, List.map_nil]; unfold left; rw [if_neg (fun q => c2 q.2)]
          rw [e] at h1
          exact h1
      · simp only [if_neg c1]
        have e : [w.getD n 0].map (left f) = [-1] := by simp only [List.map_cons, List.map_nil]; unfold left; rw [if_neg (fun q => c1 q.1)]
        rw [e] at h1
        exact h1
    · exact stop n i hi (by omega)
theorem spec_WeakLeft_ev (g : List (List Int)) (hz : Sz g) (r : List Int) (hr : r.length ≤ 100000) (w : List Int) (hw : w.length ≤ 100000) : Ev (fun k => spec_WeakLeft.f k g r w) (weakR g r w) := by
  have hgl := hz.len
  unfold spec_WeakLeft.f
  have fail : ¬ ((okG g && okR g r) = true ∧ w.length ≤ 12 ∧ wok g.length w = true) → Ev (fun k => spec_WeakLeft.j0 k g r w true) (weakR g r w) := by
    intro h
    unfold weakR
    rw [if_neg h]
    refine Ev.step (fun k => spec_WeakLeft.j0.eq_2 ..) ?_
    simp only [if_true]
    exact Ev.now _
  refine Ev.bind (spec_validGraph_ev g hz) ?_
  cases h1 : okG g with
  | false => simp only [Bool.false_eq_true, if_false]; exact fail (by rw [h1]; simp)
  | true =>
    simp only [if_true]
    refine Ev.bind (spec_validRoots_ev r g.length hr (by omega)) ?_
    have e2 : (idx g.length r && decide (r.length ≤ 12)) = okR g r := rfl
    rw [e2]
    cases h2 : okR g r with
    | false => simp only [Bool.false_eq_true, if_false]; exact fail (by rw [h1, h2]; simp)
    | true =>
      simp only [if_true]
      have hv : Ev (fun k => spec_validWeaks.f k w g.length) (wok g.length w && decide (w.length ≤ 12)) := by
        unfold spec_validWeaks.f
        have := spec_validWeaks_l w g.length hw (by omega) w.length 0 0 rfl (Nat.zero_le _) (by omega)
        rw [List.drop_zero] at this
        exact this
      refine Ev.bind hv ?_
      cases h3 : (wok g.length w && decide (w.length ≤ 12)) with
      | false =>
        simp only [Bool.not_false]
        exact fail (fun q => by rw [q.2.2, decide_eq_true q.2.1] at h3; simp at h3)
      | true =>
        rw [Bool.and_eq_true, decide_eq_true_eq] at h3
        have h : (okG g && okR g r) = true := by rw [h1, h2]; rfl
        obtain ⟨q1, q2, q3, q4⟩ := okGR h
        unfold weakR
        rw [if_pos ⟨h, h3.2, h3.1⟩]
        refine Ev.step (fun k => spec_WeakLeft.j0.eq_2 ..) ?_
        simp only [Bool.not_true, Bool.false_eq_true, if_false]
        refine Ev.bind (spec_marked_ev g (Gr.of q1) r q2 hr) ?_
        exact spec_Weak_l0 (flags g r) g.length (flags_length g r) w h3.2 h3.1 w.length 0 0 rfl (Nat.zero_le _) (by omega)
end Go.Proofs.Ytljieofkagmdaaa.GE
