/- CollectUpTo, for the program and for the reference. -/
import Derived.Test.YtckninkpjdcfbaaGrEv8
import Derived.Test.YtckninkpjdcfbaaGrColl
import Derived.Test.YtckninkpjdcfbaaQ21
set_option linter.unusedSimpArgs false
set_option linter.unusedVariables false
namespace Go.Proofs.Ytckninkpjdcfbaa.GE
open Go.RowKit Go.Proofs.Ytckninkpjdcfbaa.Q Go.Proofs.YtckninkpjdcfbaaW.PrintWords Go.Proofs.GR

theorem mn_eq (a b : Int) : mn a b = min a b := by unfold mn; omega
theorem impl_Coll_l1 (l : List Int) (hl : l.length ≤ 2000000) (N : Nat) (hi : ∀ x ∈ l, 0 ≤ x ∧ x < (N : Int)) : ∀ (d n : Nat) (i : Int) (c : List Int), i = n → n ≤ l.length → l.length - n ≤ d → c.length = N → Ev (fun k => impl_CollectUpTo.l1 k c l l.length i) (sets c (l.drop n) (-1)) := by
  have stop : ∀ (n : Nat) (i : Int) (c : List Int), i = n → n = l.length → Ev (fun k => impl_CollectUpTo.l1 k c l l.length i) (sets c (l.drop n) (-1)) := by
    intro n i c hi hn
    refine Ev.step (fun k => impl_CollectUpTo.l1.eq_2 ..) ?_
    simp only [if_neg (show ¬ i < (l.length : Int) by omega)]
    rw [hn, List.drop_length]
    exact Ev.now _
  intro d
  induction d with
  | zero => intro n i c hin hn hd hc; exact stop n i c hin (by omega)
  | succ d ih =>
    intro n i c hin hn hd hc
    rcases Nat.lt_or_ge n l.length with hlt | hge
    · have hx := hi _ (getD_mem (d := 0) hlt)
      refine Ev.step (fun k => impl_CollectUpTo.l1.eq_2 ..) ?_
      simp only [if_pos (show i < (l.length : Int) by omega), if_pos (show 0 ≤ i by omega), rd_nat l n i hin, if_pos hx.1, if_pos (show l.getD n 0 < (c.length : Int) by omega), w64 (x := i + 1) (by omega) (by omega)]
      rw [drop_cons (d := (0 : Int)) hlt]
      exact ih (n + 1) (i + 1) _ (by omega) (by omega) (by omega) (by rw [List.length_set]; exact hc)
    · exact stop n i c hin (by omega)
theorem impl_Coll_l0 (g : List (List Int)) (hz : Sz g) (r : List Int) (h12 : (okG g && okR g r) = true) (gens : List Int) (hlen : gens.length = g.length) (top : Int) (ht0 : 0 ≤ top) (ht2 : top ≤ 2) :
    ∀ (d n : Nat) (i : Int), i = n → n ≤ gens.length → gens.length - n ≤ d → Ev (fun k => impl_CollectUpTo.l0 k g r top (upS gens top n) (sets gens (upS gens top n) (min (top + 1) 2)) gens gens.length i) (col g r gens top) := by
  have hgl := hz.len
  obtain ⟨k1, k2, k3, k4⟩ : okG g = true ∧ (∀ x ∈ r, 0 ≤ x ∧ x < (g.length : Int)) ∧ r.length ≤ 12 ∧ g.length ≤ 12 := by
    have h := h12
    simp only [okR, Bool.and_eq_true, decide_eq_true_eq] at h
    exact ⟨h.1, idx_iff.1 h.2.1, h.2.2, (okG_iff.1 h.1).2⟩
  have stop : ∀ (n : Nat) (i : Int), i = n → n = gens.length → Ev (fun k => impl_CollectUpTo.l0 k g r top (upS gens top n) (sets gens (upS gens top n) (min (top + 1) 2)) gens gens.length i) (col g r gens top) := by
    intro n i hi hn
    refine Ev.step (fun k => impl_CollectUpTo.l0.eq_2 ..) ?_
    simp only [if_neg (show ¬ i < (gens.length : Int) by omega)]
    rw [hn]
    have hl := upS_len gens top gens.length
    have hidx : ∀ x ∈ upS gens top gens.length, 0 ≤ x ∧ x < (g.length : Int) := fun x hx => by rw [← hlen]; exact (mem_upS.1 hx).1
    have hset : setB g.length (upS gens top gens.length) = true := by
      unfold setB
      rw [idx_iff.2 hidx, decide_eq_true (upS_asc _ _ _)]; rfl
    have hg : garbR g r (upS gens top gens.length) = garb g r (upS gens top gens.length) := by unfold garbR; rw [if_pos (by rw [h12, hset]; rfl)]
    refine Ev.bind (impl_GarbageOf_ev g hz r (by omega) _ (by omega)) ?_
    rw [hg]
    have hgl2 : (garb g r (upS gens top gens.length)).length ≤ (upS gens top gens.length).length := List.length_filter_le ..
    have h1 := impl_Coll_l1 (garb g r (upS gens top gens.length)) (by omega) g.length (fun x hx => hidx x (List.mem_filter.1 hx).1) _ 0 0 (sets gens (upS gens top gens.length) (min (top + 1) 2)) rfl (Nat.zero_le _) (Nat.le_refl _) (by rw [sets_length]; exact hlen)
    rw [List.drop_zero] at h1
    exact h1
  intro d
  induction d with
  | zero => intro n i hi hn hd; exact stop n i hi (by omega)
  | succ d ih =>
    intro n i hi hn hd
    rcases Nat.lt_or_ge n gens.length with hlt | hge
    · have hl := upS_len gens top n
      refine Ev.step (fun k => impl_CollectUpTo.l0.eq_2 ..) ?_
      have h1 := ih (n + 1) (i + 1) (by omega) (by omega) (by omega)
      rw [upS_succ] at h1
      simp only [if_pos (show i < (gens.length : Int) by omega), if_pos (show 0 ≤ i by omega), rd_nat gens n i hi, w64 (x := i + 1) (by omega) (by omega), w64 (x := top + 1) (by omega) (by omega), mn_eq]
      by_cases c : gens.getD n 0 ≤ top
      · rw [if_pos c, sets_append] at h1
        simp only [if_pos c, if_pos (show (upS gens top n).length < 17592186044416 by omega), sets_length, if_pos (show i < (gens.length : Int) by omega)]
        rw [hi]
        rw [hi] at h1
        exact h1
      · rw [if_neg c] at h1
        simp only [if_neg c]
        exact h1
    · exact stop n i hi (by omega)
/-- What collections answer. -/
noncomputable def colR (g : List (List Int)) (r gens : List Int) (top : Int) : List Int := if (okG g && okR g r) = true ∧ gens.length = g.length ∧ idx 3 gens = true ∧ 0 ≤ top ∧ top ≤ 2 then col g r gens top else []
theorem impl_CollectUpTo_ev (g : List (List Int)) (hz : Sz g) (r : List Int) (hr : r.length ≤ 2000000) (gens : List Int) (hgl : gens.length ≤ 2000000) (top : Int) : Ev (fun k => impl_CollectUpTo.f k g r gens top) (colR g r gens top) := by
  have hg1 := hz.len
  unfold impl_CollectUpTo.f colR
  have fail : Ev (fun k => impl_CollectUpTo.j0 k g r gens top true) [] := by
    refine Ev.step (fun k => impl_CollectUpTo.j0.eq_2 ..) ?_
    simp only [if_true]
    exact Ev.now _
  refine Ev.bind (impl_GraphOk_ev g hz r hr) ?_
  cases h1 : (okG g && okR g r) with
  | false =>
    rw [if_neg (by simp)]
    simp only [Bool.false_eq_true, if_false]
    exact fail
  | true =>
    simp only [if_true]
    by_cases h2 : (gens.length : Int) = (g.length : Int)
    · simp only [if_pos h2]
      have h3 := impl_indicesOk_ev gens 3 hgl
      refine Ev.bind h3 ?_
      cases h4 : idx 3 gens with
      | false =>
        rw [if_neg (by simp)]
        simp only [Bool.false_eq_true, if_false]
        exact fail
      | true =>
        simp only [if_true]
        have hw : impl_within.f top 0 2 = some (decide (0 ≤ top ∧ top ≤ 2)) := by
          unfold impl_within.f
          by_cases h : top ≥ 0
          · rw [if_pos h]
            congr 1
            rw [Bool.eq_iff_iff, decide_eq_true_eq, decide_eq_true_eq]
            omega
          · rw [if_neg h, decide_eq_false (by omega)]
        simp only [hw, Option.bind_some]
        by_cases h5 : 0 ≤ top ∧ top ≤ 2
        · rw [if_pos ⟨trivial, by omega, trivial, h5⟩]
          simp only [decide_eq_true h5, Bool.not_true]
          refine Ev.step (fun k => impl_CollectUpTo.j0.eq_2 ..) ?_
          simp only [Bool.false_eq_true, if_false, Clone_eq gens (by omega), Option.bind_some]
          exact impl_Coll_l0 g hz r h1 gens (by omega) top h5.1 h5.2 gens.length 0 0 rfl (Nat.zero_le _) (by omega)
        · rw [if_neg (fun q => h5 q.2.2.2)]
          simp only [decide_eq_false h5, Bool.not_false]
          exact fail
    · rw [if_neg (fun q => h2 (by omega))]
      simp only [if_neg h2]
      exact fail

theorem spec_upTo_l (gens : List Int) (hpos : ∀ x ∈ gens, 0 ≤ x) (top : Int) (hgl : gens.length ≤ 2000000) : ∀ (d n : Nat) (i : Int), i = n → n ≤ gens.length → gens.length - n ≤ d → Ev (fun k => spec_upTo.l0 k gens top (upS gens top n) i) (upS gens top gens.length) := by
  have stop : ∀ (n : Nat) (i : Int), i = n → n = gens.length → Ev (fun k => spec_upTo.l0 k gens top (upS gens top n) i) (upS gens top gens.length) := by
    intro n i hi hn
    refine Ev.step (fun k => spec_upTo.l0.eq_2 ..) ?_
    simp only [if_neg (show ¬ i < (gens.length : Int) by omega)]
    rw [hn]
    exact Ev.now _
  intro d
  induction d with
  | zero => intro n i hi hn hd; exact stop n i hi (by omega)
  | succ d ih =>
    intro n i hi hn hd
    rcases Nat.lt_or_ge n gens.length with hlt | hge
    · have hl := upS_len gens top n
      have hp := hpos _ (getD_mem (d := 0) hlt)
      refine Ev.step (fun k => spec_upTo.l0.eq_2 ..) ?_
      have h1 := ih (n + 1) (i + 1) (by omega) (by omega) (by omega)
      rw [upS_succ] at h1
      simp only [if_pos (show i < (gens.length : Int) by omega), if_pos (show 0 ≤ i by omega), rd_nat gens n i hi, w64 (x := i + 1) (by omega) (by omega), if_pos (show gens.getD n 0 ≥ 0 from hp)]
      by_cases c : gens.getD n 0 ≤ top
      · rw [if_pos c] at h1
        simp only [if_pos c, if_pos (show (upS gens top n).length < 17592186044416 by omega)]
        rw [hi]
        rw [hi] at h1
        exact h1
      · rw [if_neg c] at h1
        simp only [if_neg c]
        exact h1
    · exact stop n i hi (by omega)
theorem spec_coll_l1 (l : List Int) (hl : l.length ≤ 2000000) (N : Nat) (hi : ∀ x ∈ l, 0 ≤ x ∧ x < (N : Int)) : ∀ (d n : Nat) (i : Int) (c : List Int), i = n → n ≤ l.length → l.length - n ≤ d → c.length = N → Ev (fun k => spec_collected.l1 k l c i) (sets c (l.drop n) (-1)) := by
  have stop : ∀ (n : Nat) (i : Int) (c : List Int), i = n → n = l.length → Ev (fun k => spec_collected.l1 k l c i) (sets c (l.drop n) (-1)) := by
    intro n i c hi hn
    refine Ev.step (fun k => spec_collected.l1.eq_2 ..) ?_
    simp only [if_neg (show ¬ i < (l.length : Int) by omega)]
    rw [hn, List.drop_length]
    exact Ev.now _
  intro d
  induction d with
  | zero => intro n i c hin hn hd hc; exact stop n i c hin (by omega)
  | succ d ih =>
    intro n i c hin hn hd hc
    rcases Nat.lt_or_ge n l.length with hlt | hge
    · have hx := hi _ (getD_mem (d := 0) hlt)
      refine Ev.step (fun k => spec_collected.l1.eq_2 ..) ?_
      simp only [if_pos (show i < (l.length : Int) by omega), if_pos (show 0 ≤ i by omega), rd_nat l n i hin, if_pos hx.1, if_pos (show l.getD n 0 < (c.length : Int) by omega), w64 (x := i + 1) (by omega) (by omega)]
      rw [drop_cons (d := (0 : Int)) hlt]
      exact ih (n + 1) (i + 1) _ (by omega) (by omega) (by omega) (by rw [List.length_set]; exact hc)
    · exact stop n i c hin (by omega)
theorem spec_coll_l0 (s l : List Int) (hs : s.length ≤ 2000000) (hl : l.length ≤ 2000000) (N : Nat) (his : ∀ x ∈ s, 0 ≤ x ∧ x < (N : Int)) (hi : ∀ x ∈ l, 0 ≤ x ∧ x < (N : Int)) (top : Int) (ht0 : 0 ≤ top) (ht2 : top ≤ 2) : ∀ (d n : Nat) (i : Int) (c : List Int), i = n → n ≤ s.length → s.length - n ≤ d → c.length = N → Ev (fun k => spec_collected.l0 k top s l c i) (sets (sets c (s.drop n) (min (top + 1) 2)) l (-1)) := by
  have stop : ∀ (n : Nat) (i : Int) (c : List Int), i = n → n = s.length → c.length = N → Ev (fun k => spec_collected.l0 k top s l c i) (sets (sets c (s.drop n) (min (top + 1) 2)) l (-1)) := by
    intro n i c hin hn hc
    refine Ev.step (fun k => spec_collected.l0.eq_2 ..) ?_
    simp only [if_neg (show ¬ i < (s.length : Int) by omega)]
    rw [hn, List.drop_length]
    have := spec_coll_l1 l hl N hi l.length 0 0 c rfl (Nat.zero_le _) (by omega) hc
    rw [List.drop_zero] at this
    exact this
  intro d
  induction d with
  | zero => intro n i c hin hn hd hc; exact stop n i c hin (by omega) hc
  | succ d ih =>
    intro n i c hin hn hd hc
    rcases Nat.lt_or_ge n s.length with hlt | hge
    · have hx := his _ (getD_mem (d := 0) hlt)
      refine Ev.step (fun k => spec_collected.l0.eq_2 ..) ?_
      simp only [if_pos (show i < (s.length : Int) by omega), if_pos (show 0 ≤ i by omega), rd_nat s n i hin, if_pos hx.1, if_pos (show s.getD n 0 < (c.length : Int) by omega), w64 (x := i + 1) (by omega) (by omega), w64 (x := top + 1) (by omega) (by omega), mn_eq]
      rw [drop_cons (d := (0 : Int)) hlt]
      exact ih (n + 1) (i + 1) _ (by omega) (by omega) (by omega) (by rw [List.length_set]; exact hc)
    · exact stop n i c hin (by omega) hc
theorem spec_validGens_l (r : List Int) (n : Nat) (hr : r.length ≤ 2000000) : ∀ (d m : Nat) (i : Int), i = m → m ≤ r.length → r.length - m ≤ d →
    Ev (fun k => spec_validGens.l0 k r n i) (idx 3 (r.drop m) && decide (r.length = n)) := by
  have stop : ∀ (i : Int), i = (r.length : Nat) → Ev (fun k => spec_validGens.l0 k r n i) (idx 3 (r.drop r.length) && decide (r.length = n)) := by
    intro i hi
    refine Ev.step (fun k => spec_validGens.l0.eq_2 ..) ?_
    simp only [if_neg (show ¬ i < (r.length : Int) by omega)]
    rw [List.drop_length]
    have : ((r.length : Int) == (n : Int)) = decide (r.length = n) := by rw [Bool.eq_iff_iff, beq_iff_eq, decide_eq_true_eq]; omega
    rw [this, show idx 3 [] = true from rfl, Bool.true_and]
    exact Ev.now _
  intro d
  induction d with
  | zero =>
    intro m i hi hm hd
    have : m = r.length := by omega
    subst this
    exact stop i hi
  | succ d ih =>
    intro m i hi hm hd
    rcases Nat.lt_or_ge m r.length with hlt | hge
    · refine Ev.step (fun k => spec_validGens.l0.eq_2 ..) ?_
      simp only [if_pos (show i < (r.length : Int) by omega), if_pos (show 0 ≤ i by omega), inRange_eq, Option.bind_some]
      rw [rd_nat _ m i hi, w64 (x := i + 1) (by omega) (by omega), drop_cons (d := 0) hlt, idx_cons]
      by_cases c : 0 ≤ r.getD m 0 ∧ r.getD m 0 ≤ 2
      · rw [decide_eq_true c, decide_eq_true (show 0 ≤ r.getD m 0 ∧ r.getD m 0 < ((3 : Nat) : Int) by omega), Bool.true_and]
        simp only [if_true]
        exact ih (m + 1) (i + 1) (by omega) (by omega) (by omega)
      · rw [decide_eq_false c, decide_eq_false (show ¬ (0 ≤ r.getD m 0 ∧ r.getD m 0 < ((3 : Nat) : Int)) by omega), Bool.false_and, Bool.false_and]
        simp only [Bool.false_eq_true, if_false]
        exact Ev.now _
    · have : m = r.length := by omega
      subst this
      exact stop i hi
theorem spec_CollectUpTo_ev (g : List (List Int)) (hz : Sz g) (r : List Int) (hr : r.length ≤ 2000000) (gens : List Int) (hgl : gens.length ≤ 2000000) (top : Int) : Ev (fun k => spec_CollectUpTo.f k g r gens top) (colR g r gens top) := by
  have hg1 := hz.len
  unfold spec_CollectUpTo.f
  have fail : ¬ ((okG g && okR g r) = true ∧ gens.length = g.length ∧ idx 3 gens = true ∧ 0 ≤ top ∧ top ≤ 2) → Ev (fun _ => some ([] : List Int)) (colR g r gens top) := by
    intro h
    unfold colR
    rw [if_neg h]
    exact Ev.now _
  refine Ev.bind (spec_validGraph_ev g hz) ?_
  cases h1 : okG g with
  | false => simp only [Bool.false_eq_true, if_false]; exact fail (by rw [h1]; simp)
  | true =>
    simp only [if_true]
    refine Ev.bind (spec_validRoots_ev r g.length hr (by omega)) ?_
    have e2 : (idx g.length r && decide (r.length ≤ 12)) = okR g r := rfl
    rw [e2]
    cases h2 : okR g r with
    | false => simp only [Bool.false_eq_true, if_false]; exact fail (by rw [h1, h2]; simp)
    | true =>
      simp only [if_true]
      have hv : Ev (fun k => spec_validGens.f k gens g.length) (idx 3 gens && decide (gens.length = g.length)) := by
        unfold spec_validGens.f
        have := spec_validGens_l gens g.length hgl gens.length 0 0 rfl (Nat.zero_le _) (by omega)
        rw [List.drop_zero] at this
        exact this
      refine Ev.bind hv ?_
      cases h3 : (idx 3 gens && decide (gens.length = g.length)) with
      | false =>
        simp only [Bool.false_eq_true, if_false]
        exact fail (fun q => by rw [q.2.2.1, decide_eq_true q.2.1] at h3; simp at h3)
      | true =>
        rw [Bool.and_eq_true, decide_eq_true_eq] at h3
        simp only [if_true, inRange_eq, Option.bind_some]
        by_cases h5 : 0 ≤ top ∧ top ≤ 2
        · simp only [decide_eq_true h5, if_true]
          have hok : (okG g && okR g r) = true := by rw [h1, h2]; rfl
          unfold colR
          rw [if_pos ⟨hok, h3.2, h3.1, h5⟩]
          refine Ev.bind (a := col g r gens top) ?_ (Ev.now _)
          have k2 : ∀ x ∈ r, 0 ≤ x ∧ x < (g.length : Int) := by
            simp only [okR, Bool.and_eq_true, decide_eq_true_eq] at h2
            exact idx_iff.1 h2.1
          have hidx : ∀ x ∈ upS gens top gens.length, 0 ≤ x ∧ x < (g.length : Int) := fun x hx => by rw [← h3.2]; exact (mem_upS.1 hx).1
          have hul := upS_len gens top gens.length
          unfold spec_collected.f
          have hu : Ev (fun k => spec_upTo.f k gens top) (upS gens top gens.length) := by
            unfold spec_upTo.f
            exact spec_upTo_l gens (fun x hx => (idx_iff.1 h3.1 x hx).1) top hgl gens.length 0 0 rfl (Nat.zero_le _) (by omega)
          refine Ev.bind hu (Ev.bind (spec_garbage_ev g (Gr.of h1) r _ k2 hr hidx (by omega)) ?_)
          simp only [Option.bind_some, List.nil_append, List.length_nil, if_pos (show 0 + gens.length < 17592186044416 by omega)]
          have hgl2 : (garb g r (upS gens top gens.length)).length ≤ (upS gens top gens.length).length := List.length_filter_le ..
          have := spec_coll_l0 (upS gens top gens.length) (garb g r (upS gens top gens.length)) (by omega) (by omega) g.length hidx (fun x hx => hidx x (List.mem_filter.1 hx).1) top h5.1 h5.2 _ 0 0 gens rfl (Nat.zero_le _) (Nat.le_refl _) h3.2
          rw [List.drop_zero] at this
          exact this
        · simp only [decide_eq_false h5, Bool.false_eq_true, if_false]
          exact fail (fun q => h5 q.2.2.2)
end Go.Proofs.Ytckninkpjdcfbaa.GE
