/- What counting keeps, for the program and the reference. -/
import Derived.Test.YtckninkpjdcfbaaGrDrop
import Derived.Test.YtckninkpjdcfbaaGrColl
import Derived.Test.YtckninkpjdcfbaaGrHas
import Derived.Test.YtckninkpjdcfbaaQ16
import Derived.Test.YtckninkpjdcfbaaQ17
set_option linter.unusedSimpArgs false
set_option linter.unusedVariables false
namespace Go.Proofs.Ytckninkpjdcfbaa.GE
open Go.RowKit Go.Proofs.Ytckninkpjdcfbaa.Q Go.Proofs.YtckninkpjdcfbaaW.PrintWords Go.Proofs.GR

/-- The objects that nothing counts. -/
def zerosTo (c : List Int) (n : Nat) : List Int := (allL n).filter fun x => decide (c.getD x.toNat 0 = 0)
theorem zerosTo_succ (c : List Int) (n : Nat) : zerosTo c (n + 1) = if c.getD n 0 = 0 then zerosTo c n ++ [(n : Int)] else zerosTo c n := by
  unfold zerosTo
  rw [allL_succ, List.filter_append]
  by_cases h : c.getD n 0 = 0
  · rw [if_pos h, List.filter_cons_of_pos (by simpa using h)]; simp
  · rw [if_neg h, List.filter_cons_of_neg (by simpa using h)]; simp
theorem zerosTo_len (c : List Int) (n : Nat) : (zerosTo c n).length ≤ n := Nat.le_trans (List.length_filter_le ..) (by rw [allL_length]; omega)
/-- The objects that aren't in a list. -/
def keepTo (F : List Int) (n : Nat) : List Int := (allL n).filter fun x => decide (x ∉ F)
theorem keepTo_succ (F : List Int) (n : Nat) : keepTo F (n + 1) = if (n : Int) ∈ F then keepTo F n else keepTo F n ++ [(n : Int)] := by
  unfold keepTo
  rw [allL_succ, List.filter_append]
  by_cases h : (n : Int) ∈ F
  · rw [if_pos h, List.filter_cons_of_neg (by simpa using h)]; simp
  · rw [if_neg h, List.filter_cons_of_pos (by simpa using h)]; simp
theorem keepTo_len (F : List Int) (n : Nat) : (keepTo F n).length ≤ n := Nat.le_trans (List.length_filter_le ..) (by rw [allL_length]; omega)
theorem mem_keepTo {F : List Int} {n : Nat} {x : Int} : x ∈ keepTo F n ↔ (0 ≤ x ∧ x < (n : Int)) ∧ x ∉ F := by
  unfold keepTo
  rw [List.mem_filter, mem_allL, decide_eq_true_eq]
theorem zeros_inv {g : List (List Int)} (hg : Gr g) {r : List Int} (hr : ∀ x ∈ r, 0 ≤ x ∧ x < (g.length : Int)) : FInv g r True [] (zerosTo (counts g r) g.length) (counts g r) := by
  refine ⟨.nil, counts_length g r, fun i _ => ?_, ?_, fun x hx => ?_, fun x hx => ?_, fun _ x hx h0 => ?_⟩
  · rw [counts_getD hg hr, refs_count, restc_nil]
  · rw [List.nil_append]; exact (allL_nodup _).filter _
  · exact mem_allL.1 (List.mem_filter.1 hx).1
  · simpa using (List.mem_filter.1 hx).2
  · rw [List.nil_append]; exact List.mem_filter.2 ⟨mem_allL.2 hx, by simpa using h0⟩

theorem impl_Kept_l2 (gone : List Bool) (F : List Int) (n : Nat) (hn : n ≤ 2000000) (hl : gone.length = n) (hgo : ∀ i : Nat, i < n → gone.getD i false = decide ((i : Int) ∈ F)) : ∀ (d m : Nat) (i : Int), i = m → m ≤ n → n - m ≤ d →
    Ev (fun k => impl_KeptBy.l2 k gone (keepTo F m) (n : Int) i) (keepTo F n) := by
  have stop : ∀ (m : Nat) (i : Int), i = m → m = n → Ev (fun k => impl_KeptBy.l2 k gone (keepTo F m) (n : Int) i) (keepTo F n) := by
    intro m i hi hm
    subst hm
    refine Ev.step (fun k => impl_KeptBy.l2.eq_2 ..) ?_
    simp only [if_neg (show ¬ i < (m : Int) by omega)]
    exact Ev.now _
  intro d
  induction d with
  | zero => intro m i hi hm hd; exact stop m i hi (by omega)
  | succ d ih =>
    intro m i hi hm hd
    rcases Nat.lt_or_ge m n with hlt | hge
    · refine Ev.step (fun k => impl_KeptBy.l2.eq_2 ..) ?_
      simp only [if_pos (show i < (n : Int) by omega), if_pos (show 0 ≤ i by omega), if_pos (show i < (gone.length : Int) by omega)]
      rw [rdOf_nat gone m i hi, hgo m hlt]
      have hkl := keepTo_len F m
      have := ih (m + 1) (i + 1) (by omega) (by omega) (by omega)
      rw [keepTo_succ] at this
      by_cases c : (m : Int) ∈ F
      · simp only [decide_eq_true c, if_true]
        rw [if_pos c] at this
        rw [w64 (x := i + 1) (by omega) (by omega)]
        exact this
      · simp only [decide_eq_false c, Bool.false_eq_true, if_false, if_pos (show (keepTo F m).length < 17592186044416 by omega)]
        rw [if_neg c] at this
        rw [w64 (x := i + 1) (by omega) (by omega), hi]
        rw [hi] at this
        exact this
    · exact stop m i hi (by omega)
theorem impl_Kept_l1 (g : List (List Int)) (hgl : g.length ≤ 2000000) (F : List Int) (hF : ∀ x ∈ F, 0 ≤ x ∧ x < (g.length : Int)) (hFl : F.length ≤ 2000000) : ∀ (d m : Nat) (i : Int) (gone : List Bool), i = m → m ≤ F.length → F.length - m ≤ d → gone.length = g.length → (∀ i : Nat, i < g.length → gone.getD i false = decide ((i : Int) ∈ F.take m)) →
    Ev (fun k => impl_KeptBy.l1 k g gone F (F.length : Int) i) (keepTo F g.length) := by
  have stop : ∀ (m : Nat) (i : Int) (gone : List Bool), i = m → m = F.length → gone.length = g.length → (∀ i : Nat, i < g.length → gone.getD i false = decide ((i : Int) ∈ F.take m)) → Ev (fun k => impl_KeptBy.l1 k g gone F (F.length : Int) i) (keepTo F g.length) := by
    intro m i gone hi hm hl hgo
    subst hm
    rw [List.take_length] at hgo
    refine Ev.step (fun k => impl_KeptBy.l1.eq_2 ..) ?_
    simp only [if_neg (show ¬ i < (F.length : Int) by omega)]
    have := impl_Kept_l2 gone F g.length hgl hl hgo g.length 0 0 rfl (Nat.zero_le _) (by omega)
    exact this
  intro d
  induction d with
  | zero => intro m i gone hi hm hd hl hgo; exact stop m i gone hi (by omega) hl hgo
  | succ d ih =>
    intro m i gone hi hm hd hl hgo
    rcases Nat.lt_or_ge m F.length with hlt | hge
    · have hx := hF _ (getD_mem (d := (0 : Int)) hlt)
      refine Ev.step (fun k => impl_KeptBy.l1.eq_2 ..) ?_
      simp only [if_pos (show i < (F.length : Int) by omega), if_pos (show 0 ≤ i by omega), rd_nat F m i hi, if_pos hx.1, if_pos (show F.getD m 0 < (gone.length : Int) by omega), w64 (x := i + 1) (show -1000000000000000000 ≤ i + 1 by omega) (show i + 1 ≤ 1000000000000000000 by omega)]
      refine ih (m + 1) (i + 1) _ (by omega) (by omega) (by omega) (by rw [List.length_set]; exact hl) (fun j hj => ?_)
      rw [getD_set (by omega), take_succ (d := (0 : Int)) hlt]
      by_cases c : (F.getD m 0).toNat = j
      · rw [if_pos c, decide_eq_true]
        rw [List.mem_append]
        exact .inr (by simp only [List.mem_singleton]; omega)
      · rw [if_neg c, hgo j hj, Bool.eq_iff_iff, decide_eq_true_eq, decide_eq_true_eq, List.mem_append]
        constructor
        · exact .inl
        · rintro (q | q)
          · exact q
          · simp only [List.mem_singleton] at q; omega
    · exact stop m i gone hi (by omega) hl hgo
theorem impl_Kept_l0 (g : List (List Int)) (hgl : g.length ≤ 2000000) (c F c' : List Int) (hcl : c.length = g.length) (hF : ∀ x ∈ F, 0 ≤ x ∧ x < (g.length : Int)) (hFl : F.length ≤ 2000000) (hf : Ev (fun k => impl_freed.f k g c (zerosTo c g.length)) (F, c')) : ∀ (d m : Nat) (i : Int), i = m → m ≤ g.length → g.length - m ≤ d →
    Ev (fun k => impl_KeptBy.l0 k g c (zerosTo c m) c (c.length : Int) i) (keepTo F g.length) := by
  have stop : ∀ (m : Nat) (i : Int), i = m → m = g.length → Ev (fun k => impl_KeptBy.l0 k g c (zerosTo c m) c (c.length : Int) i) (keepTo F g.length) := by
    intro m i hi hm
    subst hm
    refine Ev.step (fun k => impl_KeptBy.l0.eq_2 ..) ?_
    simp only [if_neg (show ¬ i < (c.length : Int) by omega), if_pos (show 0 ≤ (g.length : Int) by omega), Int.toNat_natCast, if_pos (show g.length ≤ 281474976710656 by omega)]
    refine Ev.bind hf ?_
    have := impl_Kept_l1 g hgl F hF hFl F.length 0 0 (List.replicate g.length false) rfl (Nat.zero_le _) (by omega) (by simp) (fun i hi => by rw [getD_lt (by simpa using hi)]; simp)
    exact this
  intro d
  induction d with
  | zero => intro m i hi hm hd; exact stop m i hi (by omega)
  | succ d ih =>
    intro m i hi hm hd
    rcases Nat.lt_or_ge m g.length with hlt | hge
    · refine Ev.step (fun k => impl_KeptBy.l0.eq_2 ..) ?_
      simp only [if_pos (show i < (c.length : Int) by omega), if_pos (show 0 ≤ i by omega)]
      rw [rd_nat c m i hi, w64 (x := i + 1) (by omega) (by omega)]
      have hzl := zerosTo_len c m
      have := ih (m + 1) (i + 1) (by omega) (by omega) (by omega)
      rw [zerosTo_succ] at this
      by_cases h0 : c.getD m 0 = 0
      · simp only [if_pos h0] at this ⊢
        simp only [if_pos (show (zerosTo c m).length < 17592186044416 by omega)]
        rw [hi] at this ⊢
        exact this
      · simp only [if_neg h0] at this ⊢
        exact this
    · exact stop m i hi (by omega)
theorem spec_Kept_l1 (g : List (List Int)) (hgl : g.length ≤ 2000000) (F : List Int) (hFl : F.length ≤ 2000000) : ∀ (d m : Nat) (i : Int), i = m → m ≤ g.length → g.length - m ≤ d →
    Ev (fun k => spec_KeptBy.l1 k g F (keepTo F m) i) (keepTo F g.length) := by
  have stop : ∀ (m : Nat) (i : Int), i = m → m = g.length → Ev (fun k => spec_KeptBy.l1 k g F (keepTo F m) i) (keepTo F g.length) := by
    intro m i hi hm
    subst hm
    refine Ev.step (fun k => spec_KeptBy.l1.eq_2 ..) ?_
    simp only [if_neg (show ¬ i < (g.length : Int) by omega)]
    exact Ev.now _
  intro d
  induction d with
  | zero => intro m i hi hm hd; exact stop m i hi (by omega)
  | succ d ih =>
    intro m i hi hm hd
    rcases Nat.lt_or_ge m g.length with hlt | hge
    · refine Ev.step (fun k => spec_KeptBy.l1.eq_2 ..) ?_
      simp only [if_pos (show i < (g.length : Int) by omega)]
      refine Ev.bind (inList_ev F i (by omega)) ?_
      have hkl := keepTo_len F m
      have := ih (m + 1) (i + 1) (by omega) (by omega) (by omega)
      rw [keepTo_succ, ← hi] at this
      rw [w64 (x := i + 1) (by omega) (by omega)]
      by_cases c : i ∈ F
      · simp only [decide_eq_true c, if_true]
        rw [if_pos c] at this
        exact this
      · simp only [decide_eq_false c, Bool.false_eq_true, if_false, if_pos (show (keepTo F m).length < 17592186044416 by omega)]
        rw [if_neg c] at this
        exact this
    · exact stop m i hi (by omega)
theorem spec_Kept_l0 (g : List (List Int)) (hgl : g.length ≤ 2000000) (c F c' : List Int) (hcl : c.length = g.length) (hFl : F.length ≤ 2000000) (hf : Ev (fun k => spec_released.f k g c (zerosTo c g.length)) (F, c')) : ∀ (d m : Nat) (i : Int), i = m → m ≤ g.length → g.length - m ≤ d →
    Ev (fun k => spec_KeptBy.l0 k g c (zerosTo c m) i) (keepTo F g.length) := by
  have stop : ∀ (m : Nat) (i : Int), i = m → m = g.length → Ev (fun k => spec_KeptBy.l0 k g c (zerosTo c m) i) (keepTo F g.length) := by
    intro m i hi hm
    subst hm
    refine Ev.step (fun k => spec_KeptBy.l0.eq_2 ..) ?_
    simp only [if_neg (show ¬ i < (c.length : Int) by omega)]
    refine Ev.bind hf ?_
    have := spec_Kept_l1 g hgl F hFl g.length 0 0 rfl (Nat.zero_le _) (by omega)
    exact this
  intro d
  induction d with
  | zero => intro m i hi hm hd; exact stop m i hi (by omega)
  | succ d ih =>
    intro m i hi hm hd
    rcases Nat.lt_or_ge m g.length with hlt | hge
    · refine Ev.step (fun k => spec_KeptBy.l0.eq_2 ..) ?_
      simp only [if_pos (show i < (c.length : Int) by omega), if_pos (show 0 ≤ i by omega)]
      rw [rd_nat c m i hi, w64 (x := i + 1) (by omega) (by omega)]
      have hzl := zerosTo_len c m
      have := ih (m + 1) (i + 1) (by omega) (by omega) (by omega)
      rw [zerosTo_succ] at this
      by_cases h0 : c.getD m 0 = 0
      · simp only [if_pos h0] at this ⊢
        simp only [if_pos (show (zerosTo c m).length < 17592186044416 by omega)]
        rw [hi] at this ⊢
        exact this
      · simp only [if_neg h0] at this ⊢
        exact this
    · exact stop m i hi (by omega)
theorem KeptBy_ev (g : List (List Int)) (hz : Sz g) (r : List Int) (hr : r.length ≤ 2000000) :
    ∃ K, Ev (fun k => impl_KeptBy.f k g r) K ∧ Ev (fun k => spec_KeptBy.f k g r) K ∧ K.length ≤ g.length ∧ (¬ (okG g && okR g r) = true → K = []) ∧ ((okG g && okR g r) = true → ∃ F, Chain g r F ∧ Full g r F ∧ K = keepTo F g.length) := by
  have hg1 := hz.len
  by_cases ho : (okG g && okR g r) = true
  · obtain ⟨k1, k2, k3, k4⟩ := okGR ho
    have hg := Gr.of k1
    obtain ⟨F, c', f1, f2, f3, f4⟩ := freed_ev g hg r hr True _ _ (zeros_inv hg k2)
    have hFl := nodup_len f3.nodup f3.idx
    have hlen := counts_length g r
    refine ⟨keepTo F g.length, ?_, ?_, keepTo_len _ _, fun h => absurd ho h, fun _ => ⟨F, f3, f4 trivial, rfl⟩⟩
    · unfold impl_KeptBy.f
      refine Ev.bind (impl_GraphOk_ev g hz r hr) ?_
      simp only [ho, if_true]
      refine Ev.bind (impl_counts_ev g hg r k2 hr) ?_
      have := impl_Kept_l0 g hg1 (counts g r) F c' hlen f3.idx (by omega) f1 g.length 0 0 rfl (Nat.zero_le _) (by omega)
      exact this
    · unfold spec_KeptBy.f
      refine Ev.bind (spec_validGraph_ev g hz) ?_
      simp only [k1, if_true]
      refine Ev.bind (spec_validRoots_ev r g.length hr hg1) ?_
      rw [show (idx g.length r && decide (r.length ≤ 12)) = true by rw [Bool.and_eq_true]; exact ⟨idx_iff.2 k2, by simpa using k3⟩]
      simp only [if_true, Bool.not_true]
      refine Ev.step (fun n => spec_KeptBy.j0.eq_2 ..) ?_
      simp only [Bool.false_eq_true, if_false]
      refine Ev.bind (spec_countsOf_ev g hg r k2 hr) ?_
      have := spec_Kept_l0 g hg1 (counts g r) F c' hlen (by omega) f2 g.length 0 0 rfl (Nat.zero_le _) (by omega)
      exact this
  · have fail2 : Ev (fun k => spec_KeptBy.j0 k g r true) [] := by
      refine Ev.step (fun n => spec_KeptBy.j0.eq_2 ..) ?_
      simp only [if_true]
      exact Ev.now _
    refine ⟨[], ?_, ?_, by simp, fun _ => rfl, fun h => absurd h ho⟩
    · unfold impl_KeptBy.f
      refine Ev.bind (impl_GraphOk_ev g hz r hr) ?_
      simp only [ho, Bool.false_eq_true, if_false]
      exact Ev.now _
    · unfold spec_KeptBy.f
      refine Ev.bind (spec_validGraph_ev g hz) ?_
      cases hG : okG g with
      | false => simp only [Bool.false_eq_true, if_false]; exact fail2
      | true =>
        simp only [if_true]
        refine Ev.bind (spec_validRoots_ev r g.length hr hg1) ?_
        cases hR : (idx g.length r && decide (r.length ≤ 12)) with
        | false => simp only [Bool.not_false]; exact fail2
        | true => exact absurd (by rw [Bool.and_eq_true]; exact ⟨hG, hR⟩) ho
end Go.Proofs.Ytckninkpjdcfbaa.GE
