/- ListPutCut, the program's and the reference's, and the reference's ListCut: what they answer. -/
import Derived.Test.YtbojiadjeggkhaaLcEv2
import Derived.Test.YtbojiadjeggkhaaLpMath
import Derived.Test.YtbojiadjeggkhaaQ4
import Derived.Test.YtbojiadjeggkhaaQ5
import Derived.Test.YtbojiadjeggkhaaQ8
import Derived.Test.YtbojiadjeggkhaaQ10
set_option linter.unusedSimpArgs false
set_option linter.unusedVariables false
namespace Go.Proofs.Ytbojiadjeggkhaa.GE
open Go.RowKit Go.Proofs.Ytbojiadjeggkhaa.Q Go.Proofs.YtbojiadjeggkhaaW.PrintWords Go.Proofs.YtbojiadjeggkhaaW.PrintMore Go.Proofs.GR Go.Proofs.LC

theorem validList_eq (l : List Int) : spec_validList.f l = some (decide (l.length ≤ 60)) := by
  unfold spec_validList.f
  congr 1
  rw [Bool.eq_iff_iff, decide_eq_true_eq, decide_eq_true_eq]
  omega
theorem cutRange_one {n c0 c1 : Int} {a b : Bool} (h0 : 0 ≤ n) : 0 ≤ (cutRange n c0 c1 1 a b).1 ∧ 0 ≤ (cutRange n c0 c1 1 a b).2 ∧ (cutRange n c0 c1 1 a b).1 + (cutRange n c0 c1 1 a b).2 ≤ n := by
  have hb : ∀ (has : Bool) (g m : Int), 0 ≤ m → m ≤ n → 0 ≤ cutBound n 0 n has g m ∧ cutBound n 0 n has g m ≤ n := by
    intro has g m h1 h2
    cases has with
    | false => simp only [cutBound, Bool.false_eq_true, if_false]; omega
    | true => exact bound_has n 0 n g m h0
  have f := hb a c0 0 (Int.le_refl 0) h0
  have t := hb b c1 n h0 (Int.le_refl n)
  simp only [cutRange, if_neg (show ¬ (1 : Int) < 0 by omega), if_pos (show (1 : Int) > 0 by omega)]
  generalize cutBound n 0 n a c0 0 = f at *
  generalize cutBound n 0 n b c1 n = t at *
  split <;> omega
/-- What ListPutCut answers. -/
def putR (l : List Int) (c0 c1 s : Int) (a b : Bool) (news : List Int) : List Int × Bool :=
  if (decide (l.length ≤ 60) && vcut c0 c1 s a b) = true then
    (if s = 1 then (if (l.length : Int) - (cutRange l.length c0 c1 s a b).2 + (news.length : Int) > 60 then ([], false) else (l.take (cutRange l.length c0 c1 s a b).1.toNat ++ news ++ l.drop ((cutRange l.length c0 c1 s a b).1 + (cutRange l.length c0 c1 s a b).2).toNat, true))
     else if (news.length : Int) = (cutRange l.length c0 c1 s a b).2 then (setAll l (cutP l.length c0 c1 s a b) news, true) else ([], false))
  else ([], false)
theorem drop_both {P X : List Int} {n : Nat} (h : n < P.length) (hx : P.length = X.length) (out : List Int) : setAll out (P.drop n) (X.drop n) = setAll (out.set (P.getD n 0).toNat (X.getD n 0)) (P.drop (n + 1)) (X.drop (n + 1)) := by
  rw [drop_cons (d := (0 : Int)) h, drop_cons (d := (0 : Int)) (show n < X.length by omega)]
  conv => lhs; unfold setAll
theorem getD_mem {P : List Int} {n : Nat} (h : n < P.length) : P.getD n 0 ∈ P := by
  rw [getD_lt h]; exact List.getElem_mem h
theorem impl_Put_l (P X : List Int) (hx : P.length = X.length) (hP : P.length ≤ 1000000) : ∀ (d n : Nat) (i : Int) (out : List Int), i = n → n ≤ P.length → P.length - n ≤ d → (∀ x ∈ P, 0 ≤ x ∧ x < (out.length : Int)) →
    Ev (fun k => impl_ListPutCut.l0 k X out P (P.length : Int) i) (setAll out (P.drop n) (X.drop n), true) := by
  have stop : ∀ (n : Nat) (i : Int) (out : List Int), i = n → n = P.length → Ev (fun k => impl_ListPutCut.l0 k X out P (P.length : Int) i) (setAll out (P.drop n) (X.drop n), true) := by
    intro n i out hi hn
    refine Ev.step (fun k => impl_ListPutCut.l0.eq_2 ..) ?_
    simp only [if_neg (show ¬ i < (P.length : Int) by omega)]
    rw [show P.drop n = [] from List.drop_of_length_le (by omega)]
    unfold setAll
    exact Ev.now _
  intro d
  induction d with
  | zero => intro n i out hi hn hd hr; exact stop n i out hi (by omega)
  | succ d ih =>
    intro n i out hi hn hd hr
    rcases Nat.lt_or_ge n P.length with hlt | hge
    · have hm := hr _ (getD_mem hlt)
      refine Ev.step (fun k => impl_ListPutCut.l0.eq_2 ..) ?_
      simp only [if_pos (show i < (P.length : Int) by omega), if_pos (show 0 ≤ i by omega), if_pos (show i < (X.length : Int) by omega)]
      rw [rd_nat P n i hi, rd_nat X n i hi, drop_both hlt hx]
      simp only [if_pos hm.1, if_pos hm.2]
      rw [w64 (x := i + 1) (by omega) (by omega)]
      exact ih (n + 1) (i + 1) _ (by omega) (by omega) (by omega) (fun x hx => by rw [List.length_set]; exact hr x hx)
    · exact stop n i out hi (by omega)
theorem impl_Put_ev (l : List Int) (c0 c1 s : Int) (a b : Bool) (X : List Int) (hX : X.length ≤ 900000) : Ev (fun k => impl_ListPutCut.f k l c0 c1 s a b X) (putR l c0 c1 s a b X) := by
  unfold impl_ListPutCut.f putR
  by_cases hl : (l.length : Int) > 60
  · simp only [if_pos hl]
    refine Ev.step (fun k => impl_ListPutCut.j0.eq_2 ..) ?_
    rw [decide_eq_false (show ¬ l.length ≤ 60 by omega)]
    simp only [Bool.false_and, Bool.false_eq_true, if_false, if_true]
    exact Ev.now _
  · simp only [if_neg hl, CutOk_eq, Option.bind_some]
    rw [decide_eq_true (show l.length ≤ 60 by omega), Bool.true_and]
    refine Ev.step (fun k => impl_ListPutCut.j0.eq_2 ..) ?_
    cases hv : vcut c0 c1 s a b with
    | false => simp; exact Ev.now _
    | true =>
      simp only [Bool.not_true, Bool.false_eq_true, if_false, if_true]
      by_cases hs : s = 1
      · subst hs
        simp only [if_true]
        have h1 := cutRange_one (n := (l.length : Int)) (c0 := c0) (c1 := c1) (a := a) (b := b) (by omega)
        rw [CutRange_eq l.length c0 c1 1 a b (by omega) (by omega) hv]
        simp only [Option.bind_some]
        rw [w64 (x := (l.length : Int) - (cutRange l.length c0 c1 1 a b).2) (by omega) (by omega), w64 (x := (l.length : Int) - (cutRange l.length c0 c1 1 a b).2 + (X.length : Int)) (by omega) (by omega), w64 (x := (cutRange l.length c0 c1 1 a b).1 + (cutRange l.length c0 c1 1 a b).2) (by omega) (by omega)]
        by_cases hg : (l.length : Int) - (cutRange l.length c0 c1 1 a b).2 + (X.length : Int) > 60
        · simp only [if_pos hg]; exact Ev.now _
        · simp only [if_neg hg, if_pos h1.1, if_pos (show (cutRange l.length c0 c1 1 a b).1 ≤ (l.length : Int) by omega), if_pos (show 0 ≤ (cutRange l.length c0 c1 1 a b).1 + (cutRange l.length c0 c1 1 a b).2 by omega), if_pos h1.2.2]
          have hc : slices_Concat_int_int.f [l.take (cutRange l.length c0 c1 1 a b).1.toNat, X, l.drop ((cutRange l.length c0 c1 1 a b).1 + (cutRange l.length c0 c1 1 a b).2).toNat] = some (l.take (cutRange l.length c0 c1 1 a b).1.toNat ++ X ++ l.drop ((cutRange l.length c0 c1 1 a b).1 + (cutRange l.length c0 c1 1 a b).2).toNat) := by
            unfold slices_Concat_int_int.f
            rw [if_pos]
            · simp only [List.flatten_cons, List.flatten_nil, List.append_nil, List.append_assoc]
            · refine ⟨by simp, ?_⟩
              simp only [List.flatten_cons, List.flatten_nil, List.append_nil, List.length_append, List.length_take, List.length_drop]
              omega
          rw [hc]
          simp only [Option.bind_some]
          exact Ev.now _
      · simp only [if_neg hs]
        obtain ⟨-, -, ⟨g4, g5⟩, hs0, -, -⟩ := vcut_iff.1 hv
        obtain ⟨r0, r1, r2, r3, r4⟩ := cutRange_ok (n := (l.length : Int)) (c0 := c0) (c1 := c1) (a := a) (b := b) (by omega) (by omega) hs0 g4 g5
        have hlen : (cutP l.length c0 c1 s a b).length = (cutRange l.length c0 c1 s a b).2.toNat := by unfold cutP; rw [places_length]
        have hin := cutP_len l.length c0 c1 s a b (by omega) hv
        refine Ev.bind (places_ev l.length c0 c1 s a b (by omega) hv) ?_
        by_cases hx : (X.length : Int) = (cutRange l.length c0 c1 s a b).2
        · simp only [if_pos (show ((cutP l.length c0 c1 s a b).length : Int) = (X.length : Int) by omega), if_pos hx]
          have hcl : slices_Clone_int_int.f l = some l := by
            unfold slices_Clone_int_int.f
            simp only [Option.bind_some, List.length_nil, List.nil_append]
            rw [if_pos (by omega)]
          rw [hcl]
          simp only [Option.bind_some]
          exact impl_Put_l _ X (by omega) (by omega) _ 0 0 l rfl (Nat.zero_le _) (Nat.le_refl _) hin.2.1
        · simp only [if_neg (show ¬ ((cutP l.length c0 c1 s a b).length : Int) = (X.length : Int) by omega), if_neg hx]
          exact Ev.now _
theorem spec_Put_l (X : List Int) (f c s c0 c1 : Int) (a b : Bool) (hf0 : -1 ≤ f) (hf1 : f ≤ 1000000) (hc0 : 0 ≤ c) (hc : c ≤ 1000000) (hX : (X.length : Int) = c) (hs0 : -1000000 ≤ s) (hs1 : s ≤ 1000000) : ∀ (d n : Nat) (i : Int) (out : List Int), i = n → i ≤ c → c - i = d → Lies out.length f s c.toNat → out.length ≤ 1000000 →
    Ev (fun k => spec_ListPutCut.l0 k X f c out i c0 c1 s a b) (setAll out ((places f s c.toNat).drop n) (X.drop n), true) := by
  intro d
  induction d with
  | zero =>
    intro n i out hi hle hd hL ho
    refine Ev.step (fun k => spec_ListPutCut.l0.eq_2 ..) ?_
    simp only [if_neg (show ¬ i < c by omega)]
    rw [show (places f s c.toNat).drop n = [] from List.drop_of_length_le (by rw [places_length]; omega)]
    unfold setAll
    exact Ev.now _
  | succ d ih =>
    intro n i out hi hle hd hL ho
    have hb := hL.2 n (by omega)
    rw [← hi] at hb
    have hm1 : i * s ≤ 1000000000000 ∧ -1000000000000 ≤ i * s := by omega
    refine Ev.step (fun k => spec_ListPutCut.l0.eq_2 ..) ?_
    simp only [if_pos (show i < c by omega), if_pos (show 0 ≤ i by omega), if_pos (show i < (X.length : Int) by omega)]
    rw [w64 (x := i * s) (by omega) (by omega), w64 (x := f + i * s) (by omega) (by omega), w64 (x := i + 1) (by omega) (by omega)]
    simp only [if_pos hb.1, if_pos hb.2]
    rw [rd_nat X n i hi, drop_both (by rw [places_length]; omega) (by rw [places_length]; omega)]
    have e : (places f s c.toNat).getD n 0 = f + i * s := by
      rw [getD_lt (by rw [places_length]; omega)]
      unfold places
      simp [hi]
    rw [e]
    exact ih (n + 1) (i + 1) _ (by omega) (by omega) (by omega) (by rw [List.length_set]; exact hL) (by rw [List.length_set]; exact ho)
theorem spec_Put_ev (l : List Int) (c0 c1 s : Int) (a b : Bool) (X : List Int) (hX : X.length ≤ 900000) : Ev (fun k => spec_ListPutCut.f k l c0 c1 s a b X) (putR l c0 c1 s a b X) := by
  unfold spec_ListPutCut.f putR
  rw [validList_eq]
  simp only [Option.bind_some, validCut_eq, validList_eq]
  have bad : ∀ q : Bool, q = true → Ev (fun k => spec_ListPutCut.j0 k l X q c0 c1 s a b) ([], false) := by
    rintro q rfl
    refine Ev.step (fun k => spec_ListPutCut.j0.eq_2 ..) ?_
    simp only [if_true]
    exact Ev.now _
  by_cases hl : l.length ≤ 60
  · rw [decide_eq_true hl]
    simp only [if_true, Bool.true_and]
    cases hv : vcut c0 c1 s a b with
    | false => simp only [Bool.false_eq_true, if_false]; exact bad true rfl
    | true =>
      obtain ⟨-, -, ⟨g4, g5⟩, hs0, -, -⟩ := vcut_iff.1 hv
      obtain ⟨r0, r1, r2, r3, r4⟩ := cutRange_ok (n := (l.length : Int)) (c0 := c0) (c1 := c1) (a := a) (b := b) (by omega) (by omega) hs0 g4 g5
      simp only [if_true]
      by_cases hx : X.length ≤ 60
      · rw [decide_eq_true hx]
        refine Ev.step (fun k => spec_ListPutCut.j0.eq_2 ..) ?_
        simp only [Bool.not_true, Bool.false_eq_true, if_false]
        refine Ev.bind (cutOf_ev l.length c0 c1 s a b (by omega) (by omega) hv) ?_
        by_cases hs : s = 1
        · subst hs
          simp only [if_true, Option.bind_some]
          have h1 := cutRange_one (n := (l.length : Int)) (c0 := c0) (c1 := c1) (a := a) (b := b) (by omega)
          rw [w64 (x := (cutRange l.length c0 c1 1 a b).1 + (cutRange l.length c0 c1 1 a b).2) (by omega) (by omega)]
          simp only [if_pos h1.1, if_pos (show (cutRange l.length c0 c1 1 a b).1 ≤ (l.length : Int) by omega), if_pos (show 0 ≤ (cutRange l.length c0 c1 1 a b).1 + (cutRange l.length c0 c1 1 a b).2 by omega), if_pos h1.2.2, List.nil_append, List.length_nil, List.length_append, List.length_take, List.length_drop]
          rw [if_pos (by omega), if_pos (by omega), if_pos (by omega), validList_eq]
          simp only [Option.bind_some, List.length_append, List.length_take, List.length_drop, decide_eq_true_eq]
          by_cases hg : (l.length : Int) - (cutRange l.length c0 c1 1 a b).2 + (X.length : Int) > 60
          · rw [if_pos hg, if_neg (by omega)]; exact Ev.now _
          · rw [if_neg hg, if_pos (by omega)]; exact Ev.now _
        · simp only [if_neg hs, Option.bind_some, List.length_nil, List.nil_append]
          by_cases hx2 : (X.length : Int) = (cutRange l.length c0 c1 s a b).2
          · simp only [if_pos hx2, if_pos (show 0 + l.length < 17592186044416 by omega)]
            exact spec_Put_l X _ _ s c0 c1 a b r2 (by omega) r0 (by omega) hx2 g4 g5 _ 0 0 l rfl r0 (show _ = (((cutRange l.length c0 c1 s a b).2.toNat : Nat) : Int) by omega) r4 (by omega)
          · simp only [if_neg hx2]; exact Ev.now _
      · rw [decide_eq_false hx]
        have e : (if s = 1 then (if (l.length : Int) - (cutRange l.length c0 c1 s a b).2 + (X.length : Int) > 60 then (([] : List Int), false) else (l.take (cutRange l.length c0 c1 s a b).1.toNat ++ X ++ l.drop ((cutRange l.length c0 c1 s a b).1 + (cutRange l.length c0 c1 s a b).2).toNat, true)) else if (X.length : Int) = (cutRange l.length c0 c1 s a b).2 then (setAll l (cutP l.length c0 c1 s a b) X, true) else ([], false)) = ([], false) := by
          split
          · rw [if_pos (by omega)]
          · rw [if_neg (by omega)]
        rw [e]
        exact bad _ rfl
  · rw [decide_eq_false hl]
    simp only [Bool.false_eq_true, if_false, Bool.false_and]
    exact bad true rfl
theorem spec_Cut_l (l : List Int) (f c s c0 c1 : Int) (a b : Bool) (hf0 : -1 ≤ f) (hf1 : f ≤ 1000000) (hc0 : 0 ≤ c) (hc : c ≤ 1000000) (hs0 : -1000000 ≤ s) (hs1 : s ≤ 1000000) (hL : Lies l.length f s c.toNat) (hl : l.length ≤ 1000000) : ∀ (d n : Nat) (i : Int), i = n → i ≤ c → c - i = d →
    Ev (fun k => spec_ListCut.l0 k l f c (cutL (places f s n) l) i c0 c1 s a b) (cutL (places f s c.toNat) l) := by
  intro d
  induction d with
  | zero =>
    intro n i hi hle hd
    refine Ev.step (fun k => spec_ListCut.l0.eq_2 ..) ?_
    simp only [if_neg (show ¬ i < c by omega)]
    rw [show c.toNat = n by omega]
    exact Ev.now _
  | succ d ih =>
    intro n i hi hle hd
    have hb := hL.2 n (by omega)
    rw [← hi] at hb
    have hm1 : i * s ≤ 1000000000000 ∧ -1000000000000 ≤ i * s := by omega
    refine Ev.step (fun k => spec_ListCut.l0.eq_2 ..) ?_
    simp only [if_pos (show i < c by omega)]
    rw [w64 (x := i * s) (by omega) (by omega), w64 (x := f + i * s) (by omega) (by omega), w64 (x := i + 1) (by omega) (by omega)]
    simp only [if_pos hb.1, if_pos hb.2, if_pos (show (cutL (places f s n) l).length < 17592186044416 by unfold cutL; rw [List.length_map, places_length]; omega)]
    have := ih (n + 1) (i + 1) (by omega) (by omega) (by omega)
    rw [places_snoc, ← hi] at this
    unfold cutL at this ⊢
    rw [List.map_append] at this
    exact this
theorem spec_Cut_ev (l : List Int) (c0 c1 s : Int) (a b : Bool) : Ev (fun k => spec_ListCut.f k l c0 c1 s a b) (cutR l c0 c1 s a b) := by
  unfold spec_ListCut.f cutR
  rw [validList_eq]
  simp only [Option.bind_some, validCut_eq]
  by_cases hl : l.length ≤ 60
  · rw [decide_eq_true hl]
    simp only [if_true, Bool.true_and]
    refine Ev.step (fun k => spec_ListCut.j0.eq_2 ..) ?_
    cases hv : vcut c0 c1 s a b with
    | false => simp; exact Ev.now _
    | true =>
      obtain ⟨-, -, ⟨g4, g5⟩, hs0, -, -⟩ := vcut_iff.1 hv
      obtain ⟨r0, r1, r2, r3, r4⟩ := cutRange_ok (n := (l.length : Int)) (c0 := c0) (c1 := c1) (a := a) (b := b) (by omega) (by omega) hs0 g4 g5
      simp only [Bool.not_true, Bool.false_eq_true, if_false, if_true]
      refine Ev.bind (cutOf_ev l.length c0 c1 s a b (by omega) (by omega) hv) ?_
      exact spec_Cut_l l _ _ s c0 c1 a b r2 (by omega) r0 (by omega) g4 g5 r4 (by omega) _ 0 0 rfl r0 (show _ = (((cutRange l.length c0 c1 s a b).2.toNat : Nat) : Int) by omega)
  · rw [decide_eq_false hl]
    simp only [Bool.false_eq_true, if_false, Bool.false_and]
    refine Ev.step (fun k => spec_ListCut.j0.eq_2 ..) ?_
    simp only [if_true]
    exact Ev.now _
end Go.Proofs.Ytbojiadjeggkhaa.GE
