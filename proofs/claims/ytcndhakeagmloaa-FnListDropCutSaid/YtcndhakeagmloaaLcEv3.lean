/- The reference's cuts of lists: what is selected, what is left. -/
import Derived.Test.YtcndhakeagmloaaLcEv2
import Derived.Test.YtcndhakeagmloaaQ6
import Derived.Test.YtcndhakeagmloaaQ14
set_option linter.unusedSimpArgs false
set_option linter.unusedVariables false
namespace Go.Proofs.Ytcndhakeagmloaa.GE
open Go.RowKit Go.Proofs.Ytcndhakeagmloaa.Q Go.Proofs.YtcndhakeagmloaaW.PrintWords Go.Proofs.YtcndhakeagmloaaW.PrintMore Go.Proofs.GR Go.Proofs.LC

/-- Which of n places are selected. -/
def selL (P : List Int) (n : Nat) : List Bool := (List.range n).map fun (i : Nat) => decide ((i : Int) ∈ P)
theorem selL_length (P : List Int) (n : Nat) : (selL P n).length = n := by simp [selL]
theorem selL_getD (P : List Int) (n i : Nat) (h : i < n) : (selL P n).getD i false = decide ((i : Int) ∈ P) := by
  rw [getD_lt (by rw [selL_length]; exact h)]
  simp [selL]
theorem selL_set (P : List Int) (n : Nat) (x : Int) (h0 : 0 ≤ x) (h1 : x < n) : (selL P n).set x.toNat true = selL (P ++ [x]) n := by
  refine ext_getD (d := false) (by simp [selL]) fun i hi => ?_
  rw [List.length_set, selL_length] at hi
  rw [getD_set (by rw [selL_length]; omega), selL_getD _ _ _ hi, selL_getD _ _ _ hi]
  by_cases c : x.toNat = i
  · rw [if_pos c, decide_eq_true]
    rw [List.mem_append]
    exact .inr (by simp; omega)
  · rw [if_neg c]
    rw [Bool.eq_iff_iff, decide_eq_true_eq, decide_eq_true_eq, List.mem_append]
    constructor
    · exact .inl
    · rintro (h | h)
      · exact h
      · simp at h; omega
theorem sel_l (n : Nat) (f s c c0 c1 : Int) (a b : Bool) (hn : n ≤ 1000000) (hs0 : -1000000 ≤ s) (hs1 : s ≤ 1000000) (hf0 : -1 ≤ f) (hf1 : f ≤ 1000000) (hc0 : 0 ≤ c) (hc : c ≤ 1000000) (hP : Lies n f s c.toNat) : ∀ (d m : Nat) (i : Int), i = m → i ≤ c → c - i = d →
    Ev (fun k => spec_selected.l0 k f c (selL (places f s m) n) i c0 c1 s a b) (selL (places f s c.toNat) n) := by
  intro d
  induction d with
  | zero =>
    intro m i hi hle hd
    refine Ev.step (fun k => spec_selected.l0.eq_2 ..) ?_
    simp only [if_neg (show ¬ i < c by omega)]
    rw [show c.toNat = m by omega]
    exact Ev.now _
  | succ d ih =>
    intro m i hi hle hd
    have hb := hP.2 m (by omega)
    rw [← hi] at hb
    have hm1 : i * s ≤ 1000000000000 ∧ -1000000000000 ≤ i * s := by omega
    refine Ev.step (fun k => spec_selected.l0.eq_2 ..) ?_
    simp only [if_pos (show i < c by omega)]
    rw [w64 (x := i * s) (by omega) (by omega), w64 (x := f + i * s) (by omega) (by omega), selL_length, w64 (x := i + 1) (by omega) (by omega), selL_set _ _ _ hb.1 hb.2]
    simp only [if_pos hb.1, if_pos hb.2]
    have := ih (m + 1) (i + 1) (by omega) (by omega) (by omega)
    rw [places_snoc, ← hi] at this
    exact this
theorem selected_ev (n : Nat) (c0 c1 s : Int) (a b : Bool) (h1 : n ≤ 1000000) (hv : vcut c0 c1 s a b = true) : Ev (fun k => spec_selected.f k n c0 c1 s a b) (selL (cutP n c0 c1 s a b) n) := by
  obtain ⟨-, -, ⟨g4, g5⟩, hs, -, -⟩ := vcut_iff.1 hv
  obtain ⟨r0, r1, r2, r3, r4⟩ := cutRange_ok (n := (n : Int)) (c0 := c0) (c1 := c1) (a := a) (b := b) (by omega) (by omega) hs g4 g5
  unfold spec_selected.f
  refine Ev.bind (cutOf_ev n c0 c1 s a b (by omega) (by omega) hv) ?_
  simp only [if_pos (show 0 ≤ (n : Int) by omega), Int.toNat_natCast, if_pos (show n ≤ 281474976710656 by omega)]
  have := sel_l n _ s _ c0 c1 a b h1 g4 g5 r2 (by omega) r0 (by omega) r4 (cutRange n c0 c1 s a b).2.toNat 0 0 rfl r0 (by omega)
  have e : selL (places (cutRange n c0 c1 s a b).1 s 0) n = List.replicate n false := by
    refine ext_getD (d := false) (by simp [selL]) fun i hi => ?_
    rw [selL_length] at hi
    rw [selL_getD _ _ _ hi, getD_lt (by simpa using hi)]
    simp [places]
  rw [e] at this
  exact this
theorem spec_Drop_l (P l : List Int) (hm : l.length ≤ 1000000) : ∀ (d n : Nat) (i : Int), i = n → n ≤ l.length → l.length - n ≤ d →
    Ev (fun k => spec_ListDropCut.l0 k l (selL P l.length) ((left P n).map fun i => l.getD i 0) i) (dropL P l) := by
  have stop : ∀ (n : Nat) (i : Int), i = n → n = l.length → Ev (fun k => spec_ListDropCut.l0 k l (selL P l.length) ((left P n).map fun i => l.getD i 0) i) (dropL P l) := by
    intro n i hi hn
    subst hn
    refine Ev.step (fun k => spec_ListDropCut.l0.eq_2 ..) ?_
    simp only [if_neg (show ¬ i < (l.length : Int) by omega)]
    exact Ev.now _
  intro d
  induction d with
  | zero => intro n i hi hn hd; exact stop n i hi (by omega)
  | succ d ih =>
    intro n i hi hn hd
    rcases Nat.lt_or_ge n l.length with hlt | hge
    · refine Ev.step (fun k => spec_ListDropCut.l0.eq_2 ..) ?_
      simp only [if_pos (show i < (l.length : Int) by omega), if_pos (show 0 ≤ i by omega), selL_length]
      rw [rdB_nat _ n i hi, selL_getD _ _ _ hlt]
      have hll := left_le P n
      have := ih (n + 1) (i + 1) (by omega) (by omega) (by omega)
      rw [left_succ] at this
      by_cases c : (n : Int) ∈ P
      · simp only [decide_eq_true c, if_true]
        rw [if_pos c, List.append_nil] at this
        rw [w64 (x := i + 1) (by omega) (by omega)]
        exact this
      · simp only [decide_eq_false c, Bool.false_eq_true, if_false]
        simp only [if_pos (show ((left P n).map fun i => l.getD i 0).length < 17592186044416 by rw [List.length_map]; omega)]
        rw [rd_nat l n i hi, w64 (x := i + 1) (by omega) (by omega)]
        rw [if_neg c, List.map_append] at this
        exact this
    · exact stop n i hi (by omega)
theorem validList_eq (l : List Int) : spec_validList.f l = some (decide (l.length ≤ 60)) := by
  unfold spec_validList.f
  congr 1
  rw [Bool.eq_iff_iff, decide_eq_true_eq, decide_eq_true_eq]
  omega
theorem spec_Drop_ev (l : List Int) (c0 c1 s : Int) (a b : Bool) : Ev (fun k => spec_ListDropCut.f k l c0 c1 s a b) (dropR l c0 c1 s a b) := by
  unfold spec_ListDropCut.f dropR
  rw [validList_eq]
  simp only [Option.bind_some, validCut_eq]
  by_cases hl : l.length ≤ 60
  · rw [decide_eq_true hl]
    simp only [if_true, Bool.true_and]
    refine Ev.step (fun k => spec_ListDropCut.j0.eq_2 ..) ?_
    cases hv : vcut c0 c1 s a b with
    | false => simp; exact Ev.now _
    | true =>
      simp only [Bool.not_true, Bool.false_eq_true, if_false, if_true]
      refine Ev.bind (selected_ev l.length c0 c1 s a b (by omega) hv) ?_
      exact spec_Drop_l (cutP l.length c0 c1 s a b) l (by omega) l.length 0 0 rfl (Nat.zero_le _) (by omega)
  · rw [decide_eq_false hl]
    simp only [Bool.false_eq_true, if_false, Bool.false_and]
    refine Ev.step (fun k => spec_ListDropCut.j0.eq_2 ..) ?_
    simp only [if_true]
    exact Ev.now _
end Go.Proofs.Ytcndhakeagmloaa.GE
