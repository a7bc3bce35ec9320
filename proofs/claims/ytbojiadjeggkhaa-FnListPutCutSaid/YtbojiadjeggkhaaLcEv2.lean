/- The program's cuts of lists: the places, what is selected, what is left. -/
import Derived.Test.YtbojiadjeggkhaaLcEv1
import Derived.Test.YtbojiadjeggkhaaQ4
import Derived.Test.YtbojiadjeggkhaaQ6
import Derived.Test.YtbojiadjeggkhaaQ10
set_option linter.unusedSimpArgs false
set_option linter.unusedVariables false
namespace Go.Proofs.Ytbojiadjeggkhaa.GE
open Go.RowKit Go.Proofs.Ytbojiadjeggkhaa.Q Go.Proofs.YtbojiadjeggkhaaW.PrintWords Go.Proofs.YtbojiadjeggkhaaW.PrintMore Go.Proofs.GR Go.Proofs.LC

/-- What a cut selects of a list, and what it leaves. -/
def cutL (P : List Int) (l : List Int) : List Int := P.map fun x => l.getD x.toNat 0
def dropL (P : List Int) (l : List Int) : List Int := (left P l.length).map fun i => l.getD i 0
/-- The places that a cut selects of n. -/
def cutP (n : Nat) (c0 c1 s : Int) (a b : Bool) : List Int := places (cutRange n c0 c1 s a b).1 s (cutRange n c0 c1 s a b).2.toNat
theorem left_succ (P : List Int) (n : Nat) : left P (n + 1) = left P n ++ if (n : Int) ∈ P then [] else [n] := by
  unfold left
  rw [List.range_succ, List.filter_append]
  congr 1
  by_cases h : (n : Int) ∈ P <;> simp [h]
theorem left_le (P : List Int) (n : Nat) : (left P n).length ≤ n := by
  unfold left
  have := List.length_filter_le (fun i : Nat => decide ((i : Int) ∉ P)) (List.range n)
  rwa [List.length_range] at this

theorem places_l (c c0 c1 s : Int) (a b : Bool) (hs0 : -1000000 ≤ s) (hs1 : s ≤ 1000000) : ∀ (d : Nat) (f i : Int) (out : List Int), c - i = d → 0 ≤ i → i + d ≤ 1000000 → out.length + d ≤ 10000000 → (∀ j : Nat, j < d → 0 ≤ f + (j : Int) * s ∧ f + (j : Int) * s ≤ 1000000) →
    Ev (fun k => impl_places.l0 k f out c i c0 c1 s a b) (out ++ places f s d) := by
  intro d
  induction d with
  | zero =>
    intro f i out hd hi hb ho hP
    refine Ev.step (fun k => impl_places.l0.eq_2 ..) ?_
    simp only [if_neg (show ¬ i < c by omega)]
    rw [show places f s 0 = [] from rfl, List.append_nil]
    exact Ev.now _
  | succ d ih =>
    intro f i out hd hi hb ho hP
    have h0 := hP 0 (by omega)
    simp only [Int.natCast_zero, Int.zero_mul, Int.add_zero] at h0
    refine Ev.step (fun k => impl_places.l0.eq_2 ..) ?_
    simp only [if_pos (show i < c by omega), if_pos (show out.length < 17592186044416 by omega)]
    rw [w64 (x := f + s) (by omega) (by omega), w64 (x := i + 1) (by omega) (by omega), places_succ]
    have := ih (f + s) (i + 1) (out ++ [f]) (by omega) (by omega) (by omega) (by simp; omega) (fun j hj => by
      have := hP (j + 1) (by omega)
      rw [Int.natCast_succ, Int.add_mul] at this
      omega)
    rw [List.append_assoc] at this
    exact this
theorem places_ev (n : Nat) (c0 c1 s : Int) (a b : Bool) (h1 : n ≤ 1000000) (hv : vcut c0 c1 s a b = true) : Ev (fun k => impl_places.f k n c0 c1 s a b) (cutP n c0 c1 s a b) := by
  obtain ⟨-, -, ⟨g4, g5⟩, hs, -, -⟩ := vcut_iff.1 hv
  obtain ⟨r0, r1, r2, r3, r4⟩ := cutRange_ok (n := (n : Int)) (c0 := c0) (c1 := c1) (a := a) (b := b) (by omega) (by omega) hs g4 g5
  unfold impl_places.f
  rw [CutRange_eq n c0 c1 s a b (by omega) (by omega) hv]
  simp only [Option.bind_some, if_pos r0, if_pos (show (cutRange n c0 c1 s a b).2.toNat ≤ 35184372088832 by omega)]
  have := places_l (cutRange n c0 c1 s a b).2 c0 c1 s a b g4 g5 (cutRange n c0 c1 s a b).2.toNat (cutRange n c0 c1 s a b).1 0 [] (by omega) (by omega) (by omega) (by simp; omega) (fun j hj => by have := r4.2 j hj; omega)
  exact this
theorem cutP_len (n : Nat) (c0 c1 s : Int) (a b : Bool) (h1 : n ≤ 1000000) (hv : vcut c0 c1 s a b = true) : (cutP n c0 c1 s a b).length ≤ n ∧ (∀ x ∈ cutP n c0 c1 s a b, 0 ≤ x ∧ x < n) ∧ (left (cutP n c0 c1 s a b) n).length + (cutP n c0 c1 s a b).length = n := by
  obtain ⟨-, -, ⟨g4, g5⟩, hs, -, -⟩ := vcut_iff.1 hv
  obtain ⟨r0, r1, r2, r3, r4⟩ := cutRange_ok (n := (n : Int)) (c0 := c0) (c1 := c1) (a := a) (b := b) (by omega) (by omega) hs g4 g5
  have := left_length n (cutRange n c0 c1 s a b).1 s (cutRange n c0 c1 s a b).2.toNat r4
  unfold cutP
  rw [places_length]
  exact ⟨this.2, fun x hx => r4.mem hx, by omega⟩

theorem Index_l (l : List Int) (x : Int) (hm : l.length ≤ 1000000) : ∀ (d n : Nat) (i : Int), i = n → n ≤ l.length → l.length - n ≤ d →
    ∃ r, Ev (fun k => slices_Index_int_int.l0 k l x (l.length : Int) i) r ∧ (r ≥ 0 ↔ x ∈ l.drop n) := by
  intro d
  induction d with
  | zero =>
    intro n i hi hn hd
    refine ⟨-1, Ev.step (fun k => slices_Index_int_int.l0.eq_2 ..) ?_, ?_⟩
    · simp only [if_neg (show ¬ i < (l.length : Int) by omega)]
      exact Ev.now _
    · rw [show n = l.length by omega, List.drop_length]; simp
  | succ d ih =>
    intro n i hi hn hd
    rcases Nat.lt_or_ge n l.length with hlt | hge
    · rw [drop_cons (d := (0 : Int)) hlt]
      by_cases c : x = l.getD n 0
      · refine ⟨i, Ev.step (fun k => slices_Index_int_int.l0.eq_2 ..) ?_, ?_⟩
        · simp only [if_pos (show i < (l.length : Int) by omega), if_pos (show 0 ≤ i by omega)]
          rw [rd_nat l n i hi]
          simp only [if_pos c]
          exact Ev.now _
        · simp [c]; omega
      · obtain ⟨r, h1, h2⟩ := ih (n + 1) (i + 1) (by omega) (by omega) (by omega)
        refine ⟨r, Ev.step (fun k => slices_Index_int_int.l0.eq_2 ..) ?_, ?_⟩
        · simp only [if_pos (show i < (l.length : Int) by omega), if_pos (show 0 ≤ i by omega)]
          rw [rd_nat l n i hi, w64 (x := i + 1) (by omega) (by omega)]
          simp only [if_neg c]
          exact h1
        · rw [h2, List.mem_cons]
          exact ⟨.inr, fun q => q.elim (fun q => absurd q c) id⟩
    · refine ⟨-1, Ev.step (fun k => slices_Index_int_int.l0.eq_2 ..) ?_, ?_⟩
      · simp only [if_neg (show ¬ i < (l.length : Int) by omega)]
        exact Ev.now _
      · rw [show n = l.length by omega, List.drop_length]; simp
theorem Contains_ev (l : List Int) (x : Int) (hm : l.length ≤ 1000000) : Ev (fun k => slices_Contains_int_int.f k l x) (decide (x ∈ l)) := by
  obtain ⟨r, h1, h2⟩ := Index_l l x hm l.length 0 0 rfl (Nat.zero_le _) (by omega)
  rw [List.drop_zero] at h2
  unfold slices_Contains_int_int.f slices_Index_int_int.f
  refine Ev.bind h1 ?_
  have : decide (r ≥ 0) = decide (x ∈ l) := by rw [Bool.eq_iff_iff, decide_eq_true_eq, decide_eq_true_eq]; exact h2
  rw [this]
  exact Ev.now _

theorem impl_Drop_l (P l : List Int) (hP : P.length ≤ 1000000) (hm : l.length ≤ 1000000) : ∀ (d n : Nat) (i : Int), i = n → n ≤ l.length → l.length - n ≤ d →
    Ev (fun k => impl_ListDropCut.l0 k P ((left P n).map fun i => l.getD i 0) l (l.length : Int) i) (dropL P l) := by
  have stop : ∀ (n : Nat) (i : Int), i = n → n = l.length → Ev (fun k => impl_ListDropCut.l0 k P ((left P n).map fun i => l.getD i 0) l (l.length : Int) i) (dropL P l) := by
    intro n i hi hn
    subst hn
    refine Ev.step (fun k => impl_ListDropCut.l0.eq_2 ..) ?_
    simp only [if_neg (show ¬ i < (l.length : Int) by omega)]
    exact Ev.now _
  intro d
  induction d with
  | zero => intro n i hi hn hd; exact stop n i hi (by omega)
  | succ d ih =>
    intro n i hi hn hd
    rcases Nat.lt_or_ge n l.length with hlt | hge
    · refine Ev.step (fun k => impl_ListDropCut.l0.eq_2 ..) ?_
      simp only [if_pos (show i < (l.length : Int) by omega), if_pos (show 0 ≤ i by omega)]
      refine Ev.bind (Contains_ev P i hP) ?_
      have hll := left_le P n
      have := ih (n + 1) (i + 1) (by omega) (by omega) (by omega)
      rw [left_succ, ← hi] at this
      by_cases c : i ∈ P
      · simp only [decide_eq_true c, if_true]
        rw [if_pos c, List.append_nil] at this
        rw [w64 (x := i + 1) (by omega) (by omega)]
        exact this
      · simp only [decide_eq_false c, Bool.false_eq_true, if_false]
        simp only [if_pos (show ((left P n).map fun i => l.getD i 0).length < 17592186044416 by rw [List.length_map]; omega)]
        rw [rd_nat l n i hi, w64 (x := i + 1) (by omega) (by omega)]
        rw [if_neg c, List.map_append] at this
        exact this
    · exact stop n i hi (by omega)
/-- What the program's ListDropCut, and the reference's, answer. -/
def dropR (l : List Int) (c0 c1 s : Int) (a b : Bool) : List Int := if decide (l.length ≤ 60) && vcut c0 c1 s a b then dropL (cutP l.length c0 c1 s a b) l else []
theorem impl_Drop_ev (l : List Int) (c0 c1 s : Int) (a b : Bool) : Ev (fun k => impl_ListDropCut.f k l c0 c1 s a b) (dropR l c0 c1 s a b) := by
  unfold impl_ListDropCut.f dropR
  by_cases hl : (l.length : Int) > 60
  · simp only [if_pos hl]
    refine Ev.step (fun k => impl_ListDropCut.j0.eq_2 ..) ?_
    rw [decide_eq_false (show ¬ l.length ≤ 60 by omega)]
    simp only [Bool.false_and, Bool.false_eq_true, if_false, if_true]
    exact Ev.now _
  · simp only [if_neg hl, CutOk_eq, Option.bind_some]
    rw [decide_eq_true (show l.length ≤ 60 by omega), Bool.true_and]
    refine Ev.step (fun k => impl_ListDropCut.j0.eq_2 ..) ?_
    cases hv : vcut c0 c1 s a b with
    | false => simp; exact Ev.now _
    | true =>
      simp only [Bool.not_true, Bool.false_eq_true, if_false, if_true]
      refine Ev.bind (places_ev l.length c0 c1 s a b (by omega) hv) ?_
      have h := cutP_len l.length c0 c1 s a b (by omega) hv
      exact impl_Drop_l (cutP l.length c0 c1 s a b) l (by omega) (by omega) l.length 0 0 rfl (Nat.zero_le _) (by omega)

theorem impl_Cut_l (P l : List Int) (hP : P.length ≤ 1000000) (hr : ∀ x ∈ P, 0 ≤ x ∧ x < (l.length : Int)) : ∀ (d n : Nat) (i : Int), i = n → n ≤ P.length → P.length - n ≤ d →
    Ev (fun k => impl_ListCut.l0 k l (cutL (P.take n) l) P (P.length : Int) i) (cutL P l) := by
  have stop : ∀ (n : Nat) (i : Int), i = n → n = P.length → Ev (fun k => impl_ListCut.l0 k l (cutL (P.take n) l) P (P.length : Int) i) (cutL P l) := by
    intro n i hi hn
    subst hn
    refine Ev.step (fun k => impl_ListCut.l0.eq_2 ..) ?_
    simp only [if_neg (show ¬ i < (P.length : Int) by omega), List.take_length]
    exact Ev.now _
  intro d
  induction d with
  | zero => intro n i hi hn hd; exact stop n i hi (by omega)
  | succ d ih =>
    intro n i hi hn hd
    rcases Nat.lt_or_ge n P.length with hlt | hge
    · refine Ev.step (fun k => impl_ListCut.l0.eq_2 ..) ?_
      simp only [if_pos (show i < (P.length : Int) by omega), if_pos (show 0 ≤ i by omega)]
      rw [rd_nat P n i hi]
      have hx := hr _ (getD_mem (d := (0 : Int)) hlt)
      simp only [if_pos hx.1, if_pos hx.2, if_pos (show (cutL (P.take n) l).length < 17592186044416 by unfold cutL; rw [List.length_map, List.length_take]; omega)]
      rw [w64 (x := i + 1) (by omega) (by omega)]
      have := ih (n + 1) (i + 1) (by omega) (by omega) (by omega)
      rw [take_succ (d := (0 : Int)) hlt] at this
      unfold cutL at this ⊢
      rw [List.map_append] at this
      exact this
    · exact stop n i hi (by omega)
def cutR (l : List Int) (c0 c1 s : Int) (a b : Bool) : List Int := if decide (l.length ≤ 60) && vcut c0 c1 s a b then cutL (cutP l.length c0 c1 s a b) l else []
theorem impl_Cut_ev (l : List Int) (c0 c1 s : Int) (a b : Bool) : Ev (fun k => impl_ListCut.f k l c0 c1 s a b) (cutR l c0 c1 s a b) := by
  unfold impl_ListCut.f cutR
  by_cases hl : (l.length : Int) > 60
  · simp only [if_pos hl]
    refine Ev.step (fun k => impl_ListCut.j0.eq_2 ..) ?_
    rw [decide_eq_false (show ¬ l.length ≤ 60 by omega)]
    simp only [Bool.false_and, Bool.false_eq_true, if_false, if_true]
    exact Ev.now _
  · simp only [if_neg hl, CutOk_eq, Option.bind_some]
    rw [decide_eq_true (show l.length ≤ 60 by omega), Bool.true_and]
    refine Ev.step (fun k => impl_ListCut.j0.eq_2 ..) ?_
    cases hv : vcut c0 c1 s a b with
    | false => simp; exact Ev.now _
    | true =>
      simp only [Bool.not_true, Bool.false_eq_true, if_false, if_true]
      refine Ev.bind (places_ev l.length c0 c1 s a b (by omega) hv) ?_
      have h := cutP_len l.length c0 c1 s a b (by omega) hv
      have := impl_Cut_l (cutP l.length c0 c1 s a b) l (by omega) h.2.1 (cutP l.length c0 c1 s a b).length 0 0 rfl (Nat.zero_le _) (by omega)
      exact this
end Go.Proofs.Ytbojiadjeggkhaa.GE
