/- Which names are valid, and where a name stands. -/
import Derived.Test.YtpilehndngclhaaMoName
import Derived.Test.YtpilehndngclhaaQ2
import Derived.Test.YtpilehndngclhaaQ3
import Derived.Test.YtpilehndngclhaaQ5
import Derived.Test.YtpilehndngclhaaQ6
set_option linter.unusedSimpArgs false
set_option linter.unusedVariables false
namespace Go.Proofs.Ytpilehndngclhaa.BE
open Go.RowKit Go.Proofs.Ytpilehndngclhaa.Q Go.Proofs.YtpilehndngclhaaW.PrintWords Go.Proofs.Ytpilehndngclhaa.MO

/-- The names from i on pass, and none is there already. -/
def chkL (p : ByteArray → Bool) (l : List ByteArray) (i : Nat) : Bool := (List.range' i (l.length - i)).all fun j => p (l.getD j ByteArray.empty) && !oneOf (l.take j) (l.getD j ByteArray.empty)
theorem chkL_step (p : ByteArray → Bool) (l : List ByteArray) {i : Nat} (hi : i < l.length) : chkL p l i = ((p (l.getD i ByteArray.empty) && !oneOf (l.take i) (l.getD i ByteArray.empty)) && chkL p l (i + 1)) := by
  unfold chkL
  rw [show l.length - i = (l.length - (i + 1)) + 1 by omega, List.range'_succ, List.all_cons]
theorem chkL_end (p : ByteArray → Bool) (l : List ByteArray) : chkL p l l.length = true := by unfold chkL; rw [Nat.sub_self]; rfl
def okNames (l : List ByteArray) : Bool := chkL nameOk l 0
def difB (l : List ByteArray) : Bool := chkL (fun _ => true) l 0
theorem oneOf_false {l : List ByteArray} {s : ByteArray} : oneOf l s = false ↔ ∀ x ∈ l, x.toList ≠ s.toList := by
  unfold oneOf
  rw [List.any_eq_false]
  simp only [decide_eq_true_eq]
  first | done | exact Iff.rfl
theorem chkL_pairwise {p : ByteArray → Bool} {l : List ByteArray} (h : chkL p l 0 = true) : l.Pairwise (fun a b => a.toList ≠ b.toList) := by
  unfold chkL at h
  rw [List.all_eq_true] at h
  rw [List.pairwise_iff_getElem]
  intro i j hi hj hij
  have h1 := h j (by rw [List.mem_range'_1]; omega)
  rw [Bool.and_eq_true, Bool.not_eq_true', oneOf_false, getD_get _ _ hj] at h1
  exact h1.2 _ (List.mem_take_iff_getElem.2 ⟨i, by omega, rfl⟩)
theorem difB_iff {l : List ByteArray} : difB l = true ↔ l.Pairwise (fun a b => a.toList ≠ b.toList) := by
  refine ⟨chkL_pairwise, fun h => ?_⟩
  rw [List.pairwise_iff_getElem] at h
  unfold difB chkL
  rw [List.all_eq_true]
  intro j hj
  rw [List.mem_range'_1] at hj
  rw [Bool.true_and, Bool.not_eq_true', oneOf_false, getD_get _ _ (show j < l.length by omega)]
  intro x hx
  obtain ⟨i, hi, rfl⟩ := List.mem_take_iff_getElem.1 hx
  exact h i j (by omega) (by omega) (by omega)
theorem difB_reverse {l : List ByteArray} (h : difB l = true) : difB l.reverse = true := by
  rw [difB_iff] at h ⊢
  rw [List.pairwise_reverse]
  exact h.imp (fun q e => q e.symm)
theorem allNames_ev (l : List ByteArray) (hl : l.length ≤ maxLen) (hs : ∀ x ∈ l, x.size ≤ maxLen) : Ev (fun k => impl_allNames.f k l) (okNames l) := by
  unfold impl_allNames.f okNames
  refine down (F := fun k i => impl_allNames.l0 k l l (l.length : Int) i) (n := l.length) (res := chkL nameOk l) ?_ ?_ 0 (Nat.zero_le _)
  · refine Ev.step (fun k => impl_allNames.l0.eq_2 ..) ?_
    simp only [Int.lt_irrefl, if_false]
    rw [chkL_end]
    exact Ev.now _
  · intro i hi ih
    refine Ev.step (fun k => impl_allNames.l0.eq_2 ..) ?_
    simp only [if_pos (show (i : Int) < (l.length : Int) by omega), if_pos (show (0 : Int) ≤ i by omega), rdOf_nat, wnext hi hl, if_pos (show (i : Int) ≤ (l.length : Int) by omega), Int.toNat_natCast]
    rw [chkL_step _ _ hi]
    refine Ev.bind (NameOk_ev _ (hs _ (by rw [getD_get _ _ hi]; exact List.getElem_mem hi))) ?_
    cases nameOk (l.getD i ByteArray.empty) with
    | false => simp only [Bool.false_eq_true, if_false, Bool.false_and]; exact Ev.now _
    | true =>
      simp only [if_true, Bool.true_and]
      refine Ev.bind (contains_ev _ _ (by rw [List.length_take]; omega)) ?_
      cases oneOf (l.take i) (l.getD i ByteArray.empty) with
      | true => simp only [if_true, Bool.not_true, Bool.false_and]; exact Ev.now _
      | false => simp only [Bool.false_eq_true, if_false, Bool.not_false, Bool.true_and]; exact ih
theorem differ_ev (l : List ByteArray) (hl : l.length ≤ maxLen) : Ev (fun k => impl_differ.f k l) (difB l) := by
  unfold impl_differ.f difB
  refine down (F := fun k i => impl_differ.l0 k l l (l.length : Int) i) (n := l.length) (res := chkL (fun _ => true) l) ?_ ?_ 0 (Nat.zero_le _)
  · refine Ev.step (fun k => impl_differ.l0.eq_2 ..) ?_
    simp only [Int.lt_irrefl, if_false]
    rw [chkL_end]
    exact Ev.now _
  · intro i hi ih
    refine Ev.step (fun k => impl_differ.l0.eq_2 ..) ?_
    simp only [if_pos (show (i : Int) < (l.length : Int) by omega), if_pos (show (0 : Int) ≤ i by omega), rdOf_nat, wnext hi hl, if_pos (show (i : Int) ≤ (l.length : Int) by omega), Int.toNat_natCast]
    rw [chkL_step _ _ hi, Bool.true_and]
    refine Ev.bind (contains_ev _ _ (by rw [List.length_take]; omega)) ?_
    cases oneOf (l.take i) (l.getD i ByteArray.empty) with
    | true => simp only [if_true, Bool.not_true, Bool.false_and]; exact Ev.now _
    | false => simp only [Bool.false_eq_true, if_false, Bool.not_false, Bool.true_and]; exact ih
theorem onceEach_ev (l : List ByteArray) (hl : l.length ≤ maxLen) (hs : ∀ x ∈ l, x.size ≤ maxLen) : Ev (fun k => spec_onceEach.f k l) (okNames l) := by
  unfold spec_onceEach.f okNames
  refine down (F := fun k i => spec_onceEach.l0 k l i) (n := l.length) (res := chkL nameOk l) ?_ ?_ 0 (Nat.zero_le _)
  · refine Ev.step (fun k => spec_onceEach.l0.eq_2 ..) ?_
    simp only [Int.lt_irrefl, if_false]
    rw [chkL_end]
    exact Ev.now _
  · intro i hi ih
    refine Ev.step (fun k => spec_onceEach.l0.eq_2 ..) ?_
    simp only [if_pos (show (i : Int) < (l.length : Int) by omega), if_pos (show (0 : Int) ≤ i by omega), rdOf_nat, wnext hi hl, if_pos (show (i : Int) ≤ (l.length : Int) by omega), Int.toNat_natCast]
    rw [chkL_step _ _ hi]
    refine Ev.bind (validName_ev _ (hs _ (by rw [getD_get _ _ hi]; exact List.getElem_mem hi))) ?_
    cases nameOk (l.getD i ByteArray.empty) with
    | false => simp only [Bool.false_eq_true, if_false, Bool.false_and]; exact Ev.now _
    | true =>
      simp only [if_true, Bool.true_and]
      refine Ev.bind (isOne_ev _ _ (by rw [List.length_take]; omega)) ?_
      cases oneOf (l.take i) (l.getD i ByteArray.empty) with
      | true => simp only [if_true, Bool.not_true, Bool.false_and]; exact Ev.now _
      | false => simp only [Bool.false_eq_true, if_false, Bool.not_false, Bool.true_and]; exact ih
theorem noneTwice_ev (l : List ByteArray) (hl : l.length ≤ maxLen) : Ev (fun k => spec_noneTwice.f k l) (difB l) := by
  unfold spec_noneTwice.f difB
  refine down (F := fun k i => spec_noneTwice.l0 k l i) (n := l.length) (res := chkL (fun _ => true) l) ?_ ?_ 0 (Nat.zero_le _)
  · refine Ev.step (fun k => spec_noneTwice.l0.eq_2 ..) ?_
    simp only [Int.lt_irrefl, if_false]
    rw [chkL_end]
    exact Ev.now _
  · intro i hi ih
    refine Ev.step (fun k => spec_noneTwice.l0.eq_2 ..) ?_
    simp only [if_pos (show (i : Int) < (l.length : Int) by omega), if_pos (show (0 : Int) ≤ i by omega), rdOf_nat, wnext hi hl, if_pos (show (i : Int) ≤ (l.length : Int) by omega), Int.toNat_natCast]
    rw [chkL_step _ _ hi, Bool.true_and]
    refine Ev.bind (isOne_ev _ _ (by rw [List.length_take]; omega)) ?_
    cases oneOf (l.take i) (l.getD i ByteArray.empty) with
    | true => simp only [if_true, Bool.not_true, Bool.false_and]; exact Ev.now _
    | false => simp only [Bool.false_eq_true, if_false, Bool.not_false, Bool.true_and]; exact ih
/-- Where a name stands, or -1. -/
def posL : List ByteArray → ByteArray → Nat → Int
  | [], _, _ => -1
  | x :: l, s, i => if x.toList = s.toList then (i : Int) else posL l s (i + 1)
def posI (P : List ByteArray) (s : ByteArray) : Int := posL P s 0
theorem posL_lt : ∀ (l : List ByteArray) (s : ByteArray) (i : Nat), posL l s i = -1 ∨ ((i : Int) ≤ posL l s i ∧ posL l s i < ((i + l.length : Nat) : Int))
  | [], s, i => .inl rfl
  | x :: l, s, i => by
    unfold posL
    rw [List.length_cons]
    split
    · right; omega
    · rcases posL_lt l s (i + 1) with h | h
      · exact .inl h
      · right; omega
theorem posL_at : ∀ (l : List ByteArray) (i : Nat), l.Pairwise (fun a b => a.toList ≠ b.toList) → l.map (fun s => posL l s i) = (List.range' i l.length).map fun j : Nat => (j : Int)
  | [], i, _ => rfl
  | x :: l, i, h => by
    rw [List.pairwise_cons] at h
    rw [List.map_cons, List.length_cons, List.range'_succ, List.map_cons]
    congr 1
    · unfold posL; rw [if_pos rfl]
    · rw [← posL_at l (i + 1) h.2]
      apply List.map_congr_left
      intro s hs
      conv => lhs; unfold posL
      rw [if_neg (h.1 s hs)]
theorem Index_ev (l : List ByteArray) (s : ByteArray) (hl : l.length ≤ maxLen) : Ev (fun k => slices_Index_string_string.f k l s) (posI l s) := by
  unfold slices_Index_string_string.f posI
  have := down (F := fun k i => slices_Index_string_string.l0 k l s (l.length : Int) i) (n := l.length) (res := fun i => posL (l.drop i) s i) ?_ ?_ 0 (Nat.zero_le _)
  · simpa using this
  · refine Ev.step (fun k => slices_Index_string_string.l0.eq_2 ..) ?_
    simp only [Int.lt_irrefl, if_false]
    rw [List.drop_length]
    exact Ev.now _
  · intro i hi ih
    refine Ev.step (fun k => slices_Index_string_string.l0.eq_2 ..) ?_
    simp only [if_pos (show (i : Int) < (l.length : Int) by omega), if_pos (show (0 : Int) ≤ i by omega), rdOf_nat, wnext hi hl]
    rw [drop_getD l ByteArray.empty hi]
    unfold posL
    by_cases h : (l.getD i ByteArray.empty).toList = s.toList
    · simp only [if_pos h, if_pos h.symm]
      exact Ev.now _
    · simp only [if_neg h, if_neg (show ¬ s.toList = (l.getD i ByteArray.empty).toList from fun q => h q.symm)]
      exact ih
theorem nameAt_ev (l : List ByteArray) (s : ByteArray) (hl : l.length ≤ maxLen) : Ev (fun k => spec_nameAt.f k l s) (posI l s) := by
  unfold spec_nameAt.f posI
  have := down (F := fun k i => spec_nameAt.l0 k l s i) (n := l.length) (res := fun i => posL (l.drop i) s i) ?_ ?_ 0 (Nat.zero_le _)
  · simpa using this
  · refine Ev.step (fun k => spec_nameAt.l0.eq_2 ..) ?_
    simp only [Int.lt_irrefl, if_false]
    rw [List.drop_length]
    exact Ev.now _
  · intro i hi ih
    refine Ev.step (fun k => spec_nameAt.l0.eq_2 ..) ?_
    simp only [if_pos (show (i : Int) < (l.length : Int) by omega), if_pos (show (0 : Int) ≤ i by omega), rdOf_nat, wnext hi hl]
    rw [drop_getD l ByteArray.empty hi]
    unfold posL
    by_cases h : (l.getD i ByteArray.empty).toList = s.toList
    · simp only [if_pos h]
      exact Ev.now _
    · simp only [if_neg h]
      exact ih
end Go.Proofs.Ytpilehndngclhaa.BE
