/- Names: what the reference and the program take for one. -/
import Derived.Test.YtpilehndngclhaaGrMath
import Derived.Test.YtpilehndngclhaaQ2
import Derived.Test.YtpilehndngclhaaQ3
import Derived.Test.YtpilehndngclhaaQ4
import Derived.Test.YtpilehndngclhaaQ5
set_option linter.unusedSimpArgs false
set_option linter.unusedVariables false
namespace Go.Proofs.Ytpilehndngclhaa.MO
open Go.RowKit Go.Proofs.Ytpilehndngclhaa.Q Go.Proofs.YtpilehndngclhaaW.PrintWords

theorem wnext {i n : Nat} (h : i < n) (hn : n ≤ maxLen) : wrap64 ((i : Int) + 1) = ((i + 1 : Nat) : Int) := by unfold wrap64; unfold maxLen at hn; omega
/-- A loop that counts up, from its end back. -/
theorem down {β : Type} {n : Nat} {F : Nat → Int → Option β} {res : Nat → β} (stop : Ev (fun k => F k (n : Int)) (res n))
    (step : ∀ i : Nat, i < n → Ev (fun k => F k ((i + 1 : Nat) : Int)) (res (i + 1)) → Ev (fun k => F k (i : Int)) (res i)) : ∀ i, i ≤ n → Ev (fun k => F k (i : Int)) (res i) := by
  have key : ∀ d i, i ≤ n → n - i = d → Ev (fun k => F k (i : Int)) (res i) := by
    intro d
    induction d with
    | zero => intro i h h1; obtain rfl : i = n := by omega
              exact stop
    | succ d ih => intro i h h1; exact step i (by omega) (ih (i + 1) (by omega) (by omega))
  exact fun i h => key _ i h rfl
def isLt (c : Int) : Bool := decide ((97 ≤ c ∧ c ≤ 122) ∨ (65 ≤ c ∧ c ≤ 90) ∨ c = 95)
def isDg (c : Int) : Bool := decide (48 ≤ c ∧ c ≤ 57)
theorem beq_dec (a b : Int) : (a == b) = decide (a = b) := rfl
theorem letter_eq (c : Int) : spec_letter.f c = some (isLt c) := by
  unfold spec_letter.f isLt
  rw [beq_dec]
  (repeat' split) <;> (congr 1; rw [Bool.eq_iff_iff]; simp only [decide_eq_true_eq, iff_true, true_iff, Bool.false_eq_true, false_iff]; omega)
theorem isLetter_eq (c : Int) : impl_isLetter.f c = some (isLt c) := by
  unfold impl_isLetter.f isLt
  (repeat' split) <;> (congr 1; rw [Bool.eq_iff_iff]; simp only [decide_eq_true_eq, iff_true, true_iff, Bool.false_eq_true, false_iff]; omega)
theorem digit_eq (c : Int) : spec_digit.f c = some (isDg c) := by
  unfold spec_digit.f isDg
  (repeat' split) <;> (congr 1; rw [Bool.eq_iff_iff]; simp only [decide_eq_true_eq, iff_true, true_iff, Bool.false_eq_true, false_iff]; omega)
theorem isDigit_eq (c : Int) : impl_isDigit.f c = some (isDg c) := by
  unfold impl_isDigit.f isDg
  (repeat' split) <;> (congr 1; rw [Bool.eq_iff_iff]; simp only [decide_eq_true_eq, iff_true, true_iff, Bool.false_eq_true, false_iff]; omega)
theorem inRange_eq (x a b : Int) : spec_inRange.f x a b = some (decide (a ≤ x ∧ x ≤ b)) := by
  unfold spec_inRange.f
  (repeat' split) <;> (congr 1; rw [Bool.eq_iff_iff]; simp only [decide_eq_true_eq, iff_true, true_iff, Bool.false_eq_true, false_iff]; omega)
/-- A text is one of those. -/
def oneOf (l : List ByteArray) (s : ByteArray) : Bool := l.any fun x => decide (x.toList = s.toList)
theorem rdOf_nat (l : List ByteArray) (i : Nat) : rdOf ByteArray.empty l (i : Int) = l.getD i ByteArray.empty := by unfold rdOf; simp
theorem getD_get {α : Type} (l : List α) (d : α) {i : Nat} (h : i < l.length) : l.getD i d = l[i] := by simp [h]
theorem drop_getD {α : Type} (l : List α) (d : α) {i : Nat} (h : i < l.length) : l.drop i = l.getD i d :: l.drop (i + 1) := by
  rw [List.drop_eq_getElem_cons h]
  simp [h]
theorem isOne_ev (l : List ByteArray) (s : ByteArray) (hl : l.length ≤ maxLen) : Ev (fun k => spec_isOne.f k l s) (oneOf l s) := by
  unfold spec_isOne.f
  have := down (F := fun k i => spec_isOne.l0 k l s i) (n := l.length) (res := fun i => oneOf (l.drop i) s) ?_ ?_ 0 (Nat.zero_le _)
  · simpa using this
  · refine Ev.step (fun k => spec_isOne.l0.eq_2 ..) ?_
    simp only [Int.lt_irrefl, if_false]
    rw [List.drop_length]
    exact Ev.now _
  · intro i hi ih
    refine Ev.step (fun k => spec_isOne.l0.eq_2 ..) ?_
    simp only [if_pos (show (i : Int) < (l.length : Int) by omega), if_pos (show (0 : Int) ≤ i by omega), rdOf_nat, wnext hi hl]
    rw [drop_getD l ByteArray.empty hi]
    unfold oneOf
    rw [List.any_cons]
    by_cases h : (l.getD i ByteArray.empty).toList = s.toList
    · simp only [if_pos h, decide_eq_true h, Bool.true_or]
      exact Ev.now _
    · simp only [if_neg h, decide_eq_false h, Bool.false_or]
      exact ih
theorem contains_ev (l : List ByteArray) (s : ByteArray) (hl : l.length ≤ maxLen) : Ev (fun k => slices_Contains_string_string.f k l s) (oneOf l s) := by
  unfold slices_Contains_string_string.f
  have : ∃ v : Nat → Int, (∀ i, oneOf (l.drop i) s = decide (v i ≥ 0)) ∧ Ev (fun k => slices_Index_string_string.f k l s) (v 0) := by
    let v : Nat → Int := fun i => if oneOf (l.drop i) s = true then (i : Int) + (((l.drop i).findIdx fun x : ByteArray => decide (x.toList = s.toList) : Nat) : Int) else -1
    refine ⟨v, fun i => ?_, ?_⟩
    · show _ = decide ((if oneOf (l.drop i) s = true then (i : Int) + (((l.drop i).findIdx fun x : ByteArray => decide (x.toList = s.toList) : Nat) : Int) else (-1 : Int)) ≥ 0)
      by_cases h : oneOf (l.drop i) s = true
      · rw [if_pos h, h, decide_eq_true (by omega)]
      · rw [if_neg h, decide_eq_false (by omega)]
        simpa using h
    · unfold slices_Index_string_string.f
      refine down (F := fun k i => slices_Index_string_string.l0 k l s (l.length : Int) i) (n := l.length) (res := v) ?_ ?_ 0 (Nat.zero_le _)
      · refine Ev.step (fun k => slices_Index_string_string.l0.eq_2 ..) ?_
        simp only [Int.lt_irrefl, if_false]
        have : v l.length = -1 := by show (if oneOf (l.drop l.length) s = true then _ else _) = _; rw [List.drop_length, if_neg (by simp [oneOf])]
        rw [this]
        exact Ev.now _
      · intro i hi ih
        refine Ev.step (fun k => slices_Index_string_string.l0.eq_2 ..) ?_
        simp only [if_pos (show (i : Int) < (l.length : Int) by omega), if_pos (show (0 : Int) ≤ i by omega), rdOf_nat, wnext hi hl]
        have e : v i = if (l.getD i ByteArray.empty).toList = s.toList then (i : Int) else v (i + 1) := by
          show (if oneOf (l.drop i) s = true then (i : Int) + (((l.drop i).findIdx fun x : ByteArray => decide (x.toList = s.toList) : Nat) : Int) else (-1 : Int)) = if (l.getD i ByteArray.empty).toList = s.toList then (i : Int) else (if oneOf (l.drop (i + 1)) s = true then ((i + 1 : Nat) : Int) + (((l.drop (i + 1)).findIdx fun x : ByteArray => decide (x.toList = s.toList) : Nat) : Int) else (-1 : Int))
          rw [drop_getD l ByteArray.empty hi]
          unfold oneOf
          rw [List.any_cons, List.findIdx_cons]
          by_cases h : (l.getD i ByteArray.empty).toList = s.toList
          · rw [decide_eq_true h, Bool.true_or, if_pos rfl, if_pos h]
            simp only [cond_true]
            omega
          · rw [decide_eq_false h, if_neg h, Bool.false_or]
            simp only [cond_false]
            split <;> omega
        rw [e]
        by_cases h : (l.getD i ByteArray.empty).toList = s.toList
        · simp only [if_pos h, if_pos h.symm]
          exact Ev.now _
        · simp only [if_neg h, if_neg (show ¬ s.toList = (l.getD i ByteArray.empty).toList from fun q => h q.symm)]
          exact ih
  obtain ⟨v, h1, h2⟩ := this
  refine Ev.bind h2 ?_
  have := h1 0
  rw [List.drop_zero] at this
  rw [this]
  exact Ev.now _
def kws : List ByteArray := (spec_keywords.f).getD []
def kw (s : ByteArray) : Bool := oneOf kws s
theorem isKeyword_ev (s : ByteArray) : Ev (fun k => spec_isKeyword.f k s) (kw s) := by
  unfold spec_isKeyword.f
  refine Ev.bind (g := fun _ => spec_keywords.f) (a := kws) ⟨0, fun _ _ => rfl⟩ ?_
  refine Ev.bind (isOne_ev kws s (by decide)) (Ev.now _)
theorem IsKeyword_ev (s : ByteArray) : Ev (fun k => impl_IsKeyword.f k s) (kw s) := by
  unfold impl_IsKeyword.f
  refine Ev.bind (g := fun _ => impl_keywords.f) (a := kws) ⟨0, fun _ _ => rfl⟩ ?_
  refine Ev.bind (contains_ev kws s (by decide)) (Ev.now _)
def okAt (s : ByteArray) (j : Nat) : Bool := isLt (bt s (j : Int)) || (decide (j ≠ 0) && isDg (bt s (j : Int)))
def nameOk (s : ByteArray) : Bool := (decide (∀ j, j < s.size → okAt s j = true) && decide (1 ≤ s.size ∧ s.size ≤ 12)) && !kw s
theorem from_succ {n i : Nat} (p : Nat → Bool) (hi : i < n) : decide (∀ j, j < n → i ≤ j → p j = true) = (p i && decide (∀ j, j < n → i + 1 ≤ j → p j = true)) := by
  rw [Bool.eq_iff_iff, Bool.and_eq_true, decide_eq_true_eq, decide_eq_true_eq]
  constructor
  · exact fun h => ⟨h i hi (Nat.le_refl _), fun j hj h1 => h j hj (by omega)⟩
  · rintro ⟨h, h1⟩ j hj h2
    rcases Nat.lt_or_ge i j with q | q
    · exact h1 j hj q
    · obtain rfl : i = j := by omega
      exact h
theorem validName_ev (s : ByteArray) (hs : s.size ≤ maxLen) : Ev (fun k => spec_validName.f k s) (nameOk s) := by
  unfold spec_validName.f
  have := down (F := fun k i => spec_validName.l0 k s i) (n := s.size) (res := fun i => (decide (∀ j, j < s.size → i ≤ j → okAt s j = true) && decide (1 ≤ s.size ∧ s.size ≤ 12)) && !kw s) ?_ ?_ 0 (Nat.zero_le _)
  · simpa [nameOk] using this
  · refine Ev.step (fun k => spec_validName.l0.eq_2 ..) ?_
    simp only [Int.lt_irrefl, if_false, inRange_eq]
    have e : decide (∀ j, j < s.size → s.size ≤ j → okAt s j = true) = true := decide_eq_true fun j h h1 => absurd h (by omega)
    have e1 : decide ((1 : Int) ≤ (s.size : Int) ∧ (s.size : Int) ≤ 12) = decide (1 ≤ s.size ∧ s.size ≤ 12) := by rw [Bool.eq_iff_iff, decide_eq_true_eq, decide_eq_true_eq]; omega
    rw [e, Bool.true_and, e1]
    cases h : decide (1 ≤ s.size ∧ s.size ≤ 12) with
    | true =>
      rw [Bool.true_and]
      show Ev (fun k => (spec_isKeyword.f k s).bind fun t => some (!t)) _
      exact Ev.bind (isKeyword_ev s) (Ev.now (!kw s))
    | false => exact Ev.now _
  · intro i hi ih
    refine Ev.step (fun k => spec_validName.l0.eq_2 ..) ?_
    simp only [if_pos (show (i : Int) < (s.size : Int) by omega), if_pos (show (0 : Int) ≤ i by omega), letter_eq, digit_eq, wnext hi hs]
    rw [from_succ (fun j => okAt s j) hi]
    unfold okAt
    cases h : isLt (bt s (i : Int)) with
    | true => exact ih
    | false =>
      by_cases h0 : i = 0
      · subst h0
        exact Ev.now _
      · simp only [Option.bind, Bool.false_eq_true, if_false, if_neg (show ¬ (i : Int) = 0 by omega), decide_eq_true h0]
        cases h2 : isDg (bt s (i : Int)) with
        | true => exact ih
        | false => exact Ev.now _
theorem NameOk_ev (s : ByteArray) (hs : s.size ≤ maxLen) : Ev (fun k => impl_NameOk.f k s) (nameOk s) := by
  unfold impl_NameOk.f
  have jt : Ev (fun k => impl_NameOk.j0 k s true) false := Ev.step (fun k => impl_NameOk.j0.eq_2 ..) (Ev.now _)
  by_cases h0 : (s.size : Int) < 1
  · simp only [if_pos h0]
    have : nameOk s = false := by unfold nameOk; rw [decide_eq_false (p := 1 ≤ s.size ∧ s.size ≤ 12) (by omega), Bool.and_false, Bool.false_and]
    rw [this]; exact jt
  simp only [if_neg h0]
  by_cases h1 : (s.size : Int) > 12
  · simp only [if_pos h1]
    have : nameOk s = false := by unfold nameOk; rw [decide_eq_false (p := 1 ≤ s.size ∧ s.size ≤ 12) (by omega), Bool.and_false, Bool.false_and]
    rw [this]; exact jt
  simp only [if_neg h1, if_pos (show (0 : Int) < s.size by omega), isDigit_eq]
  have e2 : decide (1 ≤ s.size ∧ s.size ≤ 12) = true := decide_eq_true (by omega)
  cases h2 : isDg (bt s 0) with
  | true =>
    have : nameOk s = false := by
      have : decide (∀ j, j < s.size → okAt s j = true) = false := decide_eq_false fun q => by
        have := q 0 (by omega)
        have e : isLt (bt s 0) = false := by
          unfold isDg at h2
          unfold isLt
          rw [decide_eq_true_eq] at h2
          exact decide_eq_false (by omega)
        have e' : bt s ((0 : Nat) : Int) = bt s 0 := rfl
        simp [okAt, e, h2, e'] at this
      unfold nameOk; rw [this]; rfl
    rw [this]; exact jt
  | false =>
    show Ev (fun k => (impl_IsKeyword.f k s).bind fun t => impl_NameOk.j0 k s t) _
    refine Ev.bind (IsKeyword_ev s) ?_
    cases h3 : kw s with
    | true =>
      have : nameOk s = false := by unfold nameOk; rw [h3]; simp
      rw [this]; exact jt
    | false =>
      refine Ev.step (fun k => impl_NameOk.j0.eq_2 ..) ?_
      simp only [Bool.false_eq_true, if_false]
      have e : nameOk s = decide (∀ j, j < s.size → 0 ≤ j → (isLt (bt s (j : Int)) || isDg (bt s (j : Int))) = true) := by
        unfold nameOk
        rw [h3, e2, Bool.and_true, Bool.not_false, Bool.and_true, Bool.eq_iff_iff, decide_eq_true_eq, decide_eq_true_eq]
        constructor
        · intro q j hj _
          have := q j hj
          unfold okAt at this
          rw [Bool.or_eq_true] at this ⊢
          exact this.imp id fun t => by rw [Bool.and_eq_true] at t; exact t.2
        · intro q j hj
          have := q j hj (Nat.zero_le _)
          unfold okAt
          rw [Bool.or_eq_true] at this ⊢
          refine this.imp id fun t => ?_
          rw [Bool.and_eq_true]
          refine ⟨decide_eq_true fun z => ?_, t⟩
          subst z
          exact absurd (show isDg (bt s 0) = true from t) (by rw [h2]; decide)
      rw [e]
      refine down (F := fun k i => impl_NameOk.l0 k s (s.size : Int) i) (n := s.size) (res := fun i => decide (∀ j, j < s.size → i ≤ j → (isLt (bt s (j : Int)) || isDg (bt s (j : Int))) = true)) ?_ ?_ 0 (Nat.zero_le _)
      · refine Ev.step (fun k => impl_NameOk.l0.eq_2 ..) ?_
        simp only [Int.lt_irrefl, if_false]
        have : decide (∀ j, j < s.size → s.size ≤ j → (isLt (bt s (j : Int)) || isDg (bt s (j : Int))) = true) = true := decide_eq_true fun j h h1 => absurd h (by omega)
        rw [this]
        exact Ev.now _
      · intro i hi ih
        refine Ev.step (fun k => impl_NameOk.l0.eq_2 ..) ?_
        simp only [if_pos (show (i : Int) < (s.size : Int) by omega), if_pos (show (0 : Int) ≤ i by omega), isLetter_eq, isDigit_eq, wnext hi hs]
        rw [from_succ (fun j => isLt (bt s (j : Int)) || isDg (bt s (j : Int))) hi]
        cases h : isLt (bt s (i : Int)) with
        | true => exact ih
        | false =>
          simp only [Option.bind, Bool.false_eq_true, if_false]
          cases h2 : isDg (bt s (i : Int)) with
          | true => exact ih
          | false => exact Ev.now _
end Go.Proofs.Ytpilehndngclhaa.MO
