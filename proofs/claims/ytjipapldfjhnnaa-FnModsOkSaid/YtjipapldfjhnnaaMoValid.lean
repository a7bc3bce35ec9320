/- Valid modules. -/
import Derived.Test.YtjipapldfjhnnaaMoOk
import Derived.Test.YtjipapldfjhnnaaQ0
import Derived.Test.YtjipapldfjhnnaaQ3
import Derived.Test.YtjipapldfjhnnaaQ4
import Derived.Test.YtjipapldfjhnnaaQ5
import Derived.Test.YtjipapldfjhnnaaQ9
set_option linter.unusedSimpArgs false
set_option linter.unusedVariables false
namespace Go.Proofs.Ytjipapldfjhnnaa.MO
open Go.RowKit Go.Proofs.Ytjipapldfjhnnaa.Q Go.Proofs.YtjipapldfjhnnaaW.PrintWords

def named (s : S46) : Bool := decide (s.f0 = 3 ∨ s.f0 = 4)
def stepOk (n : Nat) (s : S46) : Bool := decide (1 ≤ s.f0 ∧ s.f0 ≤ 5) && (decide (0 ≤ s.f1 ∧ s.f1 ≤ (if s.f0 = 3 ∨ s.f0 = 5 then 1000000 else (n : Int) - 1)) && (if named s = true then nameOk s.f2 else decide (s.f2.toList = [])))
def modOk (n : Nat) (m : S44) : Bool := m.f0.all (stepOk n) && decide (m.f0.length ≤ 8)
def modsOk (l : List S44) : Bool := l.all (modOk l.length) && decide (1 ≤ l.length ∧ l.length ≤ 6)
structure Bnd (l : List S44) : Prop where
  len : l.length ≤ maxLen
  steps : ∀ m ∈ l, m.f0.length ≤ maxLen ∧ ∀ s ∈ m.f0, s.f2.size ≤ maxLen
theorem wless {n : Nat} (h : n ≤ maxLen) : wrap64 ((n : Int) - 1) = (n : Int) - 1 := by unfold wrap64; unfold maxLen at h; omega
theorem toList_nil (s : ByteArray) (h : s.toList = []) : s.size = 0 := by
  unfold ByteArray.toList ByteArray.toList.loop at h
  split at h
  · rename_i q
    exfalso
    have : ∀ n (b : ByteArray) (i : Nat) (r : List UInt8), b.size - i = n → r.length ≤ (ByteArray.toList.loop b i r).length := by
      intro n
      induction n with
      | zero => intro b i r hn; unfold ByteArray.toList.loop; rw [if_neg (by omega)]; simp
      | succ n ih => intro b i r hn; unfold ByteArray.toList.loop; rw [if_pos (by omega)]; exact Nat.le_trans (by simp) (ih b (i+1) _ (by omega))
    have := this _ s (0+1) [s.get! 0] rfl
    rw [h] at this
    simp at this
  · omega
theorem nameOk_empty {s : ByteArray} (h : s.toList = []) : nameOk s = false := by
  have : s.size = 0 := toList_nil s h
  unfold nameOk
  rw [decide_eq_false (p := 1 ≤ s.size ∧ s.size ≤ 12) (by omega), Bool.and_false, Bool.false_and]
theorem bne_nil (s : ByteArray) : (s.toList != ([] : List UInt8)) = !decide (s.toList = []) := by
  cases h : s.toList with
  | nil => rfl
  | cons a b => simp
/-- A step, for the reference: what follows where it stands, is what follows. -/
theorem spec_step (l : List S44) (hl : l.length ≤ maxLen) (x3 x4 : Int) (s : S46) (hs : s.f2.size ≤ maxLen) (R : Bool) (hR : Ev (fun k => spec_validMods.l1 k l x3 (wrap64 (x4 + 1))) R) :
    Ev (fun k => if s.f0 = 3 then (spec_validMods.j2 k l x3 x4 0 (wrap64 ((l.length : Int) - 1)) true s.f0 s.f1 s.f2) else (spec_validMods.j2 k l x3 x4 0 (wrap64 ((l.length : Int) - 1)) (s.f0 == 5) s.f0 s.f1 s.f2)) (stepOk l.length s && R) := by
  rw [wless hl]
  have j4 : ∀ (hi : Int) (nm : Bool), Ev (fun k => spec_validMods.j4 k l x3 x4 0 hi nm s.f0 s.f1 s.f2) ((decide (1 ≤ s.f0 ∧ s.f0 ≤ 5) && (decide (0 ≤ s.f1 ∧ s.f1 ≤ hi) && (if nm = true then nameOk s.f2 else decide (s.f2.toList = [])))) && R) := by
    intro hi nm
    refine Ev.step (fun k => spec_validMods.j4.eq_2 ..) ?_
    simp only [inRange_eq, bne_nil]
    show Ev (fun k => if decide (1 ≤ s.f0 ∧ s.f0 ≤ 5) = true then (if decide (0 ≤ s.f1 ∧ s.f1 ≤ hi) = true then (if (nm != !decide (s.f2.toList = [])) = true then (some false) else (if nm = true then ((spec_validName.f k s.f2).bind fun t128 => (if t128 = true then (spec_validMods.l1 k l x3 (wrap64 (x4 + 1))) else (some false))) else (spec_validMods.l1 k l x3 (wrap64 (x4 + 1))))) else (some false)) else (some false)) _
    cases decide (1 ≤ s.f0 ∧ s.f0 ≤ 5) with
    | false => exact Ev.now _
    | true =>
      cases decide (0 ≤ s.f1 ∧ s.f1 ≤ hi) with
      | false => exact Ev.now _
      | true =>
        cases nm with
        | false =>
          cases h : decide (s.f2.toList = []) with
          | true => exact hR
          | false => exact Ev.now _
        | true =>
          by_cases h : s.f2.toList = []
          · rw [decide_eq_true h, nameOk_empty h]
            exact Ev.now _
          · rw [decide_eq_false h]
            refine Ev.bind (validName_ev s.f2 hs) ?_
            cases nameOk s.f2 with
            | true => exact hR
            | false => exact Ev.now _
  have j3 : ∀ (hi : Int), Ev (fun k => spec_validMods.j3 k l x3 x4 0 hi s.f0 s.f1 s.f2) ((decide (1 ≤ s.f0 ∧ s.f0 ≤ 5) && (decide (0 ≤ s.f1 ∧ s.f1 ≤ hi) && (if named s = true then nameOk s.f2 else decide (s.f2.toList = [])))) && R) := by
    intro hi
    refine Ev.step (fun k => spec_validMods.j3.eq_2 ..) ?_
    by_cases h : s.f0 = 3
    · simp only [if_pos h]
      have e : named s = true := decide_eq_true (.inl h)
      rw [e]
      exact j4 hi true
    · simp only [if_neg h]
      have e : named s = (s.f0 == 4) := by
        unfold named
        rw [Bool.eq_iff_iff, decide_eq_true_eq, beq_iff_eq]
        omega
      rw [e]
      exact j4 hi _
  have j2 : ∀ (b : Bool), b = decide (s.f0 = 3 ∨ s.f0 = 5) → Ev (fun k => spec_validMods.j2 k l x3 x4 0 ((l.length : Int) - 1) b s.f0 s.f1 s.f2) (stepOk l.length s && R) := by
    intro b hb
    refine Ev.step (fun k => spec_validMods.j2.eq_2 ..) ?_
    unfold stepOk
    by_cases h : s.f0 = 3 ∨ s.f0 = 5
    · rw [decide_eq_true h] at hb
      simp only [hb, if_true, if_pos h]
      exact j3 _
    · rw [decide_eq_false h] at hb
      simp only [hb, Bool.false_eq_true, if_false, if_neg h]
      exact j3 _
  by_cases h : s.f0 = 3
  · simp only [if_pos h]
    exact j2 true (decide_eq_true (.inl h)).symm
  · simp only [if_neg h]
    refine j2 _ ?_
    rw [Bool.eq_iff_iff, decide_eq_true_eq, beq_iff_eq]
    omega
theorem validMods_ev (l : List S44) (hb : Bnd l) : Ev (fun k => spec_validMods.f k l) (modsOk l) := by
  unfold spec_validMods.f
  have := down (F := fun k i => spec_validMods.l0 k l i) (n := l.length) (res := fun i => (l.drop i).all (modOk l.length) && decide (1 ≤ l.length ∧ l.length ≤ 6)) ?_ ?_ 0 (Nat.zero_le _)
  · simpa [modsOk] using this
  · refine Ev.step (fun k => spec_validMods.l0.eq_2 ..) ?_
    simp only [Int.lt_irrefl, if_false, inRange_eq]
    rw [List.drop_length]
    have e1 : decide ((1 : Int) ≤ (l.length : Int) ∧ (l.length : Int) ≤ 6) = decide (1 ≤ l.length ∧ l.length ≤ 6) := by rw [Bool.eq_iff_iff, decide_eq_true_eq, decide_eq_true_eq]; omega
    rw [e1]
    exact Ev.now _
  · intro i hi ih
    refine Ev.step (fun k => spec_validMods.l0.eq_2 ..) ?_
    simp only [if_pos (show (i : Int) < (l.length : Int) by omega)]
    rw [drop_getD l z44 hi, List.all_cons, Bool.and_assoc]
    have hmem : l.getD i z44 ∈ l := by rw [getD_get l z44 hi]; exact List.getElem_mem hi
    obtain ⟨b1, b2⟩ := hb.steps _ hmem
    generalize hm : l.getD i z44 = m at *
    have := down (F := fun k j => spec_validMods.l1 k l (i : Int) j) (n := m.f0.length) (res := fun j => ((m.f0.drop j).all (stepOk l.length) && decide (m.f0.length ≤ 8)) && ((l.drop (i + 1)).all (modOk l.length) && decide (1 ≤ l.length ∧ l.length ≤ 6))) ?_ ?_ 0 (Nat.zero_le _)
    · simpa [modOk] using this
    · refine Ev.step (fun k => spec_validMods.l1.eq_2 ..) ?_
      simp only [if_pos (show (i : Int) < (l.length : Int) by omega), if_pos (show (0 : Int) ≤ i by omega), rd51, hm, Int.lt_irrefl, if_false, wnext hi hb.len]
      rw [List.drop_length, List.all_nil, Bool.true_and]
      by_cases h : (m.f0.length : Int) > 8
      · simp only [if_pos h]
        rw [decide_eq_false (show ¬ m.f0.length ≤ 8 by omega)]
        exact Ev.now _
      · simp only [if_neg h]
        rw [decide_eq_true (show m.f0.length ≤ 8 by omega), Bool.true_and]
        exact ih
    · intro j hj ihj
      refine Ev.step (fun k => spec_validMods.l1.eq_2 ..) ?_
      simp only [if_pos (show (i : Int) < (l.length : Int) by omega), if_pos (show (0 : Int) ≤ i by omega), rd51, hm, if_pos (show (j : Int) < (m.f0.length : Int) by omega), if_pos (show (0 : Int) ≤ j by omega), rd54]
      rw [drop_getD m.f0 z46 hj, List.all_cons, Bool.and_assoc, Bool.and_assoc, ← Bool.and_assoc ((m.f0.drop (j + 1)).all (stepOk l.length))]
      rw [← wnext hj b1] at ihj
      exact spec_step l hb.len i j _ (b2 _ (by rw [getD_get m.f0 z46 hj]; exact List.getElem_mem hj)) _ ihj
theorem ModsOk_spec (l : List S44) (hb : Bnd l) : Ev (fun k => spec_ModsOk.f k l) (modsOk l) := by
  unfold spec_ModsOk.f
  exact Ev.bind (validMods_ev l hb) (Ev.now _)
/-- A step, for the program. -/
theorem impl_step (l : List S44) (hl : l.length ≤ maxLen) (x9 : List S44) (x10 x11 : Int) (x20 : List S46) (x21 x22 : Int) (s : S46) (hs : s.f2.size ≤ maxLen) (R : Bool) (hR : Ev (fun k => impl_ModsOk.l1 k l x9 x10 x11 x20 x21 (wrap64 (x22 + 1))) R) :
    Ev (fun k => if s.f0 = 3 then (impl_ModsOk.j2 k l true x9 x10 x11 x20 x21 x22 s.f0 s.f1 s.f2) else (impl_ModsOk.j2 k l (s.f0 == 4) x9 x10 x11 x20 x21 x22 s.f0 s.f1 s.f2)) (stepOk l.length s && R) := by
  have wi : ∀ hi : Int, Ev (fun k => (impl_within.f s.f1 0 hi).bind fun t174 => (if t174 = true then (impl_ModsOk.l1 k l x9 x10 x11 x20 x21 (wrap64 (x22 + 1))) else (some false))) (decide (0 ≤ s.f1 ∧ s.f1 ≤ hi) && R) := by
    intro hi
    rw [within_eq]
    cases decide (0 ≤ s.f1 ∧ s.f1 ≤ hi) with
    | true => exact hR
    | false => exact Ev.now _
  have j5 : ∀ b : Bool, b = decide (s.f0 = 3 ∨ s.f0 = 5) → ¬ (s.f0 = 1 ∨ s.f0 = 2 ∨ s.f0 = 4) → Ev (fun k => impl_ModsOk.j5 k l (-1) x9 x10 x11 x20 x21 x22 b s.f0 s.f1 s.f2) ((decide (1 ≤ s.f0 ∧ s.f0 ≤ 5) && decide (0 ≤ s.f1 ∧ s.f1 ≤ (if s.f0 = 3 ∨ s.f0 = 5 then 1000000 else (l.length : Int) - 1))) && R) := by
    intro b hb hn
    refine Ev.step (fun k => impl_ModsOk.j5.eq_2 ..) ?_
    by_cases h : s.f0 = 3 ∨ s.f0 = 5
    · rw [decide_eq_true h] at hb
      simp only [hb, if_true, if_pos h]
      rw [decide_eq_true (show 1 ≤ s.f0 ∧ s.f0 ≤ 5 by omega), Bool.true_and]
      exact wi _
    · rw [decide_eq_false h] at hb
      simp only [hb, Bool.false_eq_true, if_false, if_neg h]
      rw [decide_eq_false (show ¬ (1 ≤ s.f0 ∧ s.f0 ≤ 5) by omega), Bool.false_and]
      have := wi (-1)
      rw [decide_eq_false (show ¬ (0 ≤ s.f1 ∧ s.f1 ≤ -1) by omega)] at this
      exact this
  have j4 : ∀ b : Bool, b = decide (s.f0 = 1 ∨ s.f0 = 2 ∨ s.f0 = 4) → Ev (fun k => impl_ModsOk.j4 k l (-1) x9 x10 x11 x20 x21 x22 s.f0 b s.f0 s.f1 s.f2) ((decide (1 ≤ s.f0 ∧ s.f0 ≤ 5) && decide (0 ≤ s.f1 ∧ s.f1 ≤ (if s.f0 = 3 ∨ s.f0 = 5 then 1000000 else (l.length : Int) - 1))) && R) := by
    intro b hb
    refine Ev.step (fun k => impl_ModsOk.j4.eq_2 ..) ?_
    by_cases h : s.f0 = 1 ∨ s.f0 = 2 ∨ s.f0 = 4
    · rw [decide_eq_true h] at hb
      simp only [hb, if_true, if_neg (show ¬ (s.f0 = 3 ∨ s.f0 = 5) by omega), wless hl]
      rw [decide_eq_true (show 1 ≤ s.f0 ∧ s.f0 ≤ 5 by omega), Bool.true_and]
      exact wi _
    · rw [decide_eq_false h] at hb
      simp only [hb, Bool.false_eq_true, if_false]
      by_cases h3 : s.f0 = 3
      · simp only [if_pos h3]
        exact j5 _ (by rw [Bool.eq_iff_iff, decide_eq_true_eq, beq_iff_eq]; omega) h
      · simp only [if_neg h3]
        exact j5 _ (by rw [Bool.eq_iff_iff, decide_eq_true_eq, beq_iff_eq]; omega) h
  have j3 : ∀ b : Bool, Ev (fun k => impl_ModsOk.j3 k l x9 x10 x11 x20 x21 x22 b s.f0 s.f1 s.f2) ((!b && (decide (1 ≤ s.f0 ∧ s.f0 ≤ 5) && decide (0 ≤ s.f1 ∧ s.f1 ≤ (if s.f0 = 3 ∨ s.f0 = 5 then 1000000 else (l.length : Int) - 1)))) && R) := by
    intro b
    refine Ev.step (fun k => impl_ModsOk.j3.eq_2 ..) ?_
    cases b with
    | true => exact Ev.now _
    | false =>
      simp only [Bool.false_eq_true, if_false, Bool.not_false, Bool.true_and]
      by_cases h1 : s.f0 = 1
      · simp only [if_pos h1]
        exact j4 _ (by rw [Bool.eq_iff_iff, decide_eq_true_eq, beq_iff_eq]; omega)
      · simp only [if_neg h1]
        by_cases h2 : s.f0 = 2
        · simp only [if_pos h2]
          exact j4 _ (by rw [Bool.eq_iff_iff, decide_eq_true_eq, beq_iff_eq]; omega)
        · simp only [if_neg h2]
          exact j4 _ (by rw [Bool.eq_iff_iff, decide_eq_true_eq, beq_iff_eq]; omega)
  have fin : stepOk l.length s = (!(if named s = true then !nameOk s.f2 else !decide (s.f2.toList = [])) && (decide (1 ≤ s.f0 ∧ s.f0 ≤ 5) && decide (0 ≤ s.f1 ∧ s.f1 ≤ (if s.f0 = 3 ∨ s.f0 = 5 then 1000000 else (l.length : Int) - 1)))) := by
    unfold stepOk
    generalize decide (1 ≤ s.f0 ∧ s.f0 ≤ 5) = a
    generalize decide (0 ≤ s.f1 ∧ s.f1 ≤ (if s.f0 = 3 ∨ s.f0 = 5 then 1000000 else (l.length : Int) - 1)) = b
    generalize nameOk s.f2 = c
    generalize decide (s.f2.toList = []) = d
    generalize named s = e
    revert a b c d e
    decide
  rw [fin]
  have j2 : ∀ b : Bool, b = named s → Ev (fun k => impl_ModsOk.j2 k l b x9 x10 x11 x20 x21 x22 s.f0 s.f1 s.f2) ((!(if named s = true then !nameOk s.f2 else !decide (s.f2.toList = [])) && (decide (1 ≤ s.f0 ∧ s.f0 ≤ 5) && decide (0 ≤ s.f1 ∧ s.f1 ≤ (if s.f0 = 3 ∨ s.f0 = 5 then 1000000 else (l.length : Int) - 1)))) && R) := by
    intro b hb
    refine Ev.step (fun k => impl_ModsOk.j2.eq_2 ..) ?_
    subst hb
    cases h : named s with
    | true =>
      simp only [if_true]
      refine Ev.bind (NameOk_ev s.f2 hs) ?_
      cases nameOk s.f2 with
      | true => exact j3 false
      | false => exact j3 true
    | false =>
      simp only [Bool.false_eq_true, if_false, bne_nil]
      exact j3 _
  by_cases h : s.f0 = 3
  · simp only [if_pos h]
    exact j2 true (decide_eq_true (.inl h)).symm
  · simp only [if_neg h]
    exact j2 _ (by unfold named; rw [Bool.eq_iff_iff, decide_eq_true_eq, beq_iff_eq]; omega)
theorem ModsOk_impl (l : List S44) (hb : Bnd l) : Ev (fun k => impl_ModsOk.f k l) (modsOk l) := by
  unfold impl_ModsOk.f
  have := down (F := fun k i => impl_ModsOk.l0 k l l (l.length : Int) i) (n := l.length) (res := fun i => (l.drop i).all (modOk l.length) && decide (1 ≤ l.length ∧ l.length ≤ 6)) ?_ ?_ 0 (Nat.zero_le _)
  · simpa [modsOk] using this
  · refine Ev.step (fun k => impl_ModsOk.l0.eq_2 ..) ?_
    simp only [Int.lt_irrefl, if_false, within_eq]
    rw [List.drop_length]
    have e1 : decide ((1 : Int) ≤ (l.length : Int) ∧ (l.length : Int) ≤ 6) = decide (1 ≤ l.length ∧ l.length ≤ 6) := by rw [Bool.eq_iff_iff, decide_eq_true_eq, decide_eq_true_eq]; omega
    rw [e1]
    exact Ev.now _
  · intro i hi ih
    refine Ev.step (fun k => impl_ModsOk.l0.eq_2 ..) ?_
    simp only [if_pos (show (i : Int) < (l.length : Int) by omega), if_pos (show (0 : Int) ≤ i by omega), rd51]
    rw [drop_getD l z44 hi, List.all_cons, Bool.and_assoc]
    have hmem : l.getD i z44 ∈ l := by rw [getD_get l z44 hi]; exact List.getElem_mem hi
    obtain ⟨b1, b2⟩ := hb.steps _ hmem
    generalize hm : l.getD i z44 = m at *
    have em : modOk l.length m = (m.f0.all (stepOk l.length) && decide (m.f0.length ≤ 8)) := rfl
    rw [em]
    by_cases h8 : (m.f0.length : Int) > 8
    · simp only [if_pos h8]
      rw [decide_eq_false (show ¬ m.f0.length ≤ 8 by omega), Bool.and_false, Bool.false_and]
      exact Ev.now _
    simp only [if_neg h8]
    rw [decide_eq_true (show m.f0.length ≤ 8 by omega), Bool.and_true]
    have := down (F := fun k j => impl_ModsOk.l1 k l l (l.length : Int) (i : Int) m.f0 (m.f0.length : Int) j) (n := m.f0.length) (res := fun j => (m.f0.drop j).all (stepOk l.length) && ((l.drop (i + 1)).all (modOk l.length) && decide (1 ≤ l.length ∧ l.length ≤ 6))) ?_ ?_ 0 (Nat.zero_le _)
    · simpa using this
    · refine Ev.step (fun k => impl_ModsOk.l1.eq_2 ..) ?_
      simp only [Int.lt_irrefl, if_false, wnext hi hb.len]
      rw [List.drop_length, List.all_nil, Bool.true_and]
      exact ih
    · intro j hj ihj
      refine Ev.step (fun k => impl_ModsOk.l1.eq_2 ..) ?_
      simp only [if_pos (show (j : Int) < (m.f0.length : Int) by omega), if_pos (show (0 : Int) ≤ j by omega), rd54]
      rw [drop_getD m.f0 z46 hj, List.all_cons, Bool.and_assoc]
      rw [← wnext hj b1] at ihj
      exact impl_step l hb.len l _ i m.f0 _ j _ (b2 _ (by rw [getD_get m.f0 z46 hj]; exact List.getElem_mem hj)) _ ihj
end Go.Proofs.Ytjipapldfjhnnaa.MO
