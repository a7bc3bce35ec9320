/- Valid slots: what the reference and what the program ask. -/
import Derived.Test.YthocdlaajncmpaaDiProbe
import Derived.Test.YthocdlaajncmpaaQ0
import Derived.Test.YthocdlaajncmpaaQ3
set_option linter.unusedSimpArgs false
set_option linter.unusedVariables false
namespace Go.Proofs.Ythocdlaajncmpaa.DI
open Go.RowKit Go.Proofs.Ythocdlaajncmpaa.Q Go.Proofs.YthocdlaajncmpaaW.PrintWords

theorem getD_set {α : Type} (l : List α) (n j : Nat) (v d : α) (h : n < l.length) : (l.set n v).getD j d = if j = n then v else l.getD j d := by
  rw [List.getD_eq_getElem?_getD, List.getD_eq_getElem?_getD, List.getElem?_set]
  by_cases q : n = j
  · subst q; simp [h]
  · rw [if_neg q, if_neg (fun z => q z.symm)]
def lv (E : List S38) (j : Nat) : Bool := (E.getD j z38).f3
def one (b : Bool) : Nat := if b = true then 1 else 0
structure SlotsS (I : List Int) (E : List S38) (i : Nat) (seen : List Bool) (dr : Int) : Prop where
  rng : ∀ x ∈ I.drop i, -2 ≤ x ∧ x < (E.length : Int)
  cnt : ∀ j, j < E.length → one (seen.getD j false) + (I.drop i).count (j : Int) = one (lv E j)
  dr : dr + ((I.drop i).count (-2) : Nat) = (E.length : Int) - (live E : Nat)
theorem rdBn (l : List Bool) (i : Nat) : rdOf false l (i : Int) = l.getD i false := by unfold rdOf; simp
theorem wlive (E : List S38) (h : E.length ≤ 1000000) : wrap64 ((E.length : Int) - (live E : Nat)) = (E.length : Int) - (live E : Nat) := by
  have := live_le E
  exact w64 (by omega) (by omega)
theorem one_eq {a b : Bool} : one a = one b ↔ a = b := by cases a <;> cases b <;> simp [one]
theorem spec_slots_l (I : List Int) (E : List S38) (hI : I.length ≤ 1000) (hE : E.length ≤ 1000000) : ∀ (d i : Nat) (seen : List Bool) (dr : Int), I.length - i = d → i ≤ I.length → seen.length = E.length → 0 ≤ dr → dr ≤ i →
    ∃ b, Ev (fun k => spec_validSlots.l0 k seen dr (i : Int) I E) b ∧ (b = true ↔ SlotsS I E i seen dr) := by
  intro d
  induction d with
  | zero =>
    intro i seen dr h1 h2 h3 h4 h5
    obtain rfl : i = I.length := by omega
    refine ⟨decide (∀ j, j < E.length → (seen.getD j false == lv E j) = true) && (dr == (E.length : Int) - (live E : Nat)), Ev.step (fun k => spec_validSlots.l0.eq_2 ..) ?_, ?_⟩
    · simp only [Int.lt_irrefl, if_false]
      refine allLoop (F := fun k j => spec_validSlots.l1 k seen dr j I E) (n := E.length) (c := fun j => seen.getD j false == lv E j) (B := dr == (E.length : Int) - (live E : Nat)) ?_ ?_ ?_
      · intro j hj hc r hr
        refine Ev.step (fun k => spec_validSlots.l1.eq_2 ..) ?_
        simp only [h3, if_pos (show (j : Int) < (E.length : Int) by omega), if_pos (show (0 : Int) ≤ j by omega), rdBn, rdE, wnext hj (show E.length ≤ maxLen by unfold maxLen; omega)]
        have : (seen.getD j false != (E.getD j z38).f3) = false := by
          show (!(seen.getD j false == lv E j)) = false
          rw [hc]; rfl
        simp only [this, Bool.false_eq_true, if_false]
        exact hr
      · intro j hj hc
        refine Ev.step (fun k => spec_validSlots.l1.eq_2 ..) ?_
        simp only [h3, if_pos (show (j : Int) < (E.length : Int) by omega), if_pos (show (0 : Int) ≤ j by omega), rdBn, rdE]
        have : (seen.getD j false != (E.getD j z38).f3) = true := by
          show (!(seen.getD j false == lv E j)) = true
          rw [hc]; rfl
        simp only [this, if_true]
        exact Ev.now _
      · intro _
        refine Ev.step (fun k => spec_validSlots.l1.eq_2 ..) ?_
        simp only [h3, Int.lt_irrefl, if_false]
        refine Ev.bind (spec_live I E hE) ?_
        rw [wlive E hE]
        exact Ev.now _
    · rw [Bool.and_eq_true, decide_eq_true_eq, beq_iff_eq]
      constructor
      · rintro ⟨a, b⟩
        refine ⟨by rw [List.drop_length]; simp, fun j hj => ?_, by rw [List.drop_length]; simpa using b⟩
        rw [List.drop_length, beq_iff_eq.1 (a j hj)]
        simp
      · intro h
        refine ⟨fun j hj => ?_, by have := h.dr; rw [List.drop_length] at this; simpa using this⟩
        have := h.cnt j hj
        rw [List.drop_length] at this
        rw [beq_iff_eq]
        exact one_eq.1 (by simpa using this)
  | succ d ih =>
    intro i seen dr h1 h2 h3 h4 h5
    have hi : i < I.length := by omega
    have hd := drop_getD I 0 hi
    have hm : ∀ {b : Bool}, (b = true ↔ SlotsS I E i seen dr) → (b = true ↔ SlotsS I E i seen dr) := id
    generalize hx : I.getD i 0 = x at hd
    have body : ∀ b, Ev (fun k => if x = (-2) then (spec_validSlots.j1 k seen (wrap64 (dr + 1)) (i : Int) x I E) else (spec_validSlots.j1 k seen dr (i : Int) x I E)) b → Ev (fun k => spec_validSlots.l0 k seen dr (i : Int) I E) b := by
      intro b hb
      refine Ev.step (fun k => spec_validSlots.l0.eq_2 ..) ?_
      simp only [if_pos (show (i : Int) < (I.length : Int) by omega), if_pos (show (0 : Int) ≤ i by omega), rdN, hx]
      exact hb
    have hw := wnext hi (show I.length ≤ maxLen by unfold maxLen; omega)
    have bad : ∀ dr', Ev (fun k => spec_validSlots.j2 k seen dr' (i : Int) x true I E) false := by
      intro dr'
      refine Ev.step (fun k => spec_validSlots.j2.eq_2 ..) ?_
      simp only [if_true]
      exact Ev.now _
    by_cases hA : x = -2
    · obtain ⟨b, hb, hb'⟩ := ih (i + 1) seen (dr + 1) (by omega) (by omega) h3 (by omega) (by omega)
      refine ⟨b, body b ?_, hb'.trans ?_⟩
      · simp only [if_pos hA, w64 (x := dr + 1) (by omega) (by omega)]
        refine Ev.step (fun k => spec_validSlots.j1.eq_2 ..) ?_
        simp only [if_neg (show ¬ x < -2 by omega), if_neg (show ¬ x ≥ (E.length : Int) by omega), if_neg (show ¬ x ≥ 0 by omega)]
        refine Ev.step (fun k => spec_validSlots.j2.eq_2 ..) ?_
        simp only [Bool.false_eq_true, if_false, if_neg (show ¬ x ≥ 0 by omega), hw]
        exact hb
      · subst hA
        have e2 : (I.drop i).count (-2) = (I.drop (i + 1)).count (-2) + 1 := by rw [hd, List.count_cons_self]
        have ej : ∀ j : Nat, (I.drop i).count (j : Int) = (I.drop (i + 1)).count (j : Int) := fun j => by rw [hd, List.count_cons_of_ne (by omega)]
        constructor
        · intro h
          refine ⟨fun y hy => ?_, fun j hj => by rw [ej]; exact h.cnt j hj, by rw [e2]; have := h.dr; omega⟩
          rw [hd] at hy
          rcases List.mem_cons.1 hy with q | q
          · rw [q]; omega
          · exact h.rng y q
        · intro h
          exact ⟨fun y hy => h.rng y (by rw [hd]; exact List.mem_cons_of_mem _ hy), fun j hj => by rw [← ej]; exact h.cnt j hj, by have := h.dr; rw [e2] at this; omega⟩
    by_cases hB : x < -2 ∨ x ≥ (E.length : Int)
    · refine ⟨false, body _ ?_, ⟨fun h => absurd h (by decide), fun h => ?_⟩⟩
      · simp only [if_neg hA]
        refine Ev.step (fun k => spec_validSlots.j1.eq_2 ..) ?_
        by_cases g : x < -2
        · simp only [if_pos g]; exact bad _
        · simp only [if_neg g, if_pos (show x ≥ (E.length : Int) by omega)]; exact bad _
      · have := h.rng x (by rw [hd]; exact List.mem_cons_self ..)
        omega
    by_cases hD : x < 0
    · obtain rfl : x = -1 := by omega
      obtain ⟨b, hb, hb'⟩ := ih (i + 1) seen dr (by omega) (by omega) h3 (by omega) (by omega)
      refine ⟨b, body b ?_, hb'.trans ?_⟩
      · simp only [if_neg hA]
        refine Ev.step (fun k => spec_validSlots.j1.eq_2 ..) ?_
        simp only [if_neg (show ¬ (-1 : Int) < -2 by omega), if_neg (show ¬ (-1 : Int) ≥ (E.length : Int) by omega), if_neg (show ¬ (-1 : Int) ≥ 0 by omega)]
        refine Ev.step (fun k => spec_validSlots.j2.eq_2 ..) ?_
        simp only [Bool.false_eq_true, if_false, if_neg (show ¬ (-1 : Int) ≥ 0 by omega), hw]
        exact hb
      · have e2 : (I.drop i).count (-2) = (I.drop (i + 1)).count (-2) := by rw [hd, List.count_cons_of_ne (by omega)]
        have ej : ∀ j : Nat, (I.drop i).count (j : Int) = (I.drop (i + 1)).count (j : Int) := fun j => by rw [hd, List.count_cons_of_ne (by omega)]
        constructor
        · intro h
          refine ⟨fun y hy => ?_, fun j hj => by rw [ej]; exact h.cnt j hj, by rw [e2]; exact h.dr⟩
          rw [hd] at hy
          rcases List.mem_cons.1 hy with q | q
          · rw [q]; omega
          · exact h.rng y q
        · intro h
          exact ⟨fun y hy => h.rng y (by rw [hd]; exact List.mem_cons_of_mem _ hy), fun j hj => by rw [← ej]; exact h.cnt j hj, by have := h.dr; rw [e2] at this; exact this⟩
    · obtain ⟨n, rfl⟩ : ∃ n : Nat, x = (n : Int) := ⟨x.toNat, by omega⟩
      have hn : n < E.length := by omega
      have e2 : (I.drop i).count (-2) = (I.drop (i + 1)).count (-2) := by rw [hd, List.count_cons_of_ne (by omega)]
      have en : (I.drop i).count (n : Int) = (I.drop (i + 1)).count (n : Int) + 1 := by rw [hd, List.count_cons_self]
      have ej : ∀ j : Nat, j ≠ n → (I.drop i).count (j : Int) = (I.drop (i + 1)).count (j : Int) := fun j hj => by rw [hd, List.count_cons_of_ne (by omega)]
      have start : ∀ b, Ev (fun k => if seen.getD n false = true then (spec_validSlots.j2 k seen dr (i : Int) (n : Int) true I E) else (spec_validSlots.j2 k seen dr (i : Int) (n : Int) (!(lv E n)) I E)) b → Ev (fun k => spec_validSlots.l0 k seen dr (i : Int) I E) b := by
        intro b hb
        refine body b ?_
        simp only [if_neg hA]
        refine Ev.step (fun k => spec_validSlots.j1.eq_2 ..) ?_
        simp only [if_neg (show ¬ (n : Int) < -2 by omega), if_neg (show ¬ (n : Int) ≥ (E.length : Int) by omega), if_pos (show (n : Int) ≥ 0 by omega), if_pos (show 0 ≤ (n : Int) by omega), h3, if_pos (show (n : Int) < (E.length : Int) by omega), rdBn, rdE]
        exact hb
      cases hs : seen.getD n false with
      | true =>
        refine ⟨false, start _ ?_, ⟨fun h => absurd h (by decide), fun h => ?_⟩⟩
        · simp only [hs, if_true]; exact bad _
        · have := h.cnt n hn
          rw [hs, en] at this
          have h1 : one true = 1 := rfl
          have h2 : one (lv E n) ≤ 1 := by unfold one; split <;> omega
          omega
      | false =>
        cases hl : lv E n with
        | false =>
          refine ⟨false, start _ ?_, ⟨fun h => absurd h (by decide), fun h => ?_⟩⟩
          · simp only [hs, hl, Bool.false_eq_true, if_false, Bool.not_false]; exact bad _
          · have := h.cnt n hn
            rw [hl, en] at this
            have h1 : one false = 0 := rfl
            omega
        | true =>
          obtain ⟨b, hb, hb'⟩ := ih (i + 1) (seen.set n true) dr (by omega) (by omega) (by rw [List.length_set]; exact h3) (by omega) (by omega)
          refine ⟨b, start b ?_, hb'.trans ?_⟩
          · simp only [hs, hl, Bool.false_eq_true, if_false, Bool.not_true]
            refine Ev.step (fun k => spec_validSlots.j2.eq_2 ..) ?_
            simp only [Bool.false_eq_true, if_false, if_pos (show (n : Int) ≥ 0 by omega), if_pos (show 0 ≤ (n : Int) by omega), h3, if_pos (show (n : Int) < (E.length : Int) by omega), Int.toNat_natCast, hw]
            exact hb
          · have hc : ∀ j, j < E.length → (one ((seen.set n true).getD j false) + (I.drop (i + 1)).count (j : Int) = one (seen.getD j false) + (I.drop i).count (j : Int)) := by
              intro j hj
              rw [getD_set seen n j true false (by omega)]
              by_cases q : j = n
              · subst q
                rw [if_pos rfl, hs, en]
                have h1 : one true = 1 := rfl
                have h2 : one false = 0 := rfl
                omega
              · rw [if_neg q, ej j q]
            constructor
            · intro h
              refine ⟨fun y hy => ?_, fun j hj => by rw [← hc j hj]; exact h.cnt j hj, by rw [e2]; exact h.dr⟩
              rw [hd] at hy
              rcases List.mem_cons.1 hy with q | q
              · rw [q]; omega
              · exact h.rng y q
            · intro h
              exact ⟨fun y hy => h.rng y (by rw [hd]; exact List.mem_cons_of_mem _ hy), fun j hj => by rw [hc j hj]; exact h.cnt j hj, by have := h.dr; rw [e2] at this; exact this⟩
theorem spec_slots (I : List Int) (E : List S38) (hI : I.length ≤ 1000) (hE : E.length ≤ 1000000) : ∃ b, Ev (fun k => spec_validSlots.f k I E) b ∧ (b = true ↔ SlotsS I E 0 (List.replicate E.length false) 0) := by
  obtain ⟨b, h1, h2⟩ := spec_slots_l I E hI hE _ 0 (List.replicate E.length false) 0 rfl (Nat.zero_le _) (by simp) (Int.le_refl _) (Int.le_refl _)
  refine ⟨b, ?_, h2⟩
  unfold spec_validSlots.f
  simp only [if_pos (show (0 : Int) ≤ (E.length : Int) by omega), Int.toNat_natCast, if_pos (show E.length ≤ 281474976710656 by omega)]
  exact h1
end Go.Proofs.Ythocdlaajncmpaa.DI
