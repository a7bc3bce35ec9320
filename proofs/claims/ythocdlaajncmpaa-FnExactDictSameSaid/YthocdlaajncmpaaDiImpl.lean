/- Valid slots and entries, as the program asks. -/
import Derived.Test.YthocdlaajncmpaaDiSlots
import Derived.Test.YthocdlaajncmpaaQ0
import Derived.Test.YthocdlaajncmpaaQ7
set_option linter.unusedSimpArgs false
set_option linter.unusedVariables false
namespace Go.Proofs.Ythocdlaajncmpaa.DI
open Go.RowKit Go.Proofs.Ythocdlaajncmpaa.Q Go.Proofs.YthocdlaajncmpaaW.PrintWords

def entOk (e : S38) : Bool := if e.f3 = true then decide (e.f0.size ≤ 20) && (decide (e.f1 = hashP e.f0) && decide (-1000000 ≤ e.f2 ∧ e.f2 ≤ 1000000)) else (decide (e.f0.toList = []) && (decide (e.f1 = 0) && decide (e.f2 = 0)))
def InOk (E : List S38) (x : Int) : Prop := x = -2 ∨ x = -1 ∨ ∃ n : Nat, x = n ∧ n < E.length ∧ lv E n = true
structure SlotsI (I : List Int) (E : List S38) (i : Nat) (cnt : List Int) (dr : Int) : Prop where
  rng : ∀ x ∈ I.drop i, InOk E x
  dr : dr + ((I.drop i).count (-2) : Nat) = (E.length : Int) - (live E : Nat)
  ent : ∀ j, j < E.length → entOk (E.getD j z38) = true
  cnt : ∀ j, j < E.length → lv E j = true → cnt.getD j 0 + ((I.drop i).count (j : Int) : Nat) = 1
theorem beq_l (a : List UInt8) : (a == ([] : List UInt8)) = decide (a = []) := by cases a <;> simp
theorem zero_eq (e : S38) (h : e.f3 = false) : (!((e.f0.toList) == ([] : List UInt8)) || (!(e.f1 == 0) || (!(e.f2 == 0) || e.f3))) = !entOk e := by
  unfold entOk
  rw [h, if_neg (by decide), beq_l]
  rw [show (e.f1 == 0) = decide (e.f1 = 0) from rfl, show (e.f2 == 0) = decide (e.f2 = 0) from rfl]
  cases decide (e.f0.toList = []) <;> cases decide (e.f1 = 0) <;> cases decide (e.f2 = 0) <;> rfl
theorem impl_ents (I : List Int) (E : List S38) (hE : E.length ≤ 1000000) (cnt : List Int) (hc : cnt.length = E.length) (B : Bool)
    (hB : (∀ j, j < E.length → entOk (E.getD j z38) = true) → (∀ j, j < E.length → lv E j = true → cnt.getD j 0 = 1) → Ev (fun k => impl_DictOk.l2 k E (E.length : Int) 0 I E) B) :
    ∃ b, Ev (fun k => impl_DictOk.l1 k cnt E (E.length : Int) 0 I E) b ∧ (b = true ↔ ((∀ j, j < E.length → entOk (E.getD j z38) = true) ∧ (∀ j, j < E.length → lv E j = true → cnt.getD j 0 = 1)) ∧ B = true) := by
  refine ⟨decide (∀ j, j < E.length → (entOk (E.getD j z38) && (!lv E j || decide (cnt.getD j 0 = 1))) = true) && B, ?_, ?_⟩
  · refine allLoop (F := fun k j => impl_DictOk.l1 k cnt E (E.length : Int) j I E) (n := E.length) (c := fun j => entOk (E.getD j z38) && (!lv E j || decide (cnt.getD j 0 = 1))) (B := B) ?_ ?_ ?_
    · intro j hj hcj r hr
      refine Ev.step (fun k => impl_DictOk.l1.eq_2 ..) ?_
      simp only [hc, if_pos (show (j : Int) < (E.length : Int) by omega), if_pos (show (0 : Int) ≤ j by omega), rdE, rdN, wnext hj (show E.length ≤ maxLen by unfold maxLen; omega)]
      rw [Bool.and_eq_true] at hcj
      obtain ⟨c1, c2⟩ := hcj
      unfold lv at c2
      generalize E.getD j z38 = e at *
      cases hf : e.f3 with
      | true =>
        rw [hf, Bool.not_true, Bool.false_or, decide_eq_true_eq] at c2
        unfold entOk at c1
        rw [if_pos hf, Bool.and_eq_true, Bool.and_eq_true, decide_eq_true_eq, decide_eq_true_eq] at c1
        simp only [if_true, if_pos c2, if_neg (show ¬ (e.f0.size : Int) > 20 by omega)]
        refine Ev.bind (impl_hash e.f0 c1.1) ?_
        simp only [if_pos c1.2.1, within_eq, Option.bind, c1.2.2, Bool.not_true]
        refine Ev.step (fun k => impl_DictOk.j4.eq_2 ..) ?_
        simp only [Bool.false_eq_true, if_false, wnext hj (show E.length ≤ maxLen by unfold maxLen; omega)]
        exact hr
      | false =>
        have z := zero_eq e hf
        rw [c1, hf] at z
        simp only [Bool.false_eq_true, if_false, z, Bool.not_true]
        exact hr
    · intro j hj hcj
      refine Ev.step (fun k => impl_DictOk.l1.eq_2 ..) ?_
      have bad : Ev (fun k => impl_DictOk.j4 k cnt E (E.length : Int) (j : Int) true I E) false := by
        refine Ev.step (fun k => impl_DictOk.j4.eq_2 ..) ?_
        simp only [if_true]
        exact Ev.now _
      simp only [hc, if_pos (show (j : Int) < (E.length : Int) by omega), if_pos (show (0 : Int) ≤ j by omega), rdE, rdN]
      unfold lv at hcj
      generalize E.getD j z38 = e at *
      cases hf : e.f3 with
      | true =>
        simp only [if_true]
        by_cases h1 : cnt.getD j 0 = 1
        · simp only [if_pos h1]
          by_cases h2 : (e.f0.size : Int) > 20
          · simp only [if_pos h2]; exact bad
          · simp only [if_neg h2]
            refine Ev.bind (impl_hash e.f0 (by omega)) ?_
            by_cases h3 : e.f1 = hashP e.f0
            · simp only [if_pos h3, within_eq, Option.bind]
              have : decide (-1000000 ≤ e.f2 ∧ e.f2 ≤ 1000000) = false := by
                unfold entOk at hcj
                rw [if_pos hf, decide_eq_true h3, decide_eq_true (show e.f0.size ≤ 20 by omega), hf, decide_eq_true h1] at hcj
                simpa using hcj
              rw [this]
              exact bad
            · simp only [if_neg h3]; exact bad
        · simp only [if_neg h1]; exact bad
      | false =>
        rw [hf, Bool.not_false, Bool.true_or, Bool.and_true] at hcj
        have z := zero_eq e hf
        rw [hcj, hf] at z
        simp only [Bool.false_eq_true, if_false, z, Bool.not_false, if_true]
        exact Ev.now _
    · intro h
      refine Ev.step (fun k => impl_DictOk.l1.eq_2 ..) ?_
      simp only [Int.lt_irrefl, if_false]
      refine hB (fun j hj => ?_) (fun j hj hl => ?_)
      · have := h j hj
        rw [Bool.and_eq_true] at this
        exact this.1
      · have := h j hj
        rw [Bool.and_eq_true, hl, Bool.not_true, Bool.false_or, decide_eq_true_eq] at this
        exact this.2
  · rw [Bool.and_eq_true, decide_eq_true_eq]
    constructor
    · rintro ⟨h, hb⟩
      refine ⟨⟨fun j hj => ?_, fun j hj hl => ?_⟩, hb⟩
      · have := h j hj
        rw [Bool.and_eq_true] at this
        exact this.1
      · have := h j hj
        rw [Bool.and_eq_true, hl, Bool.not_true, Bool.false_or, decide_eq_true_eq] at this
        exact this.2
    · rintro ⟨⟨h1, h2⟩, hb⟩
      refine ⟨fun j hj => ?_, hb⟩
      rw [h1 j hj, Bool.true_and]
      cases hl : lv E j with
      | false => rfl
      | true => rw [Bool.not_true, Bool.false_or, decide_eq_true (h2 j hj hl)]
theorem impl_slots_l (I : List Int) (E : List S38) (hI : I.length ≤ 1000) (hE : E.length ≤ 1000000) (B : Bool) : ∀ (d i : Nat) (cnt : List Int) (dr : Int), I.length - i = d → i ≤ I.length → cnt.length = E.length → 0 ≤ dr → dr ≤ i → (∀ j, 0 ≤ cnt.getD j 0 ∧ cnt.getD j 0 ≤ i) →
    (SlotsI I E i cnt dr → Ev (fun k => impl_DictOk.l2 k E (E.length : Int) 0 I E) B) →
    ∃ b, Ev (fun k => impl_DictOk.l0 k cnt dr I (I.length : Int) (i : Int) I E) b ∧ (b = true ↔ SlotsI I E i cnt dr ∧ B = true) := by
  intro d
  induction d with
  | zero =>
    intro i cnt dr h1 h2 h3 h4 h5 h6 hB
    obtain rfl : i = I.length := by omega
    have body : ∀ b, Ev (fun k => if dr = (E.length : Int) - (live E : Nat) then (impl_DictOk.l1 k cnt E (E.length : Int) 0 I E) else (some false)) b → Ev (fun k => impl_DictOk.l0 k cnt dr I (I.length : Int) (I.length : Int) I E) b := by
      intro b hb
      refine Ev.step (fun k => impl_DictOk.l0.eq_2 ..) ?_
      simp only [Int.lt_irrefl, if_false]
      refine Ev.bind (impl_live I E hE) ?_
      rw [wlive E hE]
      exact hb
    by_cases hd : dr = (E.length : Int) - (live E : Nat)
    · have mk : (∀ j, j < E.length → entOk (E.getD j z38) = true) → (∀ j, j < E.length → lv E j = true → cnt.getD j 0 = 1) → SlotsI I E I.length cnt dr := fun a b =>
        ⟨by rw [List.drop_length]; simp, by rw [List.drop_length]; simpa using hd, a, fun j hj hl => by rw [List.drop_length, b j hj hl]; simp⟩
      obtain ⟨b, hb, hb'⟩ := impl_ents I E hE cnt h3 B (fun a b => hB (mk a b))
      refine ⟨b, body b ?_, hb'.trans ?_⟩
      · simp only [if_pos hd]; exact hb
      · constructor
        · rintro ⟨⟨a, b⟩, c⟩; exact ⟨mk a b, c⟩
        · rintro ⟨h, c⟩
          refine ⟨⟨h.ent, fun j hj hl => ?_⟩, c⟩
          have := h.cnt j hj hl
          rw [List.drop_length] at this
          simpa using this
    · refine ⟨false, body _ ?_, ⟨fun h => absurd h (by decide), fun h => ?_⟩⟩
      · simp only [if_neg hd]; exact Ev.now _
      · have := h.1.dr
        rw [List.drop_length] at this
        exact absurd (by simpa using this) hd
  | succ d ih =>
    intro i cnt dr h1 h2 h3 h4 h5 h6 hB
    have hi : i < I.length := by omega
    have hd := drop_getD I 0 hi
    generalize hx : I.getD i 0 = x at hd
    have hw := wnext hi (show I.length ≤ maxLen by unfold maxLen; omega)
    have body : ∀ b, Ev (fun k => if x = (-2) then (impl_DictOk.l0 k cnt (wrap64 (dr + 1)) I (I.length : Int) ((i + 1 : Nat) : Int) I E) else (if x = (-1) then (impl_DictOk.l0 k cnt dr I (I.length : Int) ((i + 1 : Nat) : Int) I E) else (if x < 0 then (impl_DictOk.j2 k cnt dr x I (I.length : Int) (i : Int) true I E) else (if x ≥ (E.length : Int) then (impl_DictOk.j2 k cnt dr x I (I.length : Int) (i : Int) true I E) else (if 0 ≤ x then (if x < (E.length : Int) then (impl_DictOk.j2 k cnt dr x I (I.length : Int) (i : Int) (!((rd_T38 E x).f3)) I E) else (none)) else (none)))))) b → Ev (fun k => impl_DictOk.l0 k cnt dr I (I.length : Int) (i : Int) I E) b := by
      intro b hb
      refine Ev.step (fun k => impl_DictOk.l0.eq_2 ..) ?_
      simp only [if_pos (show (i : Int) < (I.length : Int) by omega), if_pos (show (0 : Int) ≤ i by omega), rdN, hx, hw]
      exact hb
    have bad : Ev (fun k => impl_DictOk.j2 k cnt dr x I (I.length : Int) (i : Int) true I E) false := by
      refine Ev.step (fun k => impl_DictOk.j2.eq_2 ..) ?_
      simp only [if_true]
      exact Ev.now _
    have up : ∀ j, 0 ≤ cnt.getD j 0 ∧ cnt.getD j 0 ≤ ((i + 1 : Nat) : Int) := fun j => by have := h6 j; omega
    by_cases hA : x = -2
    · subst hA
      have e2 : (I.drop i).count (-2) = (I.drop (i + 1)).count (-2) + 1 := by rw [hd, List.count_cons_self]
      have ej : ∀ j : Nat, (I.drop i).count (j : Int) = (I.drop (i + 1)).count (j : Int) := fun j => by rw [hd, List.count_cons_of_ne (by omega)]
      have iff_ : SlotsI I E (i + 1) cnt (dr + 1) ↔ SlotsI I E i cnt dr := by
        constructor
        · intro h
          refine ⟨fun y hy => ?_, by rw [e2]; have := h.dr; omega, h.ent, fun j hj hl => by rw [ej]; exact h.cnt j hj hl⟩
          rw [hd] at hy
          rcases List.mem_cons.1 hy with q | q
          · exact .inl q
          · exact h.rng y q
        · intro h
          exact ⟨fun y hy => h.rng y (by rw [hd]; exact List.mem_cons_of_mem _ hy), by have := h.dr; rw [e2] at this; omega, h.ent, fun j hj hl => by rw [← ej]; exact h.cnt j hj hl⟩
      obtain ⟨b, hb, hb'⟩ := ih (i + 1) cnt (dr + 1) (by omega) (by omega) h3 (by omega) (by omega) up (fun h => hB (iff_.1 h))
      refine ⟨b, body b ?_, hb'.trans (and_congr iff_ Iff.rfl)⟩
      simp only [if_true, w64 (x := dr + 1) (by omega) (by omega)]
      exact hb
    by_cases hA1 : x = -1
    · subst hA1
      have e2 : (I.drop i).count (-2) = (I.drop (i + 1)).count (-2) := by rw [hd, List.count_cons_of_ne (by omega)]
      have ej : ∀ j : Nat, (I.drop i).count (j : Int) = (I.drop (i + 1)).count (j : Int) := fun j => by rw [hd, List.count_cons_of_ne (by omega)]
      have iff_ : SlotsI I E (i + 1) cnt dr ↔ SlotsI I E i cnt dr := by
        constructor
        · intro h
          refine ⟨fun y hy => ?_, by rw [e2]; exact h.dr, h.ent, fun j hj hl => by rw [ej]; exact h.cnt j hj hl⟩
          rw [hd] at hy
          rcases List.mem_cons.1 hy with q | q
          · exact .inr (.inl q)
          · exact h.rng y q
        · intro h
          exact ⟨fun y hy => h.rng y (by rw [hd]; exact List.mem_cons_of_mem _ hy), by have := h.dr; rw [e2] at this; exact this, h.ent, fun j hj hl => by rw [← ej]; exact h.cnt j hj hl⟩
      obtain ⟨b, hb, hb'⟩ := ih (i + 1) cnt dr (by omega) (by omega) h3 (by omega) (by omega) up (fun h => hB (iff_.1 h))
      refine ⟨b, body b ?_, hb'.trans (and_congr iff_ Iff.rfl)⟩
      simp only [if_neg hA, if_true]
      exact hb
    have no : ¬ InOk E x → ∃ b, (b = true ↔ SlotsI I E i cnt dr ∧ B = true) ∧ b = false := fun h => ⟨false, ⟨fun q => absurd q (by decide), fun q => absurd (q.1.rng x (by rw [hd]; exact List.mem_cons_self ..)) h⟩, rfl⟩
    by_cases hC : x < 0 ∨ x ≥ (E.length : Int)
    · obtain ⟨b, hb, rfl⟩ := no (by rintro (q | q | ⟨n, q, q1, q2⟩) <;> omega)
      refine ⟨false, body _ ?_, hb⟩
      simp only [if_neg hA, if_neg hA1]
      by_cases g : x < 0
      · simp only [if_pos g]; exact bad
      · simp only [if_neg g, if_pos (show x ≥ (E.length : Int) by omega)]; exact bad
    obtain ⟨n, rfl⟩ : ∃ n : Nat, x = (n : Int) := ⟨x.toNat, by omega⟩
    have hn : n < E.length := by omega
    have start : ∀ b, Ev (fun k => impl_DictOk.j2 k cnt dr (n : Int) I (I.length : Int) (i : Int) (!(lv E n)) I E) b → Ev (fun k => impl_DictOk.l0 k cnt dr I (I.length : Int) (i : Int) I E) b := by
      intro b hb
      refine body b ?_
      simp only [if_neg hA, if_neg hA1, if_neg (show ¬ (n : Int) < 0 by omega), if_neg (show ¬ (n : Int) ≥ (E.length : Int) by omega), if_pos (show 0 ≤ (n : Int) by omega), if_pos (show (n : Int) < (E.length : Int) by omega), rdE]
      exact hb
    cases hl : lv E n with
    | false =>
      obtain ⟨b, hb, rfl⟩ := no (by rintro (q | q | ⟨n', q, q1, q2⟩); omega; omega; obtain rfl : n = n' := by omega
                                    rw [hl] at q2; cases q2)
      refine ⟨false, start _ ?_, hb⟩
      rw [hl]; exact bad
    | true =>
      have e2 : (I.drop i).count (-2) = (I.drop (i + 1)).count (-2) := by rw [hd, List.count_cons_of_ne (by omega)]
      have en : (I.drop i).count (n : Int) = (I.drop (i + 1)).count (n : Int) + 1 := by rw [hd, List.count_cons_self]
      have ej : ∀ j : Nat, j ≠ n → (I.drop i).count (j : Int) = (I.drop (i + 1)).count (j : Int) := fun j hj => by rw [hd, List.count_cons_of_ne (by omega)]
      have gs : ∀ j, (cnt.set n (cnt.getD n 0 + 1)).getD j 0 = if j = n then cnt.getD n 0 + 1 else cnt.getD j 0 := fun j => getD_set cnt n j _ 0 (by omega)
      have hc : ∀ j : Nat, (cnt.set n (cnt.getD n 0 + 1)).getD j 0 + ((I.drop (i + 1)).count (j : Int) : Nat) = cnt.getD j 0 + ((I.drop i).count (j : Int) : Nat) := by
        intro j
        rw [gs j]
        by_cases q : j = n
        · subst q; rw [if_pos rfl, en]; omega
        · rw [if_neg q, ej j q]
      have iff_ : SlotsI I E (i + 1) (cnt.set n (cnt.getD n 0 + 1)) dr ↔ SlotsI I E i cnt dr := by
        constructor
        · intro h
          refine ⟨fun y hy => ?_, by rw [e2]; exact h.dr, h.ent, fun j hj hl => by rw [← hc j]; exact h.cnt j hj hl⟩
          rw [hd] at hy
          rcases List.mem_cons.1 hy with q | q
          · exact .inr (.inr ⟨n, q, hn, hl⟩)
          · exact h.rng y q
        · intro h
          exact ⟨fun y hy => h.rng y (by rw [hd]; exact List.mem_cons_of_mem _ hy), by have := h.dr; rw [e2] at this; exact this, h.ent, fun j hj hl => by rw [hc j]; exact h.cnt j hj hl⟩
      have h6n := h6 n
      obtain ⟨b, hb, hb'⟩ := ih (i + 1) (cnt.set n (cnt.getD n 0 + 1)) dr (by omega) (by omega) (by rw [List.length_set]; exact h3) (by omega) (by omega) (fun j => by rw [gs j]; have := h6 j; split <;> omega) (fun h => hB (iff_.1 h))
      refine ⟨b, start b ?_, hb'.trans (and_congr iff_ Iff.rfl)⟩
      rw [hl]
      refine Ev.step (fun k => impl_DictOk.j2.eq_2 ..) ?_
      simp only [Bool.not_true, Bool.false_eq_true, if_false, if_pos (show 0 ≤ (n : Int) by omega), h3, if_pos (show (n : Int) < (E.length : Int) by omega), Int.toNat_natCast, rdN, hw]
      rw [w64 (x := cnt.getD n 0 + 1) (by omega) (by omega)]
      exact hb
end Go.Proofs.Ythocdlaajncmpaa.DI
