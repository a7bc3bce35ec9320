/- Valid dictionaries: the reference and the program agree. -/
import Derived.Test.YthocdlaajncmpaaDiImpl
import Derived.Test.YthocdlaajncmpaaQ0
import Derived.Test.YthocdlaajncmpaaQ2
import Derived.Test.YthocdlaajncmpaaQ4
import Derived.Test.YthocdlaajncmpaaQ6
import Derived.Test.YthocdlaajncmpaaQ7
set_option linter.unusedSimpArgs false
set_option linter.unusedVariables false
namespace Go.Proofs.Ythocdlaajncmpaa.DI
open Go.RowKit Go.Proofs.Ythocdlaajncmpaa.Q Go.Proofs.YthocdlaajncmpaaW.PrintWords

theorem contains_ev (l : List Int) (a : Int) (hl : l.length ≤ maxLen) : Ev (fun k => slices_Contains_int_int.f k l a) (decide (a ∈ l)) := by
  have key : ∀ d i, l.length - i = d → i ≤ l.length → ∃ v : Int, Ev (fun k => slices_Index_int_int.l0 k l a (l.length : Int) (i : Int)) v ∧ (v ≥ 0 ↔ a ∈ l.drop i) := by
    intro d
    induction d with
    | zero =>
      intro i h1 h2
      obtain rfl : i = l.length := by omega
      refine ⟨-1, Ev.step (fun k => slices_Index_int_int.l0.eq_2 ..) ?_, by rw [List.drop_length]; simp⟩
      simp only [Int.lt_irrefl, if_false]
      exact Ev.now _
    | succ d ih =>
      intro i h1 h2
      have hi : i < l.length := by omega
      obtain ⟨v, hv, hv'⟩ := ih (i + 1) (by omega) (by omega)
      have body : ∀ v, Ev (fun k => if a = l.getD i 0 then some (i : Int) else slices_Index_int_int.l0 k l a (l.length : Int) ((i + 1 : Nat) : Int)) v → Ev (fun k => slices_Index_int_int.l0 k l a (l.length : Int) (i : Int)) v := by
        intro v hv
        refine Ev.step (fun k => slices_Index_int_int.l0.eq_2 ..) ?_
        simp only [if_pos (show (i : Int) < (l.length : Int) by omega), if_pos (show (0 : Int) ≤ i by omega), rdN, wnext hi hl]
        exact hv
      rw [drop_getD l 0 hi]
      by_cases h : a = l.getD i 0
      · refine ⟨i, body _ ?_, ?_⟩
        · simp only [if_pos h]; exact Ev.now _
        · rw [← h]; simp
      · refine ⟨v, body _ ?_, hv'.trans ?_⟩
        · simp only [if_neg h]; exact hv
        · rw [List.mem_cons]
          exact ⟨.inr, fun q => q.resolve_left h⟩
  obtain ⟨v, h1, h2⟩ := key _ 0 rfl (Nat.zero_le _)
  unfold slices_Contains_int_int.f
  refine Ev.bind (g := fun k => slices_Index_int_int.f k l a) h1 ?_
  have : decide (a ∈ l) = decide (v ≥ 0) := by rw [Bool.eq_iff_iff, decide_eq_true_eq, decide_eq_true_eq, h2, List.drop_zero]
  rw [this]
  exact Ev.now _
theorem last_ok {L : List Int} (h : L ≠ []) (hl : L.length ≤ 1000) : 0 ≤ wrap64 ((L.length : Int) - 1) ∧ wrap64 ((L.length : Int) - 1) < (L.length : Int) ∧ rd L (wrap64 ((L.length : Int) - 1)) = L.getD (L.length - 1) 0 := by
  have : 0 < L.length := List.length_pos_iff.2 h
  rw [w64 (by omega) (by omega)]
  refine ⟨by omega, by omega, ?_⟩
  rw [show (L.length : Int) - 1 = ((L.length - 1 : Nat) : Int) by omega, rdN]
theorem slot_ex (I : List Int) (E : List S38) (hG : Good I E) (key : ByteArray) (hk : key.size ≤ 20) : ∃ (L : List Int) (s : Nat), s < I.length ∧ Stop I E key s ∧ Ev (fun k => spec_probesOf.f k I E key) L ∧ Ev (fun k => impl_Dict_probe.f k I E key) L ∧ Ev (fun k => spec_slotOf.f k I E key) (s : Int) ∧ L.length ≤ 1000 ∧ (∀ x ∈ L, 0 ≤ x ∧ x < (I.length : Int)) ∧
    (0 ≤ wrap64 ((L.length : Int) - 1) ∧ wrap64 ((L.length : Int) - 1) < (L.length : Int) ∧ rd L (wrap64 ((L.length : Int) - 1)) = (s : Int)) := by
  obtain ⟨L, h1, h2, h3, h4, h5, h6⟩ := probe_ex I E hG key hk
  obtain ⟨g0, g1, g2⟩ := last_ok h1 h4
  have hp : 0 < L.length := List.length_pos_iff.2 h1
  obtain ⟨r0, r1⟩ := h2 _ (getD_mem' L 0 (show L.length - 1 < L.length by omega))
  obtain ⟨s, hs⟩ : ∃ s : Nat, L.getD (L.length - 1) 0 = (s : Int) := ⟨(L.getD (L.length - 1) 0).toNat, by omega⟩
  rw [hs] at h3 g2
  rw [Int.toNat_natCast] at h3
  refine ⟨L, s, by omega, h3, h5, h6, ?_, h4, h2, g0, g1, g2⟩
  unfold spec_slotOf.f
  refine Ev.bind h5 ?_
  simp only [if_pos g0, if_pos g1, g2]
  exact Ev.now _
theorem probes_loop (I : List Int) (E : List S38) (hG : Good I E) (hE : E.length ≤ 1000000) (hk : ∀ j, j < E.length → lv E j = true → (E.getD j z38).f0.size ≤ 20) :
    ∃ B, Ev (fun k => spec_validDict.l1 k 0 I E) B ∧ Ev (fun k => impl_DictOk.l2 k E (E.length : Int) 0 I E) B := by
  have ex : ∀ j : Nat, ∃ p : List Int × Nat, j < E.length → lv E j = true → p.2 < I.length ∧ Ev (fun k => impl_Dict_probe.f k I E (E.getD j z38).f0) p.1 ∧ Ev (fun k => spec_slotOf.f k I E (E.getD j z38).f0) (p.2 : Int) ∧
      (0 ≤ wrap64 ((p.1.length : Int) - 1) ∧ wrap64 ((p.1.length : Int) - 1) < (p.1.length : Int) ∧ rd p.1 (wrap64 ((p.1.length : Int) - 1)) = (p.2 : Int)) := by
    intro j
    by_cases h : j < E.length ∧ lv E j = true
    · obtain ⟨L, s, h1, -, -, h2, h3, -, -, h4⟩ := slot_ex I E hG _ (hk j h.1 h.2)
      exact ⟨(L, s), fun _ _ => ⟨h1, h2, h3, h4⟩⟩
    · exact ⟨([], 0), fun a b => absurd ⟨a, b⟩ h⟩
  obtain ⟨f, hf⟩ := Classical.axiomOfChoice ex
  have hm : E.length ≤ maxLen := by unfold maxLen; omega
  refine ⟨decide (∀ j, j < E.length → (!lv E j || decide (I.getD (f j).2 0 = (j : Int))) = true) && true, ?_, ?_⟩
  · refine allLoop (F := fun k i => spec_validDict.l1 k i I E) (n := E.length) (c := fun j => !lv E j || decide (I.getD (f j).2 0 = (j : Int))) (B := true) ?_ ?_ ?_
    · intro j hj hc r hr
      refine Ev.step (fun k => spec_validDict.l1.eq_2 ..) ?_
      simp only [if_pos (show (j : Int) < (E.length : Int) by omega), if_pos (show (0 : Int) ≤ j by omega), rdE, wnext hj hm]
      cases hl : lv E j with
      | false =>
        simp only [show (E.getD j z38).f3 = false from hl, Bool.false_eq_true, if_false]
        exact hr
      | true =>
        obtain ⟨q1, q2, q3, q4⟩ := hf j hj hl
        rw [hl, Bool.not_true, Bool.false_or, decide_eq_true_eq] at hc
        simp only [show (E.getD j z38).f3 = true from hl, if_true]
        refine Ev.bind q3 ?_
        simp only [if_pos (show (0 : Int) ≤ ((f j).2 : Int) by omega), if_pos (show ((f j).2 : Int) < (I.length : Int) by omega), rdN, if_pos hc]
        exact hr
    · intro j hj hc
      refine Ev.step (fun k => spec_validDict.l1.eq_2 ..) ?_
      simp only [if_pos (show (j : Int) < (E.length : Int) by omega), if_pos (show (0 : Int) ≤ j by omega), rdE]
      cases hl : lv E j with
      | false => rw [hl] at hc; exact absurd hc (by simp)
      | true =>
        obtain ⟨q1, q2, q3, q4⟩ := hf j hj hl
        rw [hl, Bool.not_true, Bool.false_or, decide_eq_false_iff_not] at hc
        simp only [show (E.getD j z38).f3 = true from hl, if_true]
        refine Ev.bind q3 ?_
        simp only [if_pos (show (0 : Int) ≤ ((f j).2 : Int) by omega), if_pos (show ((f j).2 : Int) < (I.length : Int) by omega), rdN, if_neg hc]
        exact Ev.now _
    · intro _
      refine Ev.step (fun k => spec_validDict.l1.eq_2 ..) ?_
      simp only [Int.lt_irrefl, if_false]
      exact Ev.now _
  · refine allLoop (F := fun k i => impl_DictOk.l2 k E (E.length : Int) i I E) (n := E.length) (c := fun j => !lv E j || decide (I.getD (f j).2 0 = (j : Int))) (B := true) ?_ ?_ ?_
    · intro j hj hc r hr
      refine Ev.step (fun k => impl_DictOk.l2.eq_2 ..) ?_
      simp only [if_pos (show (j : Int) < (E.length : Int) by omega), if_pos (show (0 : Int) ≤ j by omega), rdE, wnext hj hm]
      cases hl : lv E j with
      | false =>
        simp only [show (E.getD j z38).f3 = false from hl, Bool.false_eq_true, if_false]
        exact hr
      | true =>
        obtain ⟨q1, q2, q3, q4, q5, q6⟩ := hf j hj hl
        rw [hl, Bool.not_true, Bool.false_or, decide_eq_true_eq] at hc
        simp only [show (E.getD j z38).f3 = true from hl, if_true]
        refine Ev.bind q2 ?_
        simp only [if_pos q4, if_pos q5, q6, if_pos (show (0 : Int) ≤ ((f j).2 : Int) by omega), if_pos (show ((f j).2 : Int) < (I.length : Int) by omega), rdN, if_pos hc]
        exact hr
    · intro j hj hc
      refine Ev.step (fun k => impl_DictOk.l2.eq_2 ..) ?_
      simp only [if_pos (show (j : Int) < (E.length : Int) by omega), if_pos (show (0 : Int) ≤ j by omega), rdE]
      cases hl : lv E j with
      | false => rw [hl] at hc; exact absurd hc (by simp)
      | true =>
        obtain ⟨q1, q2, q3, q4, q5, q6⟩ := hf j hj hl
        rw [hl, Bool.not_true, Bool.false_or, decide_eq_false_iff_not] at hc
        simp only [show (E.getD j z38).f3 = true from hl, if_true]
        refine Ev.bind q2 ?_
        simp only [if_pos q4, if_pos q5, q6, if_pos (show (0 : Int) ≤ ((f j).2 : Int) by omega), if_pos (show ((f j).2 : Int) < (I.length : Int) by omega), rdN, if_neg hc]
        exact Ev.now _
    · intro _
      refine Ev.step (fun k => impl_DictOk.l2.eq_2 ..) ?_
      simp only [Int.lt_irrefl, if_false]
      exact Ev.now _
theorem rep_false (m j : Nat) : (List.replicate m false).getD j false = false := by
  rw [List.getD_eq_getElem?_getD, List.getElem?_replicate]; split <;> rfl
theorem rep_zero (m j : Nat) : (List.replicate m (0 : Int)).getD j 0 = 0 := by
  rw [List.getD_eq_getElem?_getD, List.getElem?_replicate]; split <;> rfl
theorem slots_iff (I : List Int) (E : List S38) : (SlotsS I E 0 (List.replicate E.length false) 0 ∧ ∀ j, j < E.length → entOk (E.getD j z38) = true) ↔ SlotsI I E 0 (List.replicate E.length 0) 0 := by
  constructor
  · rintro ⟨h, he⟩
    refine ⟨fun x hx => ?_, h.dr, he, fun j hj hl => ?_⟩
    · have hr := h.rng x hx
      by_cases h1 : x = -2
      · exact .inl h1
      by_cases h2 : x = -1
      · exact .inr (.inl h2)
      obtain ⟨n, rfl⟩ : ∃ n : Nat, x = (n : Int) := ⟨x.toNat, by omega⟩
      refine .inr (.inr ⟨n, rfl, by omega, ?_⟩)
      have := h.cnt n (by omega)
      have hc : 0 < (I.drop 0).count (n : Int) := List.count_pos_iff.2 hx
      rw [rep_false] at this
      cases hl : lv E n with
      | true => rfl
      | false =>
        rw [hl] at this
        have z : one false = 0 := rfl
        omega
    · have := h.cnt j hj
      rw [rep_false, hl] at this
      have z : one false = 0 := rfl
      have z1 : one true = 1 := rfl
      rw [rep_zero]
      omega
  · intro h
    refine ⟨⟨fun x hx => ?_, fun j hj => ?_, h.dr⟩, h.ent⟩
    · rcases h.rng x hx with q | q | ⟨n, q, q1, q2⟩ <;> omega
    · have z : one false = 0 := rfl
      have z1 : one true = 1 := rfl
      rw [rep_false]
      cases hl : lv E j with
      | true =>
        have := h.cnt j hj hl
        rw [rep_zero] at this
        omega
      | false =>
        have : (I.drop 0).count (j : Int) = 0 := List.count_eq_zero.2 fun hx => by
          rcases h.rng _ hx with q | q | ⟨n, q, q1, q2⟩
          · omega
          · omega
          · obtain rfl : j = n := by omega
            rw [hl] at q2; cases q2
        omega
theorem live_take (E : List S38) : ∀ m, m < E.length → live (E.take (m + 1)) = live (E.take m) + one (lv E m) := by
  intro m hm
  rw [List.take_add_one, List.getElem?_eq_getElem hm]
  unfold live
  rw [List.countP_append]
  unfold lv one
  rw [getD_get E z38 hm]
  simp [List.countP_cons]
theorem cover (I : List Int) (E : List S38) (h : ∀ j, j < E.length → I.count (j : Int) = one (lv E j)) : ∀ m, m ≤ E.length → I.countP (fun x => decide (0 ≤ x ∧ x < (m : Int))) = live (E.take m) := by
  have add : ∀ (m : Nat) (l : List Int), l.countP (fun x => decide (0 ≤ x ∧ x < ((m + 1 : Nat) : Int))) = l.countP (fun x => decide (0 ≤ x ∧ x < (m : Int))) + l.count (m : Int) := by
    intro m l
    induction l with
    | nil => rfl
    | cons x l ih =>
      rw [List.countP_cons, List.countP_cons, List.count_cons, ih]
      by_cases h1 : x = (m : Int)
      · subst h1
        rw [decide_eq_true (show 0 ≤ (m : Int) ∧ (m : Int) < ((m + 1 : Nat) : Int) by omega), decide_eq_false (show ¬ (0 ≤ (m : Int) ∧ (m : Int) < (m : Int)) by omega)]
        simp
        omega
      · have e : decide (0 ≤ x ∧ x < ((m + 1 : Nat) : Int)) = decide (0 ≤ x ∧ x < (m : Int)) := by rw [Bool.eq_iff_iff, decide_eq_true_eq, decide_eq_true_eq]; omega
        rw [e, if_neg (show ¬ (x == (m : Int)) = true by simpa using h1)]
        omega
  intro m
  induction m with
  | zero =>
    intro _
    rw [List.take_zero]
    show _ = 0
    rw [List.countP_eq_zero]
    intro x _
    rw [decide_eq_true_eq]
    omega
  | succ m ih =>
    intro hm
    rw [add, ih (by omega), h m (by omega), live_take E m (by omega)]
theorem split_len : ∀ (I : List Int) (m : Int), 0 ≤ m → (∀ x ∈ I, x = -2 ∨ (0 ≤ x ∧ x < m)) → I.length = I.countP (fun x => decide (0 ≤ x ∧ x < m)) + I.count (-2) := by
  intro I m hm
  induction I with
  | nil => intro _; rfl
  | cons x l ih =>
    intro h
    have := ih (fun y hy => h y (List.mem_cons_of_mem _ hy))
    rw [List.length_cons, List.countP_cons, List.count_cons, this]
    rcases h x (List.mem_cons_self ..) with q | q
    · subst q
      rw [decide_eq_false (show ¬ (0 ≤ (-2 : Int) ∧ (-2 : Int) < m) by omega)]
      simp
      omega
    · rw [decide_eq_true q, if_neg (show ¬ (x == (-2 : Int)) = true by simp; omega)]
      simp
      omega
theorem good_of (I : List Int) (E : List S38) (hs : I.length = 8 ∨ I.length = 16 ∨ I.length = 32 ∨ I.length = 64 ∨ I.length = 128) (hm : E.length < I.length) (h : SlotsS I E 0 (List.replicate E.length false) 0) : Good I E := by
  have hr : ∀ x ∈ I, -2 ≤ x ∧ x < (E.length : Int) := fun x hx => h.rng x hx
  refine ⟨hs, hr, ?_⟩
  have hcnt : ∀ j, j < E.length → I.count (j : Int) = one (lv E j) := fun j hj => by
    have := h.cnt j hj
    rw [rep_false] at this
    have z : one false = 0 := rfl
    rw [List.drop_zero] at this
    omega
  by_cases hx : (-1 : Int) ∈ I
  · obtain ⟨j, hj, he⟩ := List.getElem_of_mem hx
    exact ⟨j, hj, by rw [getD_get I 0 hj, he]⟩
  · exfalso
    have hl := split_len I E.length (by omega) (fun x hx' => by
      have := hr x hx'
      by_cases q : x = -2
      · exact .inl q
      · by_cases q1 : x = -1
        · subst q1; exact absurd hx' hx
        · exact .inr ⟨by omega, this.2⟩)
    have hc := cover I E hcnt E.length (Nat.le_refl _)
    rw [List.take_length] at hc
    have hd := h.dr
    rw [List.drop_zero] at hd
    have := live_le E
    omega
def sizeOk (n : Nat) : Prop := n = 8 ∨ n = 16 ∨ n = 32 ∨ n = 64 ∨ n = 128
instance (n : Nat) : Decidable (sizeOk n) := inferInstanceAs (Decidable (n = 8 ∨ n = 16 ∨ n = 32 ∨ n = 64 ∨ n = 128))
theorem third (n : Nat) (h : n ≤ 1048576) : wrap64 (Int.tdiv (wrap64 ((n : Int) * 2)) 3) = ((2 * n / 3 : Nat) : Int) := by
  rw [w64 (x := (n : Int) * 2) (by omega) (by omega), Int.tdiv_eq_ediv_of_nonneg (by omega), w64 (by omega) (by omega)]
  omega
/-- Both sides of DictOk, and what a valid dictionary is good for. -/
theorem dict_ok2 (I : List Int) (E : List S38) (hI : I.length ≤ 1048576) (hE : E.length ≤ 1000000 ∨ E.length ≤ 1048576) (hS : ∀ e ∈ E, e.f0.size ≤ maxLen) :
    ∃ b, Ev (fun k => spec_validDict.f k I E) b ∧ Ev (fun k => impl_DictOk.f k I E) b ∧ (b = true → Good I E ∧ ((∀ j, j < E.length → lv E j = true → (E.getD j z38).f0.size ≤ 20) ∧ (Ev (fun k => spec_liveEntries.f k I E) ((live E : Nat) : Int) ∧ Ev (fun k => impl_Dict_live.f k I E) ((live E : Nat) : Int)))) := by
  -- of a wrong size
  have sj1 : Ev (fun k => spec_validDict.j1 k true I E) false := Ev.step (fun k => spec_validDict.j1.eq_2 ..) (by simp only [if_true]; exact Ev.now _)
  have ij0 : Ev (fun k => impl_DictOk.j0 k true I E) false := Ev.step (fun k => impl_DictOk.j0.eq_2 ..) (by simp only [if_true]; exact Ev.now _)
  have imem : ∀ b, Ev (fun k => if decide (sizeOk I.length) = true then (if (E.length : Int) > (wrap64 (Int.tdiv (wrap64 (2 * (I.length : Int))) 3)) then (impl_DictOk.j0 k true I E) else ((impl_Dict_live.f k I E).bind fun t201 => (impl_DictOk.j0 k (decide (t201 > 40)) I E))) else (impl_DictOk.j0 k true I E)) b → Ev (fun k => impl_DictOk.f k I E) b := by
    intro b hb
    unfold impl_DictOk.f
    refine Ev.bind (contains_ev [8, 16, 32, 64, 128] (I.length : Int) (by decide)) ?_
    have : decide ((I.length : Int) ∈ ([8, 16, 32, 64, 128] : List Int)) = decide (sizeOk I.length) := by
      rw [Bool.eq_iff_iff, decide_eq_true_eq, decide_eq_true_eq]
      unfold sizeOk
      simp only [List.mem_cons, List.not_mem_nil, or_false]
      omega
    rw [this]
    exact hb
  have smem : ∀ b, Ev (fun k => spec_validDict.j0 k (I.length : Int) (!decide (sizeOk I.length)) I E) b → Ev (fun k => spec_validDict.f k I E) b := by
    intro b hb
    unfold spec_validDict.f
    by_cases h8 : (I.length : Int) = 8
    · simp only [if_pos h8]; rw [decide_eq_true (show sizeOk I.length by unfold sizeOk; omega)] at hb; exact hb
    simp only [if_neg h8]
    by_cases h16 : (I.length : Int) = 16
    · simp only [if_pos h16]; rw [decide_eq_true (show sizeOk I.length by unfold sizeOk; omega)] at hb; exact hb
    simp only [if_neg h16]
    by_cases h32 : (I.length : Int) = 32
    · simp only [if_pos h32]; rw [decide_eq_true (show sizeOk I.length by unfold sizeOk; omega)] at hb; exact hb
    simp only [if_neg h32]
    by_cases h64 : (I.length : Int) = 64
    · simp only [if_pos h64]; rw [decide_eq_true (show sizeOk I.length by unfold sizeOk; omega)] at hb; exact hb
    simp only [if_neg h64]
    have : ((I.length : Int) != 128) = !decide (sizeOk I.length) := by
      rw [Bool.eq_iff_iff, bne_iff_ne, Bool.not_eq_true', decide_eq_false_iff_not]
      unfold sizeOk
      omega
    rw [this]
    exact hb
  rcases Classical.em (¬ sizeOk I.length) with hsz | hsz
  · refine ⟨false, smem _ ?_, imem _ ?_, fun h => absurd h (by decide)⟩
    · rw [decide_eq_false hsz]
      refine Ev.step (fun k => spec_validDict.j0.eq_2 ..) ?_
      simp only [Bool.not_false, if_true]
      exact Ev.now _
    · rw [decide_eq_false hsz]
      simp only [Bool.false_eq_true, if_false]
      exact ij0
  replace hsz : sizeOk I.length := Classical.not_not.1 hsz
  have hn : I.length ≤ 128 := by unfold sizeOk at hsz; omega
  have t2 : wrap64 (Int.tdiv (wrap64 (2 * (I.length : Int))) 3) = ((2 * I.length / 3 : Nat) : Int) := by rw [Int.mul_comm]; exact third _ hI
  rw [decide_eq_true hsz] at imem smem
  simp only [if_true, t2] at imem
  have smem2 : ∀ b, Ev (fun k => if (E.length : Int) > ((2 * I.length / 3 : Nat) : Int) then (spec_validDict.j1 k true I E) else ((spec_liveEntries.f k I E).bind fun t136 => (spec_validDict.j1 k (decide (t136 > 40)) I E))) b → Ev (fun k => spec_validDict.f k I E) b := by
    intro b hb
    refine smem b ?_
    refine Ev.step (fun k => spec_validDict.j0.eq_2 ..) ?_
    simp only [Bool.not_true, Bool.false_eq_true, if_false, third _ hI]
    exact hb
  by_cases hmn : (E.length : Int) > ((2 * I.length / 3 : Nat) : Int)
  · refine ⟨false, smem2 _ ?_, imem _ ?_, fun h => absurd h (by decide)⟩
    · simp only [if_pos hmn]; exact sj1
    · simp only [if_pos hmn]; exact ij0
  have hm : E.length < I.length := by unfold sizeOk at hsz; omega
  have hE' : E.length ≤ 1000000 := by omega
  simp only [if_neg hmn] at imem smem2
  by_cases hlv : live E > 40
  · refine ⟨false, smem2 _ (Ev.bind (spec_live I E hE') ?_), imem _ (Ev.bind (impl_live I E hE') ?_), fun h => absurd h (by decide)⟩
    · rw [decide_eq_true (show ((live E : Nat) : Int) > 40 by omega)]; exact sj1
    · rw [decide_eq_true (show ((live E : Nat) : Int) > 40 by omega)]; exact ij0
  -- the probes' answer
  have hB : ∃ B, (SlotsI I E 0 (List.replicate E.length 0) 0 → Ev (fun k => spec_validDict.l1 k 0 I E) B ∧ Ev (fun k => impl_DictOk.l2 k E (E.length : Int) 0 I E) B) := by
    by_cases q : SlotsI I E 0 (List.replicate E.length 0) 0
    · have q' := (slots_iff I E).2 q
      obtain ⟨B, hB⟩ := probes_loop I E (good_of I E hsz hm q'.1) hE' (fun j hj hl => by
        have := q.ent j hj
        unfold entOk at this
        unfold lv at hl
        rw [if_pos hl, Bool.and_eq_true, decide_eq_true_eq] at this
        exact this.1)
      exact ⟨B, fun _ => hB⟩
    · exact ⟨false, fun z => absurd z q⟩
  obtain ⟨B, hB⟩ := hB
  obtain ⟨bi, hi1, hi2⟩ := impl_slots_l I E (by omega) hE' B _ 0 (List.replicate E.length 0) 0 rfl (Nat.zero_le _) (by simp) (Int.le_refl _) (Int.le_refl _) (fun j => by rw [rep_zero]; omega) (fun h => (hB h).2)
  have impl_ : Ev (fun k => impl_DictOk.f k I E) bi := by
    refine imem _ (Ev.bind (impl_live I E hE') ?_)
    rw [decide_eq_false (show ¬ ((live E : Nat) : Int) > 40 by omega)]
    refine Ev.step (fun k => impl_DictOk.j0.eq_2 ..) ?_
    simp only [Bool.false_eq_true, if_false, if_pos (show (0 : Int) ≤ (E.length : Int) by omega), Int.toNat_natCast, if_pos (show E.length ≤ 35184372088832 by omega)]
    exact hi1
  refine ⟨bi, smem2 _ (Ev.bind (spec_live I E hE') ?_), impl_, fun h => ⟨good_of I E hsz hm ((slots_iff I E).2 (hi2.1 h).1).1, fun j hj hl => by
        have := (hi2.1 h).1.ent j hj
        unfold entOk at this
        unfold lv at hl
        rw [if_pos hl, Bool.and_eq_true, decide_eq_true_eq] at this
        exact this.1, spec_live I E hE', impl_live I E hE'⟩⟩
  rw [decide_eq_false (show ¬ ((live E : Nat) : Int) > 40 by omega)]
  refine Ev.step (fun k => spec_validDict.j1.eq_2 ..) ?_
  simp only [Bool.false_eq_true, if_false]
  obtain ⟨bs, hs1, hs2⟩ := spec_slots I E (by omega) hE'
  have hbi : bi = (decide (∀ j, j < E.length → entOk (E.getD j z38) = true) && (bs && B)) := by
    rw [Bool.eq_iff_iff, Bool.and_eq_true, Bool.and_eq_true, decide_eq_true_eq, hi2, hs2, ← slots_iff]
    constructor
    · rintro ⟨⟨a, b⟩, c⟩; exact ⟨b, a, c⟩
    · rintro ⟨b, a, c⟩; exact ⟨⟨a, b⟩, c⟩
  rw [hbi]
  refine allLoop (F := fun k i => spec_validDict.l0 k i I E) (n := E.length) (c := fun j => entOk (E.getD j z38)) (B := bs && B) ?_ ?_ ?_
  · intro j hj hc r hr
    refine Ev.step (fun k => spec_validDict.l0.eq_2 ..) ?_
    have go : Ev (fun k => spec_validDict.j3 k (j : Int) false I E) r := by
      refine Ev.step (fun k => spec_validDict.j3.eq_2 ..) ?_
      simp only [Bool.false_eq_true, if_false, wnext hj (show E.length ≤ maxLen by unfold maxLen; omega)]
      exact hr
    have hsz' := hS _ (getD_mem' E z38 hj)
    simp only [if_pos (show (j : Int) < (E.length : Int) by omega), if_pos (show (0 : Int) ≤ j by omega), rdE, key_eq, inRange_eq]
    generalize E.getD j z38 = e at *
    cases hf : e.f3 with
    | true =>
      unfold entOk at hc
      rw [if_pos hf, Bool.and_eq_true, Bool.and_eq_true, decide_eq_true_eq, decide_eq_true_eq] at hc
      simp only [if_true, Option.bind, decide_eq_true hc.1, hc.2.2, Bool.not_true]
      show Ev (fun k => (spec_hashOf.f k e.f0).bind fun t140 => if e.f1 = t140 then spec_validDict.j3 k (j : Int) false I E else spec_validDict.j3 k (j : Int) true I E) r
      refine Ev.bind (spec_hash e.f0 hsz') ?_
      simp only [if_pos hc.2.1]
      exact go
    | false =>
      have z := zero_eq e hf
      rw [hc, hf] at z
      unfold entOk at hc
      rw [hf, if_neg (by decide), Bool.and_eq_true, Bool.and_eq_true, decide_eq_true_eq, decide_eq_true_eq, decide_eq_true_eq] at hc
      have e0 : e.f0.size ≤ 20 := by
        have : e.f0.size = 0 := by
          have q := hc.1
          unfold ByteArray.toList ByteArray.toList.loop at q
          split at q
          · exfalso
            have : ∀ n (b : ByteArray) (i : Nat) (r : List UInt8), b.size - i = n → r.length ≤ (ByteArray.toList.loop b i r).length := by
              intro n
              induction n with
              | zero => intro b i r hn; unfold ByteArray.toList.loop; rw [if_neg (by omega)]; simp
              | succ n ih => intro b i r hn; unfold ByteArray.toList.loop; rw [if_pos (by omega)]; exact Nat.le_trans (by simp) (ih b (i+1) _ (by omega))
            have := this _ e.f0 (0+1) [e.f0.get! 0] rfl
            rw [q] at this
            simp at this
          · omega
        omega
      simp only [Bool.false_eq_true, if_false, z, Bool.not_true, Option.bind, decide_eq_true e0, if_true]
      rw [decide_eq_true (show -1000000 ≤ e.f2 ∧ e.f2 ≤ 1000000 by omega)]
      exact go
  · intro j hj hc
    refine Ev.step (fun k => spec_validDict.l0.eq_2 ..) ?_
    have bad : Ev (fun k => spec_validDict.j3 k (j : Int) true I E) false := by
      refine Ev.step (fun k => spec_validDict.j3.eq_2 ..) ?_
      simp only [if_true]
      exact Ev.now _
    have hsz' := hS _ (getD_mem' E z38 hj)
    simp only [if_pos (show (j : Int) < (E.length : Int) by omega), if_pos (show (0 : Int) ≤ j by omega), rdE, key_eq, inRange_eq]
    generalize E.getD j z38 = e at *
    cases hf : e.f3 with
    | true =>
      unfold entOk at hc
      rw [if_pos hf] at hc
      simp only [if_true, Option.bind]
      cases h1 : decide (e.f0.size ≤ 20) with
      | false =>
        simp only [Bool.false_eq_true, if_false]
        exact bad
      | true =>
        simp only [if_true]
        show Ev (fun k => (spec_hashOf.f k e.f0).bind fun t140 => if e.f1 = t140 then spec_validDict.j3 k (j : Int) (!decide (-1000000 ≤ e.f2 ∧ e.f2 ≤ 1000000)) I E else spec_validDict.j3 k (j : Int) true I E) false
        refine Ev.bind (spec_hash e.f0 hsz') ?_
        by_cases h2 : e.f1 = hashP e.f0
        · simp only [if_pos h2]
          rw [h1, decide_eq_true h2, Bool.true_and, Bool.true_and] at hc
          rw [hc]
          exact bad
        · simp only [if_neg h2]; exact bad
    | false =>
      have z := zero_eq e hf
      rw [hc, hf] at z
      simp only [Bool.false_eq_true, if_false, z, Bool.not_false, if_true]
      exact bad
  · intro hall
    refine Ev.step (fun k => spec_validDict.l0.eq_2 ..) ?_
    simp only [Int.lt_irrefl, if_false]
    refine Ev.bind hs1 ?_
    cases hbs : bs with
    | false => exact Ev.now _
    | true => exact (hB ((slots_iff I E).1 ⟨hs2.1 hbs, hall⟩)).1
theorem dict_ok (I : List Int) (E : List S38) (hI : I.length ≤ 1048576) (hE : E.length ≤ 1000000 ∨ E.length ≤ 1048576) (hS : ∀ e ∈ E, e.f0.size ≤ maxLen) :
    ∃ b, Ev (fun k => spec_validDict.f k I E) b ∧ Ev (fun k => impl_DictOk.f k I E) b ∧ (b = true → Good I E) := by
  obtain ⟨b, h1, h2, h3⟩ := dict_ok2 I E hI hE hS
  exact ⟨b, h1, h2, fun h => (h3 h).1⟩
end Go.Proofs.Ythocdlaajncmpaa.DI
