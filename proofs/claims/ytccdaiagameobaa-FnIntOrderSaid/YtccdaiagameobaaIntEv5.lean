/- What the printed functions that read integers come to: a text is an integer's own text, or none. -/
import Derived.Test.YtccdaiagameobaaIntEv4
import Derived.Test.YtccdaiagameobaaQ1
import Derived.Test.YtccdaiagameobaaQ5
set_option linter.unusedSimpArgs false
set_option linter.unusedVariables false
namespace Go.Proofs.Ytccdaiagameobaa.IE
open Go.RowKit Go.Proofs.Ytccdaiagameobaa.Q Go.Proofs.YtccdaiagameobaaW.PrintWords Go.Proofs.IM

def isNeg (l : List UInt8) : Bool := l.head? == some 45
def bodyOf (l : List UInt8) : List UInt8 := if isNeg l then l.tail else l
def isD (b : UInt8) : Bool := decide (48 ≤ (b.toNat : Int)) && decide ((b.toNat : Int) ≤ 57)
def dsOf (d : List UInt8) : List Int := d.reverse.map fun b => (b.toNat : Int) - 48
def lastOk (l d : List UInt8) : Bool := (decide (1 ≤ d.length) && decide (d.length ≤ 40)) && (!(d.getD 0 0 == 48) || l == [48])
def okInt (l : List UInt8) : Bool := (bodyOf l).all isD && lastOk l (bodyOf l)
def numOf (l : List UInt8) : Int := if isNeg l then -(val (dsOf (bodyOf l))) else val (dsOf (bodyOf l))

theorem isD_iff (b : UInt8) : isD b = true ↔ 48 ≤ (b.toNat : Int) ∧ (b.toNat : Int) ≤ 57 := by simp [isD]
theorem u8_of {b c : UInt8} (h : (b.toNat : Int) = c.toNat) : b = c := by apply UInt8.toNat_inj.1; omega
theorem chr_of {b : UInt8} (h : isD b = true) : chr ((b.toNat : Int) - 48) = b := by
  have := (isD_iff b).1 h
  apply u8_of
  rw [chr_nat (by omega) (by omega)]; omega
theorem dsOf_Dig {d : List UInt8} (h : d.all isD = true) : Dig (dsOf d) := by
  intro x hx
  simp only [dsOf, List.mem_map, List.mem_reverse] at hx
  obtain ⟨b, hb, rfl⟩ := hx
  have := (isD_iff b).1 (List.all_eq_true.1 h b hb)
  omega
theorem dsOf_length (d : List UInt8) : (dsOf d).length = d.length := by simp [dsOf]
theorem dsOf_cons (b : UInt8) (d : List UInt8) : dsOf (b :: d) = dsOf d ++ [(b.toNat : Int) - 48] := by simp [dsOf]
theorem isNeg_cons (l : List UInt8) : isNeg (45 :: l) = true := rfl
theorem neg_split {l : List UInt8} (h : isNeg l = true) : l = 45 :: bodyOf l := by
  cases l with
  | nil => simp [isNeg] at h
  | cons x xs =>
    have : x = 45 := by simpa [isNeg] using h
    subst this
    simp [bodyOf, isNeg]
theorem pos_split {l : List UInt8} (h : isNeg l = false) : bodyOf l = l := by simp [bodyOf, h]

theorem map_chr_dsOf {d : List UInt8} (h : d.all isD = true) : (dsOf d).reverse.map chr = d := by
  simp only [dsOf, List.map_reverse, List.reverse_reverse, List.map_map]
  conv => rhs; rw [← List.map_id d]
  apply List.map_congr_left
  intro b hb
  simp only [Function.comp_apply, id_eq]
  exact chr_of (List.all_eq_true.1 h b hb)
theorem val_dsOf_lt {d : List UInt8} (h : d.all isD = true) (hl : d.length ≤ 40) : 0 ≤ val (dsOf d) ∧ (val (dsOf d)).toNat < 10 ^ 40 := by
  have h1 := (dsOf_Dig h).nonneg
  refine ⟨h1, dig_length_le.1 ?_⟩
  rw [← trim_eq (dsOf_Dig h)]
  have : ∀ l : List Int, (trim l).length ≤ l.length := by
    intro l
    induction l with
    | nil => simp [trim]
    | cons x xs ih =>
      simp only [trim]
      split
      · simp
      · simp; omega
  have := this (dsOf d)
  rw [dsOf_length] at this
  omega

theorem ok_txt {l : List UInt8} (h : okInt l = true) : l = txtL (numOf l) ∧ (numOf l).natAbs < 10 ^ 40 ∧ trim (dsOf (bodyOf l)) = dig (numOf l).natAbs ∧ isNeg l = decide (numOf l < 0) := by
  simp only [okInt, lastOk, Bool.and_eq_true, decide_eq_true_eq, Bool.or_eq_true, Bool.not_eq_true', beq_eq_false_iff_ne, beq_iff_eq] at h
  obtain ⟨hall, ⟨hl1, hl2⟩, hz⟩ := h
  have hv := val_dsOf_lt hall hl2
  have hD := dsOf_Dig hall
  have htr := trim_eq hD
  obtain ⟨b, d, hbd⟩ : ∃ b d, bodyOf l = b :: d := by
    cases hb : bodyOf l with
    | nil => rw [hb] at hl1; simp at hl1
    | cons b d => exact ⟨b, d, rfl⟩
  by_cases e : b = 48
  · have hl : l = [48] := by
      rcases hz with hz | hz
      · rw [hbd] at hz; simp [e] at hz
      · exact hz
    subst hl
    refine ⟨by decide, by decide, by decide +kernel, by decide⟩
  · have hb := (isD_iff b).1 (List.all_eq_true.1 hall b (by rw [hbd]; exact List.mem_cons_self))
    have hbne : (b.toNat : Int) - 48 ≠ 0 := fun h => e (u8_of (by rw [show (48 : UInt8).toNat = 48 from rfl]; omega))
    have htt : trim (dsOf (bodyOf l)) = dsOf (bodyOf l) := by rw [hbd, dsOf_cons, trim_append_ne _ hbne]
    have hnz : val (dsOf (bodyOf l)) ≠ 0 := by
      intro h0
      rw [h0] at htr
      rw [htr] at htt
      have := dsOf_length (bodyOf l)
      rw [← htt] at this
      simp [dig_zero] at this
      omega
    have hmt : magTxt (val (dsOf (bodyOf l))).toNat = bodyOf l := by
      unfold magTxt
      rw [if_neg (by omega), ← htr, htt, map_chr_dsOf hall]
    cases hn : isNeg l with
    | true =>
      have hnum : numOf l = -(val (dsOf (bodyOf l))) := by simp [numOf, hn]
      have habs : (numOf l).natAbs = (val (dsOf (bodyOf l))).toNat := by omega
      refine ⟨?_, by omega, by rw [htr, habs], by rw [hnum]; symm; simp; omega⟩
      unfold txtL
      rw [if_pos (by omega), habs, hmt]
      exact neg_split hn
    | false =>
      have hnum : numOf l = val (dsOf (bodyOf l)) := by simp [numOf, hn]
      have habs : (numOf l).natAbs = (val (dsOf (bodyOf l))).toNat := by omega
      refine ⟨?_, by omega, by rw [htr, habs], by rw [hnum]; symm; simp; omega⟩
      unfold txtL
      rw [if_neg (by omega), habs, hmt, List.nil_append]
      exact (pos_split hn).symm

theorem magTxt_props (m : Nat) (h : m < 10 ^ 40) : (magTxt m).all isD = true ∧ 1 ≤ (magTxt m).length ∧ (magTxt m).length ≤ 40 ∧ val (dsOf (magTxt m)) = m ∧ (m ≠ 0 → (magTxt m).getD 0 0 ≠ 48) ∧ (magTxt m).head? ≠ some 45 := by
  unfold magTxt
  by_cases e : m = 0
  · subst e
    rw [if_pos rfl]
    refine ⟨by decide, by decide, by decide, by decide +kernel, fun h => absurd rfl h, by decide⟩
  · rw [if_neg e]
    have hD := dig_Dig m
    have hlen := (dig_length_le (n := m) (k := 40)).2 h
    have hne : dig m ≠ [] := fun h0 => e (dig_nil.1 h0)
    have hpos : 0 < (dig m).length := List.length_pos_iff.2 hne
    have hds : dsOf ((dig m).reverse.map chr) = dig m := by
      simp only [dsOf, List.map_reverse, List.reverse_reverse, List.map_map]
      conv => rhs; rw [← List.map_id (dig m)]
      apply List.map_congr_left
      intro x hx
      have := hD x hx
      simp only [Function.comp_apply, id_eq]
      rw [chr_nat this.1 this.2]; omega
    have hh : ((dig m).reverse.map chr).head? = some (chr ((dig m).getD ((dig m).length - 1) 0)) := by
      rw [List.head?_map, List.head?_reverse, List.getLast?_eq_getElem?, getD_lt (by omega), List.getElem?_eq_getElem (by omega)]; rfl
    have hlast := dig_last e
    have hlr := hD.getD ((dig m).length - 1)
    have hchr := chr_nat hlr.1 hlr.2
    refine ⟨?_, by simp; omega, by simpa using hlen, by rw [hds, val_dig], fun _ => ?_, ?_⟩
    · rw [List.all_eq_true]
      intro b hb
      simp only [List.mem_map, List.mem_reverse] at hb
      obtain ⟨x, hx, rfl⟩ := hb
      have := hD x hx
      rw [isD_iff, chr_nat this.1 this.2]; omega
    · have : ((dig m).reverse.map chr).getD 0 0 = chr ((dig m).getD ((dig m).length - 1) 0) := by
        rw [List.getD_eq_getElem?_getD, ← List.head?_eq_getElem?, hh]; rfl
      rw [this]
      intro h48
      rw [h48] at hchr
      have : ((48 : UInt8).toNat : Int) = 48 := rfl
      omega
    · rw [hh]
      intro h45
      injection h45 with h45
      rw [h45] at hchr
      have : ((45 : UInt8).toNat : Int) = 45 := rfl
      omega
theorem txt_ok (n : Int) (h : n.natAbs < 10 ^ 40) : okInt (txtL n) = true ∧ numOf (txtL n) = n := by
  obtain ⟨h1, h2, h3, h4, h5, h6⟩ := magTxt_props n.natAbs h
  by_cases e : n < 0
  · have ht : txtL n = 45 :: magTxt n.natAbs := by unfold txtL; rw [if_pos e]; rfl
    have hb : bodyOf (txtL n) = magTxt n.natAbs := by rw [ht]; simp [bodyOf, isNeg]
    have hn : isNeg (txtL n) = true := by rw [ht]; rfl
    have h7 := h5 (by omega)
    refine ⟨?_, ?_⟩
    · simp only [okInt, lastOk, hb, h1, Bool.true_and, Bool.and_eq_true, decide_eq_true_eq, Bool.or_eq_true, Bool.not_eq_true', beq_eq_false_iff_ne]
      exact ⟨⟨h2, h3⟩, Or.inl h7⟩
    · unfold numOf; rw [hn, if_pos rfl, hb, h4]; omega
  · have ht : txtL n = magTxt n.natAbs := by unfold txtL; rw [if_neg e]; rfl
    have hn : isNeg (txtL n) = false := by
      rw [ht]; simp [isNeg]; exact h6
    have hb : bodyOf (txtL n) = magTxt n.natAbs := by rw [pos_split hn, ht]
    refine ⟨?_, ?_⟩
    · simp only [okInt, lastOk, hb, h1, Bool.true_and, Bool.and_eq_true, decide_eq_true_eq, Bool.or_eq_true, Bool.not_eq_true', beq_eq_false_iff_ne, beq_iff_eq]
      refine ⟨⟨h2, h3⟩, ?_⟩
      by_cases e0 : n = 0
      · subst e0; right; decide
      · exact Or.inl (h5 (by omega))
    · unfold numOf; rw [hn]; simp only [Bool.false_eq_true, if_false]; rw [hb, h4]; omega

theorem spec_valid_l0 (l d : List UInt8) (hd : d.length ≤ 1000000000000000) : ∀ (m n : Nat) (i : Int), i = n → n ≤ d.length → d.length - n ≤ m →
    Ev (fun k => spec_validInt.l0 k (mkS l) (mkS d) i) ((d.drop n).all isD && lastOk l d) := by
  have fin : ∀ i : Int, i = d.length → Ev (fun k => spec_validInt.l0 k (mkS l) (mkS d) i) (lastOk l d) := by
    intro i hi
    refine Ev.step (fun k => spec_validInt.l0.eq_2 ..) ?_
    have e1 : ¬ i < (d.length : Int) := by omega
    simp only [mkS_size, if_neg e1, spec_inRange.f]
    unfold lastOk
    by_cases h1 : (d.length : Int) ≥ 1
    · by_cases h2 : (d.length : Int) ≤ 40
      · have h3 : 0 < (d.length : Int) := by omega
        have e2 : decide (1 ≤ d.length) = true := by simp; omega
        have e3 : decide (d.length ≤ 40) = true := by simp; omega
        simp only [if_pos h1, decide_eq_true h2, Option.bind_some, if_true, if_pos h3, e2, e3, Bool.and_self, Bool.true_and]
        rw [mkS_bt d 0 0 rfl]
        by_cases h4 : ((d.getD 0 0).toNat : Int) = 48
        · have h5 : d.getD 0 0 = 48 := u8_of h4
          simp only [if_pos h4, mkS_toList]
          rw [h5]
          exact Ev.now _
        · have h5 : ¬ d.getD 0 0 = 48 := fun h => h4 (by rw [h]; rfl)
          simp only [if_neg h4]
          have h6 : (d.getD 0 0 == 48) = false := by simpa using h5
          rw [h6]
          exact Ev.now _
      · have e3 : decide (d.length ≤ 40) = false := decide_eq_false (by omega)
        simp only [if_pos h1, decide_eq_false h2, Option.bind_some, Bool.false_eq_true, if_false, e3, Bool.and_false, Bool.false_and]
        exact Ev.now _
    · have e2 : decide (1 ≤ d.length) = false := decide_eq_false (by omega)
      simp only [if_neg h1, Option.bind_some, Bool.false_eq_true, if_false, e2, Bool.false_and]
      exact Ev.now _
  intro m
  induction m with
  | zero =>
    intro n i hi hn hm
    have : n = d.length := by omega
    subst this
    rw [List.drop_length]
    exact fin i hi
  | succ m ih =>
    intro n i hi hn hm
    by_cases en : n < d.length
    · refine Ev.step (fun k => spec_validInt.l0.eq_2 ..) ?_
      have e1 : i < ((mkS d).size : Int) := by rw [mkS_size]; omega
      have e2 : 0 ≤ i := by omega
      rw [mkS_bt d n i hi, w64 (x := i + 1) (by omega) (by omega)]
      simp only [if_pos e1, if_pos e2]
      have hdrop : d.drop n = d.getD n 0 :: d.drop (n + 1) := by rw [List.drop_eq_getElem_cons en, getD_lt en]
      rw [hdrop, List.all_cons]
      by_cases h1 : ((d.getD n 0).toNat : Int) < 48
      · have h3 : isD (d.getD n 0) = false := by
          cases hq : isD (d.getD n 0) with
          | false => rfl
          | true => have := (isD_iff _).1 hq; omega
        simp only [if_pos h1, h3, Bool.false_and]
        exact Ev.now _
      · by_cases h2 : ((d.getD n 0).toNat : Int) > 57
        · have h3 : isD (d.getD n 0) = false := by
            cases hq : isD (d.getD n 0) with
            | false => rfl
            | true => have := (isD_iff _).1 hq; omega
          simp only [if_neg h1, if_pos h2, h3, Bool.false_and]
          exact Ev.now _
        · have h3 : isD (d.getD n 0) = true := (isD_iff _).2 ⟨by omega, by omega⟩
          simp only [if_neg h1, if_neg h2, h3, Bool.true_and]
          exact ih (n + 1) (i + 1) (by omega) (by omega) (by omega)
    · have : n = d.length := by omega
      subst this
      rw [List.drop_length]
      exact fin i hi
theorem spec_valid_ev (l : List UInt8) (hl : l.length ≤ 1000000000000000) : Ev (fun k => spec_validInt.f k (mkS l)) (okInt l) := by
  have hb : (bodyOf l).length ≤ l.length := by unfold bodyOf; split <;> simp
  have main := spec_valid_l0 l (bodyOf l) (by omega) (bodyOf l).length 0 0 rfl (by omega) (by omega)
  rw [List.drop_zero] at main
  have main1 : Ev (fun k => spec_validInt.j1 k (mkS l) (mkS (bodyOf l))) (okInt l) := Ev.step (fun k => spec_validInt.j1.eq_2 ..) main
  have main0 : ∀ x : Bool, x = isNeg l → Ev (fun k => spec_validInt.j0 k (mkS l) (mkS l) x) (okInt l) := by
    intro x hx
    subst hx
    refine Ev.step (fun k => spec_validInt.j0.eq_2 ..) ?_
    cases hn : isNeg l with
    | true =>
      have h1 : 1 ≤ ((mkS l).size : Int) := by rw [mkS_size, neg_split hn]; simp; omega
      simp only [if_true, if_pos h1]
      rw [mkS_drop]
      have : l.drop 1 = bodyOf l := (congrArg (List.drop 1) (neg_split hn)).trans rfl
      rw [this]
      exact main1
    | false =>
      simp only [Bool.false_eq_true, if_false]
      rw [pos_split hn] at main1
      exact main1
  unfold spec_validInt.f
  rw [mkS_size]
  by_cases h0 : (l.length : Int) > 0
  · simp only [if_pos h0, if_pos (show (0 : Int) < l.length from h0)]
    refine main0 _ ?_
    rw [mkS_bt l 0 0 rfl]
    cases l with
    | nil => simp at h0
    | cons x xs =>
      simp only [List.getD_cons_zero, isNeg, List.head?_cons]
      rw [Bool.eq_iff_iff]
      simp only [beq_iff_eq, Option.some.injEq]
      exact ⟨fun h => u8_of (by rw [h]; rfl), fun h => by rw [h]; rfl⟩
  · have : l = [] := List.length_eq_zero_iff.1 (by omega)
    subst this
    simp only [if_neg h0]
    exact main0 false rfl

theorem spec_digits_l0 (pre d : List UInt8) (neg : Bool) (hpre : pre = [] ∨ pre = [45]) (hd : d.all isD = true) (hl : d.length ≤ 40) : ∀ (m t : Nat) (i : Int), i = (pre.length : Int) + d.length - 1 - t → t ≤ d.length → d.length - t ≤ m →
    Ev (fun k => spec_digitsOf.l0 k (mkS (pre ++ d)) neg ((dsOf d).take t) i) (trim (dsOf d), neg) := by
  have hpl : pre.length ≤ 1 := by rcases hpre with h | h <;> subst h <;> simp
  have fin : ∀ i : Int, i = (pre.length : Int) - 1 → Ev (fun k => spec_digitsOf.l0 k (mkS (pre ++ d)) neg (dsOf d) i) (trim (dsOf d), neg) := by
    intro i hi
    refine Ev.step (fun k => spec_digitsOf.l0.eq_2 ..) ?_
    rcases hpre with h | h
    · subst h
      have e1 : ¬ i ≥ 0 := by simp at hi; omega
      simp only [if_neg e1]
      exact Ev.bind (spec_trimmed_ev _ (by rw [dsOf_length]; omega)) (Ev.now _)
    · subst h
      have e1 : i ≥ 0 := by simp at hi; omega
      have e2 : i < ((mkS ([45] ++ d)).size : Int) := by rw [mkS_size]; simp at hi ⊢; omega
      have e3 : bt (mkS ([45] ++ d)) i = 45 := by rw [mkS_bt _ 0 i (by simp at hi; omega)]; rfl
      simp only [if_pos e1, if_pos (show 0 ≤ i from e1), if_pos e2, if_pos e3]
      exact Ev.bind (spec_trimmed_ev _ (by rw [dsOf_length]; omega)) (Ev.now _)
  intro m
  induction m with
  | zero =>
    intro t i hi ht hm
    have : t = d.length := by omega
    subst this
    rw [← dsOf_length d, List.take_length]
    exact fin i (by omega)
  | succ m ih =>
    intro t i hi ht hm
    by_cases et : t < d.length
    · refine Ev.step (fun k => spec_digitsOf.l0.eq_2 ..) ?_
      have e1 : i ≥ 0 := by omega
      have e2 : i < ((mkS (pre ++ d)).size : Int) := by rw [mkS_size]; simp; omega
      have hget : (pre ++ d).getD (pre.length + (d.length - 1 - t)) 0 = d.getD (d.length - 1 - t) 0 := by
        rw [List.getD_eq_getElem?_getD, List.getElem?_append_right (by omega), Nat.add_sub_cancel_left, ← List.getD_eq_getElem?_getD]
      have hbt : bt (mkS (pre ++ d)) i = ((d.getD (d.length - 1 - t) 0).toNat : Int) := by
        rw [mkS_bt _ (pre.length + (d.length - 1 - t)) i (by omega), hget]
      have hisd := (isD_iff _).1 (List.all_eq_true.1 hd (d[d.length - 1 - t]'(by omega)) (List.getElem_mem _))
      rw [← getD_lt (d := 0)] at hisd
      have e3 : ¬ ((d.getD (d.length - 1 - t) 0).toNat : Int) = 45 := by omega
      have e4 : ((dsOf d).take t).length < 17592186044416 := by simp [dsOf_length]; omega
      rw [hbt, w64 (x := i - 1) (by omega) (by omega)]
      simp only [if_pos e1, if_pos (show 0 ≤ i from e1), if_pos e2, if_neg e3, if_pos e4]
      have h := ih (t + 1) (i - 1) (by omega) (by omega) (by omega)
      rw [take_succ_getD (by rw [dsOf_length]; exact et)] at h
      have hg : (dsOf d).getD t 0 = (((d.getD (d.length - 1 - t) 0).toNat : Int) - 48) % 256 := by
        rw [getD_lt (by rw [dsOf_length]; exact et), getD_lt (by omega)]
        simp only [dsOf, List.getElem_map, List.getElem_reverse]
        rw [getD_lt (by omega)] at hisd
        omega
      rw [hg] at h
      exact h
    · have : t = d.length := by omega
      subst this
      rw [← dsOf_length d, List.take_length]
      exact fin i (by omega)
theorem spec_digits_ev (l : List UInt8) (h : okInt l = true) : Ev (fun k => spec_digitsOf.f k (mkS l)) (dig (numOf l).natAbs, decide (numOf l < 0)) := by
  obtain ⟨_, _, h3, h4⟩ := ok_txt h
  simp only [okInt, lastOk, Bool.and_eq_true, decide_eq_true_eq] at h
  obtain ⟨hall, ⟨hl1, hl2⟩, _⟩ := h
  have main : Ev (fun k => spec_digitsOf.j0 k (mkS l) (isNeg l)) (dig (numOf l).natAbs, decide (numOf l < 0)) := by
    rw [← h3, ← h4]
    refine Ev.step (fun k => spec_digitsOf.j0.eq_2 ..) ?_
    cases hn : isNeg l with
    | true =>
      have hs := neg_split hn
      have hlen : l.length = 1 + (bodyOf l).length := by conv => lhs; rw [hs]; simp [Nat.add_comm]
      rw [mkS_size, w64 (by omega) (by omega)]
      have := spec_digits_l0 [45] (bodyOf l) true (Or.inr rfl) hall hl2 (bodyOf l).length 0 ((l.length : Int) - 1) (by simp; omega) (by omega) (by omega)
      rw [List.take_zero, List.singleton_append, ← hs] at this
      exact this
    | false =>
      have hs := pos_split hn
      rw [mkS_size, w64 (by rw [hs] at hl2; omega) (by rw [hs] at hl2; omega)]
      have := spec_digits_l0 [] (bodyOf l) false (Or.inl rfl) hall hl2 (bodyOf l).length 0 ((l.length : Int) - 1) (by rw [hs]; simp) (by omega) (by omega)
      rw [List.take_zero, List.nil_append, hs] at this
      rw [hs]
      exact this
  have hl0 : (l.length : Int) > 0 := by
    have : (bodyOf l).length ≤ l.length := by unfold bodyOf; split <;> simp
    omega
  unfold spec_digitsOf.f
  rw [mkS_size]
  simp only [if_pos hl0, if_pos (show (0 : Int) < l.length from hl0)]
  have : (bt (mkS l) 0 == 45) = isNeg l := by
    rw [mkS_bt l 0 0 rfl]
    cases l with
    | nil => simp at hl0
    | cons x xs =>
      simp only [List.getD_cons_zero, isNeg, List.head?_cons]
      rw [Bool.eq_iff_iff]
      simp only [beq_iff_eq, Option.some.injEq]
      exact ⟨fun h => u8_of (by rw [h]; rfl), fun h => by rw [h]; rfl⟩
  rw [this]
  exact main

theorem cutPrefix_eq (l : List UInt8) : strings_CutPrefix.f (mkS l) (⟨#[45]⟩ : ByteArray) = some (mkS (bodyOf l), isNeg l) := by
  unfold strings_CutPrefix.f stringslite_CutPrefix.f stringslite_HasPrefix.f
  rw [show (⟨#[45]⟩ : ByteArray) = mkS [45] from rfl, mkS_size, mkS_size]
  by_cases h : (l.length : Int) ≥ ([45] : List UInt8).length
  · have h1 : (0 : Int) ≤ ([45] : List UInt8).length := by simp
    rw [if_pos h, if_pos h1, if_pos h]
    simp only [Option.bind_some]
    cases l with
    | nil => simp at h
    | cons x xs =>
      have hex : (mkS (x :: xs)).extract 0 ((([45] : List UInt8).length : Int)).toNat = mkS [x] := by
        apply ByteArray.ext; simp [mkS]
      rw [hex, mkS_toList, mkS_toList]
      by_cases e : x = 45
      · subst e
        simp only [beq_self_eq_true, if_true]
        rw [if_pos h1, if_pos h]
        have := mkS_drop (45 :: xs) 1
        rw [mkS_size] at this
        simp only [Option.bind_some]
        simp [bodyOf, isNeg]
        simpa using this
      · have : ([x] == [(45 : UInt8)]) = false := by simpa using e
        rw [this]
        simp [bodyOf, isNeg, e]
  · have : l = [] := List.length_eq_zero_iff.1 (by simp at h; omega)
    subst this
    rw [if_neg h]
    simp [bodyOf, isNeg]
theorem impl_parse_l0 (d : List UInt8) (neg : Bool) (hl : d.length ≤ 40) : ∀ (m t : Nat) (i : Int), i = (d.length : Int) - 1 - t → t ≤ d.length → d.length - t ≤ m → (d.drop (d.length - t)).all isD = true →
    Ev (fun k => impl_parseNumber.l0 k (mkS d) i neg ((dsOf d).take t)) (if d.all isD = true then (neg, trim (dsOf d), true) else (false, [], false)) := by
  have fin : ∀ i : Int, i = -1 → d.all isD = true → Ev (fun k => impl_parseNumber.l0 k (mkS d) i neg (dsOf d)) (if d.all isD = true then (neg, trim (dsOf d), true) else (false, [], false)) := by
    intro i hi ha
    refine Ev.step (fun k => impl_parseNumber.l0.eq_2 ..) ?_
    have e1 : ¬ i ≥ 0 := by omega
    simp only [if_neg e1, if_pos ha]
    exact Ev.bind (impl_trimmed_ev _ (by rw [dsOf_length]; omega)) (Ev.now _)
  intro m
  induction m with
  | zero =>
    intro t i hi ht hm ha
    have : t = d.length := by omega
    subst this
    rw [← dsOf_length d, List.take_length]
    rw [Nat.sub_self, List.drop_zero] at ha
    exact fin i (by omega) ha
  | succ m ih =>
    intro t i hi ht hm ha
    by_cases et : t < d.length
    · refine Ev.step (fun k => impl_parseNumber.l0.eq_2 ..) ?_
      have e1 : i ≥ 0 := by omega
      have e2 : i < ((mkS d).size : Int) := by rw [mkS_size]; omega
      have hbt : bt (mkS d) i = ((d.getD (d.length - 1 - t) 0).toNat : Int) := by rw [mkS_bt _ (d.length - 1 - t) i (by omega)]
      have e4 : ((dsOf d).take t).length < 17592186044416 := by simp [dsOf_length]; omega
      rw [hbt, w64 (x := i - 1) (by omega) (by omega)]
      simp only [if_pos e1, if_pos (show 0 ≤ i from e1), if_pos e2]
      have bad : isD (d.getD (d.length - 1 - t) 0) = false → ¬ d.all isD = true := by
        intro hb hall
        have := List.all_eq_true.1 hall (d[d.length - 1 - t]'(by omega)) (List.getElem_mem _)
        rw [← getD_lt (d := 0)] at this
        rw [this] at hb
        cases hb
      by_cases h1 : ((d.getD (d.length - 1 - t) 0).toNat : Int) < 48
      · have h3 : isD (d.getD (d.length - 1 - t) 0) = false := by
          cases hq : isD (d.getD (d.length - 1 - t) 0) with
          | false => rfl
          | true => have := (isD_iff _).1 hq; omega
        simp only [if_pos h1, if_neg (bad h3)]
        exact Ev.now _
      · by_cases h2 : ((d.getD (d.length - 1 - t) 0).toNat : Int) > 57
        · have h3 : isD (d.getD (d.length - 1 - t) 0) = false := by
            cases hq : isD (d.getD (d.length - 1 - t) 0) with
            | false => rfl
            | true => have := (isD_iff _).1 hq; omega
          simp only [if_neg h1, if_pos h2, if_neg (bad h3)]
          exact Ev.now _
        · have h3 : isD (d.getD (d.length - 1 - t) 0) = true := (isD_iff _).2 ⟨by omega, by omega⟩
          simp only [if_neg h1, if_neg h2, if_pos e4]
          have hdr : d.drop (d.length - (t + 1)) = d.getD (d.length - 1 - t) 0 :: d.drop (d.length - t) := by
            rw [show d.length - (t + 1) = d.length - 1 - t by omega, List.drop_eq_getElem_cons (by omega), getD_lt (by omega), show d.length - 1 - t + 1 = d.length - t by omega]
          have h := ih (t + 1) (i - 1) (by omega) (by omega) (by omega) (by rw [hdr, List.all_cons, h3, ha]; rfl)
          rw [take_succ_getD (by rw [dsOf_length]; exact et)] at h
          have hg : (dsOf d).getD t 0 = (((d.getD (d.length - 1 - t) 0).toNat : Int) - 48) % 256 := by
            rw [getD_lt (by rw [dsOf_length]; exact et), getD_lt (by omega)]
            rw [getD_lt (by omega)] at h1 h2
            simp only [dsOf, List.getElem_map, List.getElem_reverse]
            omega
          rw [hg] at h
          exact h
    · have : t = d.length := by omega
      subst this
      rw [← dsOf_length d, List.take_length]
      rw [Nat.sub_self, List.drop_zero] at ha
      exact fin i (by omega) ha
def parsed (l : List UInt8) : Bool × List Int × Bool := if okInt l = true then (decide (numOf l < 0), dig (numOf l).natAbs, true) else (false, [], false)
theorem impl_parse_ev (l : List UInt8) (hll : l.length ≤ 1000000000000000) : Ev (fun k => impl_parseNumber.f k (mkS l)) (parsed l) := by
  have fail : ∀ (d : List UInt8) (neg : Bool), Ev (fun k => impl_parseNumber.j0 k (mkS d) neg true) (false, [], false) := by
    intro d neg
    refine Ev.step (fun k => impl_parseNumber.j0.eq_2 ..) ?_
    simp only [if_true]
    exact Ev.now _
  have good : bodyOf l ≠ [] → (bodyOf l).length ≤ 40 → ((bodyOf l).getD 0 0 = 48 → l = [48]) → Ev (fun k => impl_parseNumber.j0 k (mkS (bodyOf l)) (isNeg l) false) (parsed l) := by
    intro h1 h2 h3
    have hp : 0 < (bodyOf l).length := List.length_pos_iff.2 h1
    refine Ev.step (fun k => impl_parseNumber.j0.eq_2 ..) ?_
    simp only [Bool.false_eq_true, if_false]
    rw [mkS_size, w64 (by omega) (by omega)]
    have := impl_parse_l0 (bodyOf l) (isNeg l) h2 (bodyOf l).length 0 _ rfl (by omega) (by omega) (by simp)
    rw [List.take_zero, Int.natCast_zero, Int.sub_zero] at this
    have hok : okInt l = (bodyOf l).all isD := by
      unfold okInt lastOk
      rw [show decide (1 ≤ (bodyOf l).length) = true from decide_eq_true (by omega), show decide ((bodyOf l).length ≤ 40) = true from decide_eq_true (by omega)]
      simp only [Bool.and_self, Bool.true_and]
      by_cases e : (bodyOf l).getD 0 0 = 48
      · rw [h3 e]; rfl
      · have : ((bodyOf l).getD 0 0 == 48) = false := by simpa using e
        rw [this]; simp
    unfold parsed
    rw [hok]
    by_cases ha : (bodyOf l).all isD = true
    · rw [if_pos ha]
      rw [if_pos ha] at this
      obtain ⟨_, _, q3, q4⟩ := ok_txt (hok.trans ha)
      rw [← q3, ← q4]
      exact this
    · rw [if_neg ha]
      rw [if_neg ha] at this
      exact this
  have hbad : okInt l = false → parsed l = (false, [], false) := by intro h; unfold parsed; rw [h]; rfl
  unfold impl_parseNumber.f
  rw [cutPrefix_eq]
  simp only [Option.bind_some]
  rw [mkS_size]
  by_cases h1 : ((bodyOf l).length : Int) < 1
  · simp only [if_pos h1]
    rw [hbad (by unfold okInt lastOk; rw [show decide (1 ≤ (bodyOf l).length) = false from decide_eq_false (by omega)]; simp)]
    exact fail _ _
  · have hne : bodyOf l ≠ [] := by intro h; rw [h] at h1; simp at h1
    by_cases h2 : ((bodyOf l).length : Int) > 40
    · simp only [if_neg h1, if_pos h2]
      rw [hbad (by unfold okInt lastOk; rw [show decide ((bodyOf l).length ≤ 40) = false from decide_eq_false (by omega)]; simp)]
      exact fail _ _
    · have h0 : 0 < ((bodyOf l).length : Int) := by omega
      simp only [if_neg h1, if_neg h2, if_pos h0]
      rw [mkS_bt _ 0 0 rfl]
      by_cases h3 : (((bodyOf l).getD 0 0).toNat : Int) = 48
      · have h3' : (bodyOf l).getD 0 0 = 48 := u8_of h3
        simp only [if_pos h3]
        have hno : l ≠ [48] → parsed l = (false, [], false) := by
          intro hl
          refine hbad ?_
          unfold okInt lastOk
          rw [h3', show (l == [48]) = false by simpa using hl]
          simp
        by_cases h4 : ((bodyOf l).length : Int) > 1
        · simp only [if_pos h4]
          rw [hno (by intro hl; subst hl; simp [bodyOf, isNeg] at h4)]
          exact fail _ _
        · simp only [if_neg h4]
          cases hn : isNeg l with
          | true =>
            rw [hno (by intro hl; subst hl; simp [isNeg] at hn)]
            exact fail _ _
          | false =>
            have hl48 : l = [48] := by
              have hs := pos_split hn
              rw [hs] at h1 h3' h4
              match l, h1, h3', h4 with
              | [x], _, hx, _ => simp at hx; rw [hx]
              | [], h1, _, _ => simp at h1
              | _ :: _ :: _, _, _, h4 => simp at h4; omega
            have := good hne (by omega) (fun _ => hl48)
            rw [hn] at this
            exact this
      · simp only [if_neg h3]
        exact good hne (by omega) (fun h => absurd (by rw [h]; rfl) h3)
end Go.Proofs.Ytccdaiagameobaa.IE
