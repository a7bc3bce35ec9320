/- Proved: a text repeated once more is one behind; no condition beyond the statement's. -/
import Derived.Test.YtmchcbpjgkgejaaTxDraw
import Derived.Test.YtmchcbpjgkgejaaTxBase
import Derived.Test.YtmchcbpjgkgejaaRndOften
import Derived.Test.YtmchcbpjgkgejaaQ1
import Derived.Test.YtmchcbpjgkgejaaQ2
import Derived.Lib.Repeat
set_option linter.unusedSimpArgs false
set_option linter.unusedVariables false
namespace Go.Proofs.Ytmchcbpjgkgejaa.Pure
open Go.RowKit Go.Proofs.Ytmchcbpjgkgejaa.Q Go.Proofs.YtmchcbpjgkgejaaW.PrintWords Go.Proofs.YtmchcbpjgkgejaaW.PrintLast Go.Proofs.Ytmchcbpjgkgejaa.RD Go.Proofs.TX

theorem w64 {x : Int} (h0 : -1000000000000000000 ≤ x) (h1 : x ≤ 1000000000000000000) : wrap64 x = x := by unfold wrap64; omega
/-- n copies of a text. -/
def rep (s : ByteArray) (n : Nat) : ByteArray := ⟨(Go.Lib.repeatL s.data.toList n).toArray⟩
theorem rep_size (s : ByteArray) (n : Nat) : (rep s n).size = n * s.size := by
  rw [size_toList, size_toList s]
  show (Go.Lib.repeatL s.data.toList n).toArray.toList.length = _
  rw [List.toList_toArray, Go.Lib.repeatL_length]
theorem rep_succ (s : ByteArray) (n : Nat) : rep s (n + 1) = rep s n ++ s := by
  apply ByteArray.ext
  rw [ByteArray.data_append]
  unfold rep
  rw [Go.Lib.repeatL_add, Go.Lib.repeatL_one]
  apply Array.ext'
  simp
theorem rep_zero (s : ByteArray) : rep s 0 = ⟨#[]⟩ := rfl
theorem short_ev (s : ByteArray) : Ev (fun k => impl_shortTexts.f k [s]) (decide (s.size ≤ 400)) := by
  unfold impl_shortTexts.f
  refine Ev.step (fun k => impl_shortTexts.l0.eq_2 ..) ?_
  have e : rdOf ByteArray.empty [s] 0 = s := rfl
  have e1 : (([s] : List ByteArray).length : Int) = 1 := rfl
  simp only [e1, e, if_pos (show (0 : Int) < 1 by omega), if_pos (Int.le_refl 0)]
  by_cases h : s.size ≤ 400
  · rw [decide_eq_true h]
    simp only [if_neg (show ¬ (s.size : Int) > 400 by omega)]
    refine Ev.step (fun k => impl_shortTexts.l0.eq_2 ..) ?_
    rw [w64 (by omega) (by omega)]
    simp only [if_neg (show ¬ (0 + 1 : Int) < 1 by omega)]
    exact Ev.now _
  · rw [decide_eq_false h]
    simp only [if_pos (show (s.size : Int) > 400 by omega)]
    exact Ev.now _
theorem div_range (s : ByteArray) (h : 1 ≤ s.size) : 0 ≤ (400 : Int) / (s.size : Int) ∧ (400 : Int) / (s.size : Int) ≤ 400 := ⟨Int.ediv_nonneg (by omega) (by omega), Int.ediv_le_self _ (by omega)⟩
/-- What TextMany answers. -/
def manyR (s : ByteArray) (n : Int) : ByteArray × Bool := if s.size ≤ 400 then (if n ≤ 0 ∨ s.size = 0 then (⟨#[]⟩, true) else if n > (400 : Int) / (s.size : Int) then (⟨#[]⟩, false) else (rep s n.toNat, true)) else (⟨#[]⟩, false)
theorem impl_Many_ev (s : ByteArray) (n : Int) : Ev (fun k => impl_TextMany.f k s n) (manyR s n) := by
  unfold impl_TextMany.f manyR
  refine Ev.bind (short_ev s) ?_
  by_cases h : s.size ≤ 400
  · rw [decide_eq_true h, if_pos h]
    simp only [if_true]
    have z : ∀ q : Bool, q = true → Ev (fun k => impl_TextMany.j0 k s n q) ((⟨#[]⟩ : ByteArray), true) := by
      rintro q rfl
      refine Ev.step (fun k => impl_TextMany.j0.eq_2 ..) ?_
      simp only [if_true]
      exact Ev.now _
    by_cases hn : n ≤ 0
    · rw [if_pos (.inl hn)]
      simp only [if_pos hn]
      exact z _ rfl
    · simp only [if_neg hn]
      by_cases h0 : s.size = 0
      · rw [if_pos (.inr h0)]
        exact z _ (by rw [beq_iff_eq]; exact (empty_iff s).2 h0)
      · rw [if_neg (by omega)]
        have hq : (s.toList == ([] : List UInt8)) = false := by rw [beq_eq_false_iff_ne]; exact fun e => h0 ((empty_iff s).1 e)
        rw [hq]
        have hd := div_range s (by omega)
        refine Ev.step (fun k => impl_TextMany.j0.eq_2 ..) ?_
        simp only [Bool.false_eq_true, if_false, if_neg (show ¬ (s.size : Int) = 0 by omega)]
        rw [w64 (by omega) (by omega)]
        by_cases hg : n > (400 : Int) / (s.size : Int)
        · simp only [if_pos hg]; exact Ev.now _
        · simp only [if_neg hg]
          have hm : (s.size : Int) * n ≤ 400 := by
            have := (Int.le_ediv_iff_mul_le (show (0 : Int) < (s.size : Int) by omega)).1 (show n ≤ (400 : Int) / (s.size : Int) by omega)
            rwa [Int.mul_comm] at this
          have e : strings_Repeat.f s n = some (rep s n.toNat) := by
            unfold strings_Repeat.f
            rw [if_pos ⟨by omega, by omega, by omega⟩]
            rfl
          rw [e]
          simp only [Option.bind_some]
          exact Ev.now _
  · rw [decide_eq_false h, if_neg h]
    simp only [Bool.false_eq_true, if_false]
    exact Ev.now _
theorem spec_l (s : ByteArray) (n : Int) (hn : 1 ≤ n) (hm : (s.size : Int) * n ≤ 400) (hs : 1 ≤ s.size) : ∀ (d i : Nat) (x : Int), x = i → n - x = d → Ev (fun k => spec_TextMany.l0 k s n (rep s i) x) (rep s n.toNat, true) := by
  intro d
  induction d with
  | zero =>
    intro i x hx hd
    refine Ev.step (fun k => spec_TextMany.l0.eq_2 ..) ?_
    simp only [if_neg (show ¬ x < n by omega)]
    rw [show n.toNat = i by omega]
    exact Ev.now _
  | succ d ih =>
    intro i x hx hd
    have hn4 : n ≤ 400 := by
      have : n ≤ (s.size : Int) * n := by
        have h1 : 1 * n ≤ (s.size : Int) * n := Int.mul_le_mul_of_nonneg_right (by omega) (by omega)
        omega
      omega
    have hsz : (rep s i).size ≤ 400 := by
      rw [rep_size]
      have h1 : (i : Int) * (s.size : Int) ≤ n * (s.size : Int) := Int.mul_le_mul_of_nonneg_right (by omega) (by omega)
      rw [Int.mul_comm n] at h1
      have : ((i * s.size : Nat) : Int) ≤ 400 := by rw [Int.natCast_mul]; omega
      omega
    have hs4 : s.size ≤ 400 := by
      have h1 : (s.size : Int) * 1 ≤ (s.size : Int) * n := Int.mul_le_mul_of_nonneg_left hn (by omega)
      omega
    refine Ev.step (fun k => spec_TextMany.l0.eq_2 ..) ?_
    simp only [if_pos (show x < n by omega), if_pos (show (rep s i).size + s.size ≤ 9223372036854775807 by omega)]
    rw [w64 (x := x + 1) (by omega) (by omega), ← rep_succ]
    exact ih (i + 1) (x + 1) (by omega) (by omega)
theorem spec_Many_ev (s : ByteArray) (n : Int) : Ev (fun k => spec_TextMany.f k s n) (manyR s n) := by
  unfold spec_TextMany.f spec_validText.f manyR
  simp only [Option.bind_some, decide_eq_true_eq]
  by_cases h : s.size ≤ 400
  · simp only [if_pos (show (s.size : Int) ≤ 400 by omega)]
    rw [if_pos h]
    have z : ∀ q : Bool, q = true → Ev (fun k => spec_TextMany.j0 k s n q) ((⟨#[]⟩ : ByteArray), true) := by
      rintro q rfl
      refine Ev.step (fun k => spec_TextMany.j0.eq_2 ..) ?_
      simp only [if_true]
      exact Ev.now _
    by_cases hn : n ≤ 0
    · rw [if_pos (.inl hn)]
      simp only [if_pos hn]
      exact z _ rfl
    · simp only [if_neg hn]
      by_cases h0 : s.size = 0
      · rw [if_pos (.inr h0)]
        exact z _ (by rw [beq_iff_eq]; exact (empty_iff s).2 h0)
      · rw [if_neg (by omega)]
        have hq : (s.toList == ([] : List UInt8)) = false := by rw [beq_eq_false_iff_ne]; exact fun e => h0 ((empty_iff s).1 e)
        rw [hq]
        have hd := div_range s (by omega)
        refine Ev.step (fun k => spec_TextMany.j0.eq_2 ..) ?_
        simp only [Bool.false_eq_true, if_false, if_neg (show ¬ (s.size : Int) = 0 by omega)]
        rw [w64 (by omega) (by omega)]
        by_cases hg : n > (400 : Int) / (s.size : Int)
        · simp only [if_pos hg]; exact Ev.now _
        · simp only [if_neg hg]
          have hm : (s.size : Int) * n ≤ 400 := by
            have := (Int.le_ediv_iff_mul_le (show (0 : Int) < (s.size : Int) by omega)).1 (show n ≤ (400 : Int) / (s.size : Int) by omega)
            rwa [Int.mul_comm] at this
          have := spec_l s n (by omega) hm (by omega) n.toNat 0 0 rfl (by omega)
          rw [rep_zero] at this
          exact this
  · simp only [if_neg (show ¬ (s.size : Int) ≤ 400 by omega)]
    rw [if_neg h]
    exact Ev.now _
theorem FnTextMany : laws_FnTextMany.Pure := by
  intro l h0 h1 hw
  refine Ev.rounds (g := fun k => laws_FnTextMany.f k l) ?_
  unfold laws_FnTextMany.f
  by_cases c0 : (l.length : Int) > 1048576
  · simp only [if_pos c0]; exact Ev.now _
  · simp only [if_neg c0]
    obtain ⟨d, hn, hd, -⟩ := newRnd_ok (Bytes.of c0 hw)
    obtain ⟨s, c1, hs, hsl, p0, p1⟩ := text_ok hd (c := 0) (by omega) (by omega)
    obtain ⟨v, c2, hv, g0, g1, g2, g3⟩ := pick_ok hd (n := 60) (c := c1) (by omega) (by omega)
    obtain ⟨n, c3, ho, q0, q1⟩ := often_ok hd (c := c2) (by omega) (by omega) (wrap64 (v - 3))
    have hdr : Ev (fun k => spec_DrawTextMany.f k l) (s, n) := by
      unfold spec_DrawTextMany.f
      simp only [hn, Option.bind_some]
      refine Ev.bind hs ?_
      simp only [hv, ho, Option.bind_some]
      exact Ev.now _
    refine Ev.bind hdr (Ev.bind (impl_Many_ev s n) (Ev.bind (spec_Many_ev s n) ?_))
    simp only [if_true, beq_self_eq_true]
    refine Ev.step (fun k => laws_FnTextMany.j0.eq_2 ..) ?_
    simp only [if_true]
    refine Ev.step (fun k => laws_FnTextMany.j1.eq_2 ..) ?_
    cases hz : (manyR s n).2 with
    | false => simp only [Bool.not_false, if_true]; exact Ev.now _
    | true =>
      simp only [Bool.not_true, Bool.false_eq_true, if_false]
      have h4 : s.size ≤ 400 := by
        unfold manyR at hz
        split at hz
        · assumption
        · simp at hz
      by_cases hn0 : n ≤ 0
      · simp only [if_pos hn0]
        have e : (manyR s n).1 = ⟨#[]⟩ := by
          unfold manyR
          rw [if_pos h4, if_pos (.inl hn0)]
        rw [e]
        have e2 : (⟨#[]⟩ : ByteArray).toList = [] := (empty_iff _).2 rfl
        simp only [e2, if_true]
        exact Ev.now _
      · simp only [if_neg hn0]
        by_cases h0 : s.size = 0
        · have e : ∀ m, manyR s m = (⟨#[]⟩, true) := fun m => by
            unfold manyR
            rw [if_pos h4, if_pos (.inr h0)]
          have hs : s = ⟨#[]⟩ := by
            apply ByteArray.ext
            apply Array.eq_empty_of_size_eq_zero
            exact h0
          refine Ev.bind (impl_Many_ev s _) ?_
          rw [e, e]
          subst hs
          have e2 : (⟨#[]⟩ : ByteArray).toList = ((⟨#[]⟩ : ByteArray) ++ (⟨#[]⟩ : ByteArray)).toList := by rfl
          have e3 : (⟨#[]⟩ : ByteArray).size + (⟨#[]⟩ : ByteArray).size ≤ 9223372036854775807 := by decide
          simp only [if_true, if_pos e2, if_pos e3]
          exact Ev.now _
        · have hd := div_range s (by omega)
          have hng : ¬ n > (400 : Int) / (s.size : Int) := by
            intro hg
            unfold manyR at hz
            rw [if_pos h4, if_neg (by omega), if_pos hg] at hz
            simp at hz
          have e1 : manyR s n = (rep s n.toNat, true) := by
            unfold manyR
            rw [if_pos h4, if_neg (by omega), if_neg hng]
          have e2 : manyR s (n - 1) = (rep s (n.toNat - 1), true) := by
            unfold manyR
            rw [if_pos h4]
            by_cases hn1 : n - 1 ≤ 0
            · rw [if_pos (.inl hn1), show n.toNat - 1 = 0 by omega]; rfl
            · rw [if_neg (by omega), if_neg (by omega), show (n - 1).toNat = n.toNat - 1 by omega]
          have hm : (s.size : Int) * n ≤ 400 := by
            have := (Int.le_ediv_iff_mul_le (show (0 : Int) < (s.size : Int) by omega)).1 (show n ≤ (400 : Int) / (s.size : Int) by omega)
            rwa [Int.mul_comm] at this
          have hsz : (rep s (n.toNat - 1)).size ≤ 400 := by
            rw [rep_size]
            have h1 : ((n.toNat - 1 : Nat) : Int) * (s.size : Int) ≤ n * (s.size : Int) := Int.mul_le_mul_of_nonneg_right (by omega) (by omega)
            rw [Int.mul_comm n] at h1
            have : (((n.toNat - 1) * s.size : Nat) : Int) ≤ 400 := by rw [Int.natCast_mul]; omega
            omega
          rw [w64 (x := n - 1) (by omega) (by omega)]
          refine Ev.bind (impl_Many_ev s _) ?_
          rw [e1, e2]
          have e3 : rep s n.toNat = rep s (n.toNat - 1) ++ s := by
            conv => lhs; rw [show n.toNat = (n.toNat - 1) + 1 by omega, rep_succ]
          simp only [if_true, if_pos (show (rep s (n.toNat - 1)).size + s.size ≤ 9223372036854775807 by omega), ← e3]
          exact Ev.now _
end Go.Proofs.Ytmchcbpjgkgejaa.Pure
