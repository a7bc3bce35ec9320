/- Marks. -/
import Derived.Test.YtcfjoidkfopboaaDiSlots
import Derived.Test.YtcfjoidkfopboaaQ0
import Derived.Test.YtcfjoidkfopboaaQ10
set_option linter.unusedVariables false
set_option linter.unusedSimpArgs false
namespace Go.Proofs.Ytcfjoidkfopboaa.DI
open Go.RowKit Go.Proofs.Ytcfjoidkfopboaa.Q Go.Proofs.YtcfjoidkfopboaaW.PrintWords
theorem markInt_l : ∀ (d i : Nat) (x : List Int) (v : Int), x.length - i = d → i ≤ x.length → x.length ≤ 100000000 → 0 ≤ v → v + ((x.length - i : Nat) : Int) ≤ 100000000 →
    ∃ y : List Int, y.length = x.length ∧ (∀ j, j < x.length → y.getD j 0 = if j < i then x.getD j 0 else v + ((j - i : Nat) : Int)) ∧ Ev (fun k => laws_markIntS.l0 k x v (i : Int)) (v + ((x.length - i : Nat) : Int), y) := by
  intro d
  induction d with
  | zero =>
    intro i x v h1 h2 h3 h4 h5
    obtain rfl : i = x.length := by omega
    refine ⟨x, rfl, fun j hj => by rw [if_pos hj], ?_⟩
    refine Ev.step (fun k => laws_markIntS.l0.eq_2 ..) ?_
    simp only [Int.lt_irrefl, if_false]
    rw [Nat.sub_self, show v + ((0 : Nat) : Int) = v by omega]
    exact Ev.now _
  | succ d ih =>
    intro i x v h1 h2 h3 h4 h5
    have hi : i < x.length := by omega
    obtain ⟨y, y1, y2, y3⟩ := ih (i + 1) (x.set i v) (v + 1) (by rw [List.length_set]; omega) (by rw [List.length_set]; omega) (by rw [List.length_set]; exact h3) (by omega) (by rw [List.length_set]; omega)
    rw [List.length_set] at y1 y2 y3
    refine ⟨y, y1, fun j hj => ?_, ?_⟩
    · rw [y2 j hj, getD_set x i j v 0 hi]
      by_cases q : j < i
      · rw [if_pos (by omega), if_neg (by omega), if_pos q]
      · by_cases q1 : j = i
        · subst q1
          rw [if_pos (by omega), if_pos rfl, if_neg q]
          omega
        · rw [if_neg (by omega), if_neg q]
          omega
    · refine Ev.step (fun k => laws_markIntS.l0.eq_2 ..) ?_
      simp only [if_pos (show (i : Int) < (x.length : Int) by omega), if_pos (show (0 : Int) ≤ i by omega), Int.toNat_natCast, wnext hi (show x.length ≤ maxLen by unfold maxLen; omega), w64 (x := v + 1) (by omega) (by omega)]
      rw [show v + ((x.length - i : Nat) : Int) = v + 1 + ((x.length - (i + 1) : Nat) : Int) by omega]
      exact y3
theorem markInt (x : List Int) (h : x.length ≤ 10000000) : ∃ y : List Int, y.length = x.length ∧ (∀ j, j < x.length → y.getD j 0 = 1 + (j : Int)) ∧ Ev (fun k => laws_markIntS.f k x 1) (1 + (x.length : Int), y) := by
  obtain ⟨y, y1, y2, y3⟩ := markInt_l _ 0 x 1 rfl (Nat.zero_le _) (by omega) (by decide) (by omega)
  refine ⟨y, y1, fun j hj => ?_, ?_⟩
  · rw [y2 j hj, if_neg (by omega)]; rfl
  · unfold laws_markIntS.f
    exact y3
theorem heldInt (y : List Int) (h : y.length ≤ 10000000) (hy : ∀ j, j < y.length → y.getD j 0 = 1 + (j : Int)) : Ev (fun k => laws_heldIntS.f k y 1) (1 + (y.length : Int)) := by
  unfold laws_heldIntS.f
  have key : ∀ d i, y.length - i = d → i ≤ y.length → Ev (fun k => laws_heldIntS.l0 k y (1 + (i : Int)) (i : Int)) (1 + (y.length : Int)) := by
    intro d
    induction d with
    | zero =>
      intro i h1 h2
      obtain rfl : i = y.length := by omega
      refine Ev.step (fun k => laws_heldIntS.l0.eq_2 ..) ?_
      simp only [Int.lt_irrefl, if_false]
      exact Ev.now _
    | succ d ih =>
      intro i h1 h2
      have hi : i < y.length := by omega
      have := ih (i + 1) (by omega) (by omega)
      refine Ev.step (fun k => laws_heldIntS.l0.eq_2 ..) ?_
      simp only [if_pos (show (i : Int) < (y.length : Int) by omega), if_pos (show (0 : Int) ≤ i by omega), rdN, hy i hi, if_true, wnext hi (show y.length ≤ maxLen by unfold maxLen; omega), w64 (x := 1 + (i : Int) + 1) (by omega) (by omega)]
      rw [show 1 + (i : Int) + 1 = 1 + ((i + 1 : Nat) : Int) by omega]
      exact this
  exact key _ 0 rfl (Nat.zero_le _)
theorem nums1 (x : Int) : (strOfNums [x]).size = 1 := rfl
theorem markText_l : ∀ (n : Nat) (v : Nat) (s : ByteArray), v < 2 ^ n → n + s.size ≤ 1000 → v ≤ 1000000000 → ∃ t, Ev (fun k => laws_markText.l0 k (v : Int) s) t := by
  have stop : ∀ s : ByteArray, s.size ≤ 1000 → ∃ t, Ev (fun k => laws_markText.l0 k ((0 : Nat) : Int) s) t := by
    intro s hs
    refine ⟨(⟨#[109]⟩ : ByteArray) ++ s, Ev.step (fun k => laws_markText.l0.eq_2 ..) ?_⟩
    simp only [if_neg (show ¬ ((0 : Nat) : Int) > 0 by omega), if_pos (show 1 + s.size ≤ 9223372036854775807 by omega)]
    exact Ev.now _
  intro n
  induction n with
  | zero =>
    intro v s hv hs _
    obtain rfl : v = 0 := by simpa using hv
    exact stop s (by omega)
  | succ n ih =>
    intro v s hv hs hb
    by_cases h0 : v = 0
    · subst h0
      exact stop s (by omega)
    · have e : wrap64 (Int.tdiv (v : Int) 10) = ((v / 10 : Nat) : Int) := by
        rw [Int.tdiv_eq_ediv_of_nonneg (by omega), w64 (by omega) (by omega)]
        omega
      have hp : 2 ^ (n + 1) = 2 * 2 ^ n := by rw [Nat.pow_succ, Nat.mul_comm]
      obtain ⟨t, ht⟩ := ih (v / 10) (strOfNums [(wrap64 (48 + (Int.tmod (v : Int) 10))) % 256] ++ s) (by omega) (by rw [ByteArray.size_append, nums1]; omega) (by omega)
      refine ⟨t, Ev.step (fun k => laws_markText.l0.eq_2 ..) ?_⟩
      simp only [if_pos (show (v : Int) > 0 by omega), Option.bind, nums1, if_pos (show 1 + s.size ≤ 9223372036854775807 by omega), e]
      exact ht
theorem markText_ex (v : Int) (h0 : 0 ≤ v) (h1 : v ≤ 1000000000) : ∃ t, Ev (fun k => laws_markText.f k v) t := by
  unfold laws_markText.f
  by_cases h : v ≤ 0
  · simp only [if_pos h]; exact ⟨_, Ev.now _⟩
  · simp only [if_neg h]
    obtain ⟨n, rfl⟩ : ∃ n : Nat, v = (n : Int) := ⟨v.toNat, by omega⟩
    exact markText_l 40 n _ (by omega) (by decide) (by omega)
def markOne (x : List S52) (i : Int) (t : ByteArray) (v : Int) : List S52 :=
  let y1 := x.set i.toNat (⟨t, (rd_T52 x i).f1, (rd_T52 x i).f2, (rd_T52 x i).f3⟩ : S52)
  let y2 := y1.set i.toNat (⟨(rd_T52 y1 i).f0, v + 1, (rd_T52 y1 i).f2, (rd_T52 y1 i).f3⟩ : S52)
  let y3 := y2.set i.toNat (⟨(rd_T52 y2 i).f0, (rd_T52 y2 i).f1, v + 1 + 1, (rd_T52 y2 i).f3⟩ : S52)
  y3.set i.toNat (⟨(rd_T52 y3 i).f0, (rd_T52 y3 i).f1, (rd_T52 y3 i).f2, ((Int.tmod (v + 1 + 1 + 1) 3) == 0)⟩ : S52)
theorem markOne_len (x : List S52) (i : Int) (t : ByteArray) (v : Int) : (markOne x i t v).length = x.length := by
  unfold markOne
  simp only [List.length_set]
theorem markEnt_l (m : Nat) (hm : m ≤ 1048576) : ∀ (d i : Nat) (x : List S52) (v : Int), m - i = d → i ≤ m → x.length = m → 0 ≤ v → v + 4 * ((m - i : Nat) : Int) ≤ 100000000 → ∃ r, Ev (fun k => laws_markEntryS.l0 k x v (i : Int)) r ∧ 0 ≤ r.1 := by
  intro d
  induction d with
  | zero =>
    intro i x v h1 h2 h3 h4 h5
    obtain rfl : i = m := by omega
    refine ⟨(v, x), Ev.step (fun k => laws_markEntryS.l0.eq_2 ..) ?_, h4⟩
    simp only [h3, Int.lt_irrefl, if_false]
    exact Ev.now _
  | succ d ih =>
    intro i x v h1 h2 h3 h4 h5
    have hi : i < m := by omega
    obtain ⟨t, ht⟩ := markText_ex v h4 (by omega)
    have w1 : wrap64 (v + 1) = v + 1 := w64 (by omega) (by omega)
    have w2 : wrap64 (v + 1 + 1) = v + 1 + 1 := w64 (by omega) (by omega)
    have w3 : wrap64 (v + 1 + 1 + 1) = v + 1 + 1 + 1 := w64 (by omega) (by omega)
    have w4 : wrap64 (v + 1 + 1 + 1 + 1) = v + 1 + 1 + 1 + 1 := w64 (by omega) (by omega)
    have go : ∀ y : List S52, y.length = m → ∃ r, Ev (fun k => laws_markEntryS.l0 k y (v + 1 + 1 + 1 + 1) ((i + 1 : Nat) : Int)) r ∧ 0 ≤ r.1 := fun y hy => ih (i + 1) y _ (by omega) (by omega) hy (by omega) (by omega)
    obtain ⟨r, hr, hr0⟩ := go (markOne x (i : Int) t v) (by rw [markOne_len]; exact h3)
    refine ⟨r, Ev.step (fun k => laws_markEntryS.l0.eq_2 ..) ?_, hr0⟩
    simp only [h3, if_pos (show (i : Int) < (m : Int) by omega), if_pos (show (0 : Int) ≤ i by omega), w1, w2, w3, w4, wnext hi (show m ≤ maxLen by unfold maxLen; omega)]
    exact Ev.bind ht hr
end Go.Proofs.Ytcfjoidkfopboaa.DI
