/- The marks of rows of whole numbers, and whether a row holds them. -/
import Derived.Test.YtdlobdhpledbfaaIntSS
import Derived.Test.YtdlobdhpledbfaaQ17
set_option linter.unusedSimpArgs false
set_option linter.unusedVariables false
namespace Go.Proofs.Ytdlobdhpledbfaa.SS
open Go.RowKit Go.Proofs.Ytdlobdhpledbfaa.Q Go.Proofs.YtdlobdhpledbfaaW.PrintWords
theorem gset (x : List Int) (i j : Nat) (v : Int) (hi : i < x.length) : (x.set i v).getD j 0 = if j = i then v else x.getD j 0 := by
  rw [List.getD_eq_getElem?_getD, List.getElem?_set]
  by_cases q : i = j
  · subst q; simp [hi]
  · rw [if_neg q, if_neg (fun z => q z.symm), ← List.getD_eq_getElem?_getD]
theorem mark_l : ∀ (d i : Nat) (x : List Int) (v : Int), x.length - i = d → i ≤ x.length → x.length ≤ 10000000 → 0 ≤ v → v + ((x.length - i : Nat) : Int) ≤ 1000000000000000 →
    ∃ y : List Int, y.length = x.length ∧ (∀ j, j < x.length → y.getD j 0 = if j < i then x.getD j 0 else v + ((j - i : Nat) : Int)) ∧ Ev (fun k => laws_markIntS.l0 k x v (i : Int)) (v + ((x.length - i : Nat) : Int), y) := by
  intro d
  induction d with
  | zero =>
    intro i x v h1 h2 h3 h4 h5
    obtain rfl : i = x.length := by omega
    refine ⟨x, rfl, fun j hj => by rw [if_pos hj], ?_⟩
    refine Ev.step (fun k => laws_markIntS.l0.eq_2 ..) ?_
    simp only [Int.lt_irrefl, if_false]
    rw [Nat.sub_self, show v + ((0 : Nat) : Int) = v by omega]
    exact Ev.now _
  | succ d ih =>
    intro i x v h1 h2 h3 h4 h5
    have hi : i < x.length := by omega
    · obtain ⟨y, y1, y2, y3⟩ := ih (i + 1) (x.set i v) (v + 1) (by rw [List.length_set]; omega) (by rw [List.length_set]; omega) (by rw [List.length_set]; exact h3) (by omega) (by rw [List.length_set]; omega)
      rw [List.length_set] at y1 y2 y3
      refine ⟨y, y1, fun j hj => ?_, ?_⟩
      · rw [y2 j hj, gset x i j v hi]
        by_cases q : j < i
        · rw [if_pos (by omega), if_neg (by omega), if_pos q]
        · by_cases q1 : j = i
          · subst q1
            rw [if_pos (by omega), if_pos rfl, if_neg q]
            omega
          · rw [if_neg (by omega), if_neg q]
            omega
      · refine Ev.step (fun k => laws_markIntS.l0.eq_2 ..) ?_
        simp only [if_pos (show (i : Int) < (x.length : Int) by omega), if_pos (show (0 : Int) ≤ i by omega), Int.toNat_natCast, nx (show i ≤ 100000000 by omega), show wrap64 (v + 1) = v + 1 by unfold wrap64; omega]
        rw [show v + ((x.length - i : Nat) : Int) = v + 1 + ((x.length - (i + 1) : Nat) : Int) by omega]
        exact y3
theorem markS_ev (x : List Int) (v : Int) (h : x.length ≤ 10000000) (h0 : 0 ≤ v) (h1 : v ≤ 100000000000000) : ∃ y : List Int, y.length = x.length ∧ (∀ j, j < x.length → y.getD j 0 = v + (j : Int)) ∧ Ev (fun k => laws_markIntS.f k x v) (v + (x.length : Int), y) := by
  obtain ⟨y, y1, y2, y3⟩ := mark_l _ 0 x v rfl (Nat.zero_le _) h h0 (by omega)
  refine ⟨y, y1, fun j hj => ?_, ?_⟩
  · rw [y2 j hj, if_neg (by omega)]; rfl
  · unfold laws_markIntS.f
    exact y3
theorem heldS_ev (y : List Int) (h : y.length ≤ 10000000) (hy : ∀ j, j < y.length → y.getD j 0 = 1 + (j : Int)) : Ev (fun k => laws_heldIntS.f k y 1) (1 + (y.length : Int)) := by
  unfold laws_heldIntS.f
  have key : ∀ d i, y.length - i = d → i ≤ y.length → Ev (fun k => laws_heldIntS.l0 k y (1 + (i : Int)) (i : Int)) (1 + (y.length : Int)) := by
    intro d
    induction d with
    | zero =>
      intro i h1 h2
      obtain rfl : i = y.length := by omega
      refine Ev.step (fun k => laws_heldIntS.l0.eq_2 ..) ?_
      simp only [Int.lt_irrefl, if_false]
      exact Ev.now _
    | succ d ih =>
      intro i h1 h2
      have hi : i < y.length := by omega
      have := ih (i + 1) (by omega) (by omega)
      have hr : rd y (i : Int) = 1 + (i : Int) := by rw [← hy i hi]; unfold rd; simp
      refine Ev.step (fun k => laws_heldIntS.l0.eq_2 ..) ?_
      simp only [if_pos (show (i : Int) < (y.length : Int) by omega), if_pos (show (0 : Int) ≤ i by omega), hr, if_true, nx (show i ≤ 100000000 by omega), show wrap64 (1 + (i : Int) + 1) = 1 + ((i + 1 : Nat) : Int) by unfold wrap64; omega]
      exact this
  exact key _ 0 rfl (by omega)
theorem markSS_l (n0 : Nat) (hn0 : n0 ≤ 1048576) : ∀ (d i : Nat) (g : List (List Int)) (v : Int), g.length = n0 → g.length - i = d → i ≤ g.length → (∀ l ∈ g, l.length ≤ 1048576) → 0 ≤ v → v ≤ (i : Int) * 1048576 + 1 → ∃ m, Ev (fun k => laws_markIntSS.l0 k g v (i : Int)) m ∧ 0 ≤ m ∧ m ≤ (n0 : Int) * 1048576 + 1 := by
  intro d
  induction d with
  | zero =>
    intro i g v h0 h1 h2 h3 h4 h5
    obtain rfl : i = g.length := by omega
    refine ⟨v, Ev.step (fun k => laws_markIntSS.l0.eq_2 ..) ?_, h4, by rw [← h0]; exact h5⟩
    simp only [Int.lt_irrefl, if_false]
    exact Ev.now _
  | succ d ih =>
    intro i g v h0 h1 h2 h3 h4 h5
    have hi : i < g.length := by omega
    have hr : g.getD i [] = g[i] := by simp [List.getD_eq_getElem?_getD, hi]
    have hl := h3 _ (List.getElem_mem hi)
    obtain ⟨y, y1, _, y3⟩ := markS_ev g[i] v (by omega) h4 (by omega)
    obtain ⟨m, m1, m2, m3⟩ := ih (i + 1) (g.set i y) (v + (g[i].length : Int)) (by simpa using h0) (by simp; omega) (by simp; omega) (fun l hl' => by
      rcases List.mem_or_eq_of_mem_set hl' with q | q
      · exact h3 l q
      · rw [q, y1]; exact hl) (by omega) (by rw [Int.natCast_add, Int.add_mul]; omega)
    refine ⟨m, Ev.step (fun k => laws_markIntSS.l0.eq_2 ..) ?_, m2, m3⟩
    simp only [if_pos (show (i : Int) < (g.length : Int) by omega), if_pos (show (0 : Int) ≤ i by omega), Int.toNat_natCast, hr]
    refine Ev.bind y3 ?_
    simp only [nx (show i ≤ 100000000 by omega)]
    exact m1
theorem markSS_ev (g : List (List Int)) (hg : Fit g 1048576) : ∃ m, Ev (fun k => laws_markIntSS.f k g 1) m ∧ 0 ≤ m ∧ m ≤ 2000000000000 := by
  have hl := hg.len
  obtain ⟨m, m1, m2, m3⟩ := markSS_l g.length hg.len _ 0 g 1 rfl rfl (Nat.zero_le _) hg.rows (by omega) (by omega)
  exact ⟨m, m1, m2, by omega⟩
end Go.Proofs.Ytdlobdhpledbfaa.SS
