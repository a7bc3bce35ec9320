/- Rows of rows of whole numbers, as the statements measure, copy and compare them (rd_L2: the seat's reading of rows). -/
import Derived.Test.YtckninkpjdcfbaaQ0
import Derived.Test.YtckninkpjdcfbaaQ0
import Derived.Test.YtckninkpjdcfbaaQ5
set_option linter.unusedSimpArgs false
set_option linter.unusedVariables false
namespace Go.Proofs.Ytckninkpjdcfbaa.SS
open Go.RowKit Go.Proofs.Ytckninkpjdcfbaa.Q Go.Proofs.YtckninkpjdcfbaaW.PrintWords
structure Fit (g : List (List Int)) (n : Nat) : Prop where
  len : g.length ≤ n
  rows : ∀ l ∈ g, l.length ≤ n
theorem nx {n : Nat} (h : n ≤ 100000000) : wrap64 ((n : Int) + 1) = ((n + 1 : Nat) : Int) := by unfold wrap64; omega
theorem rdn (l : List Int) {n : Nat} (h : n < l.length) : rd l (n : Int) = l[n] := by unfold rd; simp [h]
theorem rdr (g : List (List Int)) {n : Nat} (h : n < g.length) : rd_L2 g (n : Int) = g[n] := by unfold rd_L2; simp [h]
theorem szIntS_eq (l : List Int) (v : Int) (h0 : 0 ≤ v) (h1 : v ≤ 1048576) (hl : l.length ≤ maxLen) : laws_szIntS.f l v = some (if v - (l.length : Int) < 0 then -1 else v - (l.length : Int)) := by
  unfold laws_szIntS.f
  have e : wrap64 (v - (l.length : Int)) = v - (l.length : Int) := by unfold wrap64; unfold maxLen at hl; omega
  rw [e]
  split <;> rfl
theorem szIntSS_l (g : List (List Int)) (hg : g.length ≤ 1048576) (hm : ∀ l ∈ g, l.length ≤ maxLen) : ∀ (d n : Nat) (v : Int), g.length - n = d → n ≤ g.length → 0 ≤ v → v ≤ 1048576 → (∀ i (h : i < g.length), i < n → g[i].length ≤ 1048576) →
    ∃ r, Ev (fun k => laws_szIntSS.l0 k g v (n : Int)) r ∧ (r < 0 ∨ 0 ≤ r ∧ r ≤ v ∧ ∀ i (h : i < g.length), g[i].length ≤ 1048576) := by
  intro d
  induction d with
  | zero =>
    intro n v h1 h2 h3 h4 h5
    obtain rfl : n = g.length := by omega
    refine ⟨v, Ev.step (fun k => laws_szIntSS.l0.eq_2 ..) ?_, .inr ⟨h3, Int.le_refl _, fun i h => h5 i h h⟩⟩
    simp only [if_neg (show ¬ (g.length : Int) < (g.length : Int) by omega)]
    exact Ev.now _
  | succ d ih =>
    intro n v h1 h2 h3 h4 h5
    have hn : n < g.length := by omega
    have e := szIntS_eq g[n] v h3 h4 (hm _ (List.getElem_mem hn))
    by_cases q : v - (g[n].length : Int) < 0
    · refine ⟨-1, Ev.step (fun k => laws_szIntSS.l0.eq_2 ..) ?_, .inl (by omega)⟩
      simp only [if_pos (show (n : Int) < (g.length : Int) by omega), if_pos (show (0 : Int) ≤ (n : Int) by omega), rdr g hn, e, if_pos q, Option.bind_some, if_pos (show (-1 : Int) < 0 by omega)]
      exact Ev.now _
    · obtain ⟨r, r1, r2⟩ := ih (n + 1) (v - (g[n].length : Int)) (by omega) (by omega) (by omega) (by omega) (fun i h hi => by
        rcases Nat.lt_or_ge i n with z | z
        · exact h5 i h z
        · obtain rfl : i = n := by omega
          omega)
      refine ⟨r, Ev.step (fun k => laws_szIntSS.l0.eq_2 ..) ?_, r2.imp id (fun z => ⟨z.1, by omega, z.2.2⟩)⟩
      simp only [if_pos (show (n : Int) < (g.length : Int) by omega), if_pos (show (0 : Int) ≤ (n : Int) by omega), rdr g hn, e, if_neg q, Option.bind_some, nx (show n ≤ 100000000 by omega)]
      exact r1
theorem szIntSS_ev (g : List (List Int)) (hg : g.length ≤ maxLen) (hm : ∀ l ∈ g, l.length ≤ maxLen) {v : Int} (h0 : 0 ≤ v) (h1 : v ≤ 1048576) : ∃ r, Ev (fun k => laws_szIntSS.f k g v) r ∧ (r < 0 ∨ 0 ≤ r ∧ r ≤ v ∧ Fit g 1048576) := by
  unfold laws_szIntSS.f
  have e : wrap64 (v - (g.length : Int)) = v - (g.length : Int) := by unfold wrap64; unfold maxLen at hg; omega
  rw [e]
  by_cases q : v - (g.length : Int) < 0
  · simp only [if_pos q]
    exact ⟨_, Ev.now _, .inl (by omega)⟩
  · simp only [if_neg q]
    obtain ⟨r, r1, r2⟩ := szIntSS_l g (by omega) hm _ 0 _ rfl (by omega) (show 0 ≤ v - (g.length : Int) by omega) (by omega) (fun i h hi => absurd hi (Nat.not_lt_zero _))
    exact ⟨r, r1, r2.imp id fun z => ⟨z.1, by omega, by omega, fun l hl => by
      obtain ⟨i, hi, rfl⟩ := List.getElem_of_mem hl
      exact z.2.2 i hi⟩⟩
theorem toIntS_l (x : List Int) (hx : x.length ≤ 10000000) : ∀ (d n : Nat) (y : List Int), x.length - n = d → n ≤ x.length → y.length = x.length → y.take n = x.take n → Ev (fun k => laws_toIntS.l0 k x y (n : Int)) x := by
  intro d
  induction d with
  | zero =>
    intro n y h1 h2 h3 h4
    obtain rfl : n = x.length := by omega
    refine Ev.step (fun k => laws_toIntS.l0.eq_2 ..) ?_
    simp only [if_neg (show ¬ (x.length : Int) < (x.length : Int) by omega)]
    rw [List.take_length, ← h3, List.take_length] at h4
    rw [h4]
    exact Ev.now _
  | succ d ih =>
    intro n y h1 h2 h3 h4
    have hn : n < x.length := by omega
    refine Ev.step (fun k => laws_toIntS.l0.eq_2 ..) ?_
    simp only [if_pos (show (n : Int) < (x.length : Int) by omega), if_pos (show (0 : Int) ≤ (n : Int) by omega), if_pos (show (n : Int) < (y.length : Int) by omega), rdn x hn, Int.toNat_natCast, nx (show n ≤ 100000000 by omega)]
    refine ih (n + 1) _ (by omega) (by omega) (by simpa using h3) ?_
    rw [List.take_succ_eq_append_getElem (by simp; omega), List.take_succ_eq_append_getElem hn, List.getElem_set_self, List.take_set_of_le (Nat.le_refl _), h4]
theorem toIntS_ev (x : List Int) (hx : x.length ≤ 10000000) : Ev (fun k => laws_toIntS.f k x) x := by
  unfold laws_toIntS.f
  simp only [if_pos (show (0 : Int) ≤ (x.length : Int) by omega), Int.toNat_natCast, if_pos (show x.length ≤ 35184372088832 by omega)]
  exact toIntS_l x hx _ 0 _ rfl (by omega) (by simp) (by simp)
theorem toIntSS_l (g : List (List Int)) (hg : Fit g 10000000) : ∀ (d n : Nat) (y : List (List Int)), g.length - n = d → n ≤ g.length → y.length = g.length → y.take n = g.take n → Ev (fun k => laws_toIntSS.l0 k g y (n : Int)) g := by
  have hl := hg.len
  intro d
  induction d with
  | zero =>
    intro n y h1 h2 h3 h4
    obtain rfl : n = g.length := by omega
    refine Ev.step (fun k => laws_toIntSS.l0.eq_2 ..) ?_
    simp only [if_neg (show ¬ (g.length : Int) < (g.length : Int) by omega)]
    rw [List.take_length, ← h3, List.take_length] at h4
    rw [h4]
    exact Ev.now _
  | succ d ih =>
    intro n y h1 h2 h3 h4
    have hn : n < g.length := by omega
    refine Ev.step (fun k => laws_toIntSS.l0.eq_2 ..) ?_
    simp only [if_pos (show (n : Int) < (g.length : Int) by omega), if_pos (show (0 : Int) ≤ (n : Int) by omega), if_pos (show (n : Int) < (y.length : Int) by omega), rdr g hn, Int.toNat_natCast, nx (show n ≤ 100000000 by omega)]
    refine Ev.bind (toIntS_ev g[n] (hg.rows _ (List.getElem_mem hn))) ?_
    refine ih (n + 1) _ (by omega) (by omega) (by simpa using h3) ?_
    rw [List.take_succ_eq_append_getElem (by simp; omega), List.take_succ_eq_append_getElem hn, List.getElem_set_self, List.take_set_of_le (Nat.le_refl _), h4]
theorem toIntSS_ev (g : List (List Int)) (hg : Fit g 10000000) : Ev (fun k => laws_toIntSS.f k g) g := by
  have hl := hg.len
  unfold laws_toIntSS.f
  simp only [if_pos (show (0 : Int) ≤ (g.length : Int) by omega), Int.toNat_natCast, if_pos (show g.length ≤ 11728124029610 by omega)]
  exact toIntSS_l g hg _ 0 _ rfl (by omega) (by simp) (by simp)
theorem eqIntS_ev (x : List Int) (hx : x.length ≤ 10000000) : Ev (fun k => laws_eqIntS.f k x x) true := by
  unfold laws_eqIntS.f
  simp only [if_true]
  have key : ∀ (d n : Nat), x.length - n = d → n ≤ x.length → Ev (fun k => laws_eqIntS.l0 k x x (n : Int)) true := by
    intro d
    induction d with
    | zero =>
      intro n h1 h2
      obtain rfl : n = x.length := by omega
      refine Ev.step (fun k => laws_eqIntS.l0.eq_2 ..) ?_
      simp only [if_neg (show ¬ (x.length : Int) < (x.length : Int) by omega)]
      exact Ev.now _
    | succ d ih =>
      intro n h1 h2
      refine Ev.step (fun k => laws_eqIntS.l0.eq_2 ..) ?_
      simp only [if_pos (show (n : Int) < (x.length : Int) by omega), if_pos (show (0 : Int) ≤ (n : Int) by omega), if_true, nx (show n ≤ 100000000 by omega)]
      exact ih (n + 1) (by omega) (by omega)
  exact key _ 0 rfl (by omega)
theorem eqIntSS_ev (g : List (List Int)) (hg : Fit g 10000000) : Ev (fun k => laws_eqIntSS.f k g g) true := by
  have hl := hg.len
  unfold laws_eqIntSS.f
  simp only [if_true]
  have key : ∀ (d n : Nat), g.length - n = d → n ≤ g.length → Ev (fun k => laws_eqIntSS.l0 k g g (n : Int)) true := by
    intro d
    induction d with
    | zero =>
      intro n h1 h2
      obtain rfl : n = g.length := by omega
      refine Ev.step (fun k => laws_eqIntSS.l0.eq_2 ..) ?_
      simp only [if_neg (show ¬ (g.length : Int) < (g.length : Int) by omega)]
      exact Ev.now _
    | succ d ih =>
      intro n h1 h2
      have hn : n < g.length := by omega
      refine Ev.step (fun k => laws_eqIntSS.l0.eq_2 ..) ?_
      simp only [if_pos (show (n : Int) < (g.length : Int) by omega), if_pos (show (0 : Int) ≤ (n : Int) by omega), rdr g hn, nx (show n ≤ 100000000 by omega)]
      refine Ev.bind (eqIntS_ev g[n] (hg.rows _ (List.getElem_mem hn))) ?_
      simp only [if_true]
      exact ih (n + 1) (by omega) (by omega)
  exact key _ 0 rfl (by omega)
end Go.Proofs.Ytckninkpjdcfbaa.SS
